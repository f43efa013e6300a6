/- Part 1 of what WidthLeast rests on: contracts of the functions that it reaches, and what they compute, in plain words. -/
import Derived.Test.YtoffehihicabcaaDoorZWidthLeast0
import Derived.Laws.EntriesVeiled
import Derived.WalkSpells
import Derived.Carry
set_option linter.unusedVariables false
set_option linter.unusedSimpArgs false
section
/- widths, width, Width: the width of a valid graph. -/
namespace Go.Proofs.YtoffehihicabcaaDoor.X
open Go.RowKit YtoffehihicabcaaDoorW.PrintWords YtoffehihicabcaaDoorW.PrintLast YtoffehihicabcaaDoorW.PrintMore YtoffehihicabcaaDoor.T
def PS (G : List Nat) (S x : Nat) : Prop := ∀ k, x ≤ k ↔ ElimG G k S
theorem mx_nat (a b : Nat) : mx (a : Int) (b : Int) = ((max a b : Nat) : Int) := by unfold mx; split <;> omega
theorem mn_nat (a b : Nat) : mn (a : Int) (b : Int) = ((min a b : Nat) : Int) := by unfold mn; split <;> omega
def Good (G : List Nat) (r : List Int) : Prop := ∃ W : List Nat, r = gi W ∧ W.length = 2 ^ G.length ∧ ∀ S, S < 2 ^ G.length → PS G S (W.getD S 0)
theorem getD_set (W : List Nat) (i j x : Nat) (hi : i < W.length) : (W.set i x).getD j 0 = if j = i then x else W.getD j 0 := by
 simp only [List.getD_eq_getElem?_getD, List.getElem?_set]
 by_cases h : i = j
 ·subst h; simp [hi]
 ·rw [if_neg h, if_neg (fun e => h e.symm)]
theorem widths_l1 (G : List Nat) (hG : Gr 9 G) (S : Nat) (hS : S < 2 ^ G.length) (h0 : S ≠ 0)
  (cont : ∀ W : List Nat, W.length = 2 ^ G.length → (∀ T, T < S + 1 → PS G T (W.getD T 0)) → ∃ r, Ev (fun k => width_town_widths.l0 k (gi G) (gi W) ((S + 1 : Nat) : Int)) r ∧ Good G r) :
  ∀ d i (W : List Nat), i + d = (els S 9).length → W.length = 2 ^ G.length → (∀ T, T < S → PS G T (W.getD T 0)) →
   (∀ k, W.getD S 0 ≤ k ↔ G.length ≤ k ∨ ∃ v, v ∈ (els S 9).take i ∧ ElimG G k (diff S (2 ^ v)) ∧ pc (nbset G (diff S (2 ^ v)) v) 9 ≤ k) →
   ∃ r, Ev (fun k => width_town_widths.l1 k (gi G) (gi W) (S : Int) (gi (els S 9)) ((els S 9).length : Int) (i : Int)) r ∧ Good G r := by
 have hS5 := small G hG.most hS
 have h29 : 2 ^ G.length ≤ 2 ^ 9 := Nat.pow_le_pow_right (by omega) hG.most
 have hn := hG.most
 have hlen : (els S 9).length ≤ 9 := by rw [els_length]; exact pc_le _ _
 intro d
 induction d with
 | zero =>
  intro i W hi hW hT hc
  have hPS : PS G S (W.getD S 0) := by
   intro k
   rw [hc k]
   by_cases hk : G.length ≤ k
   ·exact ⟨fun _ => elimG_big hG hk S hS, fun _ => .inl hk⟩
   ·rw [elimG_step hG hS h0]
    have e : (els S 9).take i = els S 9 := List.take_of_length_le (by omega)
    rw [e]
    constructor
    ·rintro (h | ⟨v, hv, h1, h2⟩)
     ·exact (hk h).elim
     ·exact ⟨v, (mem_els.1 hv).2, h1, by rwa [← pc_nine (nbset_lt hG _ _) hn]⟩
    ·rintro ⟨v, hv, h1, h2⟩
     exact .inr ⟨v, mem_els.2 ⟨Nat.lt_of_lt_of_le (bit_lt hS hv) hn, hv⟩, h1, by rwa [pc_nine (nbset_lt hG _ _) hn]⟩
  obtain ⟨r, h1, h2⟩ := cont W hW (fun T hT' => by
   by_cases e : T = S
   ·subst e; exact hPS
   ·exact hT T (by omega))
  refine ⟨r, Ev.step (fun k => ?_) h1, h2⟩
  rw [width_town_widths.l1, if_neg (by omega), wrap_succ S (by omega)]
 | succ d ih =>
  intro i W hi hW hT hc
  have hi' : i < (els S 9).length := by omega
  have hmem := List.getElem_mem hi'
  have hv := (mem_els.1 hmem).2
  have hvn := bit_lt hS hv
  have hr : rd (gi (els S 9)) (i : Int) = (((els S 9)[i] : Nat) : Int) := by rw [rd_gi, List.getD_eq_getElem?_getD, List.getElem?_eq_getElem hi']; rfl
  generalize hev : (els S 9)[i] = v at hr hv hvn hmem
  have hp : 2 ^ v < 2 ^ G.length := Nat.pow_lt_pow_right (by omega) hvn
  have hd : diff S (2 ^ v) < S := diff_lt hv
  have hdl : diff S (2 ^ v) < 2 ^ G.length := by omega
  have hdeg := degree_ev G hG (diff S (2 ^ v)) v hdl hvn
  obtain ⟨r, h1, h2⟩ := ih (i + 1) (W.set S (min (W.getD S 0) (max (W.getD (diff S (2 ^ v)) 0) (pc (nbset G (diff S (2 ^ v)) v) 9)))) (by omega) (by simpa using hW)
   (fun T hT' => by
    rw [getD_set W _ _ _ (by omega), if_neg (by omega)]
    exact hT T hT')
   (fun k => by
    rw [getD_set W _ _ _ (by omega), if_pos rfl]
    have hps := hT _ hd k
    have htake : (els S 9).take (i + 1) = (els S 9).take i ++ [v] := by rw [List.take_succ_eq_append_getElem hi', hev]
    rw [htake]
    constructor
    ·intro h
     by_cases hk : W.getD S 0 ≤ k
     ·rcases (hc k).1 hk with h | ⟨u, hu, h3⟩
      ·exact .inl h
      ·exact .inr ⟨u, List.mem_append_left _ hu, h3⟩
     ·refine .inr ⟨v, List.mem_append_right _ (List.mem_singleton.2 rfl), hps.1 (by omega), by omega⟩
    ·rintro (h | ⟨u, hu, h3, h4⟩)
     ·have := (hc k).2 (.inl h); omega
     ·rcases List.mem_append.1 hu with hu | hu
      ·have := (hc k).2 (.inr ⟨u, hu, h3, h4⟩); omega
      ·obtain rfl := List.mem_singleton.1 hu
       have := hps.2 h3
       omega)
  refine ⟨r, Ev.step (f := fun k => (width_town_degree.f k (gi G) (v : Int) ((diff S (2 ^ v) : Nat) : Int)).bind fun t => width_town_widths.l1 k (gi G) ((gi W).set (S : Int).toNat (mn (rd (gi W) (S : Int)) (mx (rd (gi W) ((diff S (2 ^ v) : Nat) : Int)) t))) (S : Int) (gi (els S 9)) ((els S 9).length : Int) ((i + 1 : Nat) : Int)) (fun k => ?_) (Ev.bind hdeg ?_), h2⟩
  ·rw [width_town_widths.l1, if_pos (by omega), if_pos (by omega), if_pos (by rw [gi_length]; omega), if_pos (by omega), if_pos (by rw [gi_length]; omega), hr, if_pos (by omega), s_one v (by omega),
    b_andNot S (2 ^ v) (big hS5) (big (small G hn hp)), if_pos (by omega), if_pos (by rw [gi_length]; omega), wrap_succ i (by omega)]
  ·simp only [rd_gi, mx_nat, mn_nat, Int.toNat_natCast, gi_set]
   exact h1
theorem widths_l0 (G : List Nat) (hG : Gr 9 G) : ∀ d S (W : List Nat), S + d = 2 ^ G.length → 0 < S → W.length = 2 ^ G.length → (∀ T, T < S → PS G T (W.getD T 0)) →
  ∃ r, Ev (fun k => width_town_widths.l0 k (gi G) (gi W) (S : Int)) r ∧ Good G r := by
 have h29 : 2 ^ G.length ≤ 2 ^ 9 := Nat.pow_le_pow_right (by omega) hG.most
 intro d
 induction d with
 | zero =>
  intro S W hS h0 hW hT
  refine ⟨gi W, Ev.step (f := fun _ => some (gi W)) (fun k => ?_) (Ev.some rfl), W, rfl, hW, fun T h => hT T (by omega)⟩
  rw [width_town_widths.l0, if_neg (by rw [gi_length]; omega)]
 | succ d ih =>
  intro S W hS h0 hW hT
  have hSn : S < 2 ^ G.length := by omega
  have hS5 := small G hG.most hSn
  obtain ⟨r, h1, h2⟩ := widths_l1 G hG S hSn (by omega) (fun W' hW' hT' => ih (S + 1) W' (by omega) (by omega) hW' hT') (els S 9).length 0 (W.set S G.length) (by omega) (by simpa using hW)
   (fun T hT' => by
    rw [getD_set W _ _ _ (by omega), if_neg (by omega)]
    exact hT T hT')
   (fun k => by
    rw [getD_set W _ _ _ (by omega), if_pos rfl]
    simp)
  refine ⟨r, Ev.step (fun k => by rw [width_town_widths.l0, if_pos (by rw [gi_length]; omega), if_pos (by omega)]) (Ev.bind (nodes_ev S hS5) ?_), h2⟩
  simp only [Int.toNat_natCast, gi_length]
  have e : (gi W).set S (G.length : Int) = gi (W.set S G.length) := gi_set W S G.length
  rw [e]
  exact h1
theorem widths_ev (G : List Nat) (hG : Gr 9 G) : ∃ r, Ev (fun k => width_town_widths.f k (gi G)) r ∧ Good G r := by
 have h29 : 2 ^ G.length ≤ 2 ^ 9 := Nat.pow_le_pow_right (by omega) hG.most
 have h2p := Nat.two_pow_pos G.length
 have hn := hG.most
 obtain ⟨r, h1, h2⟩ := widths_l0 G hG (2 ^ G.length - 1) 1 (List.replicate (2 ^ G.length) 0) (by omega) (by omega) (by simp)
  (fun T hT k => by
   have : T = 0 := by omega
   subst this
   have e : (List.replicate (2 ^ G.length) 0).getD 0 0 = 0 := by
    rw [List.getD_eq_getElem?_getD, List.getElem?_replicate]; split <;> rfl
   rw [e]
   exact ⟨fun _ => elimG_zero G k, fun _ => Nat.zero_le k⟩)
 refine ⟨r, Ev.congr (fun k => ?_) h1, h2⟩
 unfold width_town_widths.f
 rw [gi_length, s_one _ (by omega), if_pos (by omega), Int.toNat_natCast, if_pos (by omega)]
 have e : List.replicate (2 ^ G.length) (0 : Int) = gi (List.replicate (2 ^ G.length) 0) := by simp [gi]
 rw [e]
 rfl
theorem width_ev (G : List Nat) (hG : Gr 9 G) : ∃ W : Nat, IsWidth G W ∧ Ev (fun k => width_town_width.f k (gi G)) (W : Int) := by
 have h2p := Nat.two_pow_pos G.length
 obtain ⟨r, h1, W, rfl, hW, hg⟩ := widths_ev G hG
 refine ⟨W.getD (2 ^ G.length - 1) 0, hg _ (by omega), ?_⟩
 unfold width_town_width.f
 refine Ev.bind h1 (Ev.bind1 (all_eq G hG.most) ?_)
 refine Ev.if_pos (by omega) (Ev.if_pos (by rw [gi_length]; omega) (Ev.some ?_))
 rw [rd_gi]
theorem Width_ev (G : List Nat) (hG : Gr 9 G) : ∃ W : Nat, IsWidth G W ∧ Ev (fun k => width_Width.f k (gi G)) ((W : Int), 0) := by
 obtain ⟨W, h1, h2⟩ := width_ev G hG
 have hc : chk 9 (gi G) = true := (chk_iff 9 (by omega) _).2 ⟨G, rfl, hG⟩
 have hr := read_ev (gi G) (by rw [gi_length]; have := hG.most; omega)
 rw [hc] at hr
 refine ⟨W, h1, ?_⟩
 unfold width_Width.f
 exact Ev.bind hr (Ev.if_pos rfl (Ev.bind h2 (Ev.some rfl)))
theorem Width_bad (g : List Int) (hl : g.length < 2 ^ 60) (h : chk 9 g = false) : Ev (fun k => width_Width.f k g) (0, 2) := by
 have hr := read_ev g hl
 rw [h] at hr
 unfold width_Width.f
 exact Ev.bind hr (Ev.if_neg (by simp) (Ev.some rfl))
theorem awake_ev : Ev (fun k => lampblacklaw02_awake.f k) true := Ev.of (lampblacklaw02_awake.mono) (k := 40) (by decide +kernel)
end Go.Proofs.YtoffehihicabcaaDoor.X
end
section
/- Lists that have the numbers below n, each once. -/
namespace Go.Proofs.YtoffehihicabcaaDoor.T
open Go.RowKit YtoffehihicabcaaDoorW.PrintWords YtoffehihicabcaaDoorW.PrintLast YtoffehihicabcaaDoorW.PrintMore
def IsOrd (n : Nat) (l : List Int) : Prop := ∃ P : List Nat, l = gi P ∧ P.Nodup ∧ (∀ v ∈ P, v < n) ∧ P.length = n
theorem gi_inj {a b : List Nat} (h : gi a = gi b) : a = b := by
 induction a generalizing b with
 | nil => cases b with
  | nil => rfl
  | cons => simp [gi] at h
 | cons x a ih => cases b with
  | nil => simp [gi] at h
  | cons y b =>
   simp only [gi, List.map_cons, List.cons.injEq] at h
   rw [ih (show gi a = gi b from h.2)]
   congr 1
   omega
theorem gi_snoc (P : List Nat) (v : Nat) : gi P ++ [(v : Int)] = gi (P ++ [v]) := by simp [gi]
theorem split_dup {P : List Nat} (h : ¬ P.Nodup) : ∃ L x R, P = L ++ x :: R ∧ x ∈ R := by
 induction P with
 | nil => exact (h List.nodup_nil).elim
 | cons a P ih =>
  by_cases ha : a ∈ P
  ·exact ⟨[], a, P, rfl, ha⟩
  ·obtain ⟨L, x, R, h1, h2⟩ := ih fun hn => h (List.nodup_cons.2 ⟨ha, hn⟩)
   exact ⟨a :: L, x, R, by rw [h1]; rfl, h2⟩
theorem nodup_of_covers {P : List Nat} {n : Nat} (hl : P.length ≤ n) (h : ∀ j, j < n → j ∈ P) : P.Nodup := by
 apply Classical.byContradiction
 intro hn
 obtain ⟨L, x, R, e, hx⟩ := split_dup hn
 have := nodup_le (List.nodup_range (n := n)) (m := L ++ R) fun j hj => by
  have h1 := h j (List.mem_range.1 hj)
  rw [e] at h1
  rcases List.mem_append.1 h1 with h2 | h2
  ·exact List.mem_append_left _ h2
  ·rcases List.mem_cons.1 h2 with h3 | h3
   ·subst h3; exact List.mem_append_right _ hx
   ·exact List.mem_append_right _ h3
 rw [e] at hl
 simp at this hl
 omega
theorem covers_of_nodup {P : List Nat} {n : Nat} (hl : P.length = n) (hn : P.Nodup) (h : ∀ v ∈ P, v < n) (j : Nat) (hj : j < n) : j ∈ P := by
 apply Classical.byContradiction
 intro hno
 have := nodup_le (List.nodup_cons.2 ⟨hno, hn⟩) (m := List.range n) fun x hx => by
  rcases List.mem_cons.1 hx with e | e
  ·subst e; exact List.mem_range.2 hj
  ·exact List.mem_range.2 (h x e)
 simp at this
 omega
def lset : List Nat → Nat
 | [] => 0
 | v :: P => lset P ||| 2 ^ v
theorem lset_bit (P : List Nat) (j : Nat) : bset (lset P) j ↔ j ∈ P := by
 induction P with
 | nil => simp [lset, bset]
 | cons v P ih => rw [lset, or_bset, ih, two_pow_bit, List.mem_cons]; exact Or.comm
theorem lset_lt {P : List Nat} {n : Nat} (h : ∀ v ∈ P, v < n) : lset P < 2 ^ n := lt_of_bits fun j hj => h j ((lset_bit P j).1 hj)
theorem lset_snoc (P : List Nat) (v : Nat) : lset (P ++ [v]) = lset P ||| 2 ^ v := eq_of_bits fun j => by
 show bset _ _ ↔ bset _ _
 rw [lset_bit, or_bset, lset_bit, two_pow_bit, List.mem_append, List.mem_singleton]
theorem take_snoc {l : List Int} {i : Nat} {P : List Nat} (h : l.take i = gi P) (hi : i < l.length) (v : Nat) (hv : rd l (i : Int) = (v : Int)) : l.take (i + 1) = gi (P ++ [v]) := by
 rw [List.take_add_one, h, ← gi_snoc]
 congr 1
 unfold rd at hv
 rw [Int.toNat_natCast, List.getD_eq_getElem?_getD, List.getElem?_eq_getElem hi] at hv
 rw [List.getElem?_eq_getElem hi]
 simp at hv ⊢
 exact hv
theorem IsOrd.get {n : Nat} {l : List Int} (h : IsOrd n l) (i : Nat) (hi : i < l.length) : ∃ v : Nat, rd l (i : Int) = (v : Int) ∧ v < n := by
 obtain ⟨P, rfl, _, h3, _⟩ := h
 rw [gi_length] at hi
 refine ⟨P.getD i 0, rd_gi P i, h3 _ ?_⟩
 rw [List.getD_eq_getElem?_getD, List.getElem?_eq_getElem hi]
 exact List.getElem_mem hi
theorem IsOrd.of {n : Nat} {P : List Nat} (h1 : P.Nodup) (h2 : ∀ v ∈ P, v < n) : IsOrd n (gi P) ↔ P.length = n := by
 constructor
 ·rintro ⟨Q, e, _, _, h⟩
  rw [gi_inj e]; exact h
 ·intro h; exact ⟨P, rfl, h1, h2, h⟩
theorem IsOrd.length {n : Nat} {l : List Int} (h : IsOrd n l) : l.length = n := by
 obtain ⟨P, rfl, _, _, h⟩ := h
 rw [gi_length, h]
end Go.Proofs.YtoffehihicabcaaDoor.T
end
section
/- The first best order of elimination: behind which nodes an order of some width goes on. -/
namespace Go.Proofs.YtoffehihicabcaaDoor.T
open Go.RowKit YtoffehihicabcaaDoorW.PrintWords YtoffehihicabcaaDoorW.PrintLast YtoffehihicabcaaDoorW.PrintMore
noncomputable def dg (G : List Nat) (gone v : Nat) : Nat := pc (nbset G gone v) 9
def lft (G : List Nat) (gone : Nat) : Nat := diff (2 ^ G.length - 1) gone
theorem lft_bit (G : List Nat) (gone v : Nat) : bset (lft G gone) v ↔ v < G.length ∧ ¬ bset gone v := by
 unfold lft; rw [diff_bset, all_bit]
theorem lft_lt (G : List Nat) (gone : Nat) : lft G gone < 2 ^ G.length := by
 have := Nat.two_pow_pos G.length
 exact Nat.lt_of_le_of_lt (diff_le _ _) (by omega)
noncomputable def canD (G : List Nat) (k : Nat) : Nat → Nat → Bool
 | 0, _ => true
 | d + 1, gone => (els (lft G gone) 9).any fun v => decide (dg G gone v ≤ k) && canD G k d (gone ||| 2 ^ v)
noncomputable def canB (G : List Nat) (k gone : Nat) : Bool := canD G k (pc (lft G gone) 9) gone
theorem eq_bits {x y : Nat} (h : ∀ j, bset x j ↔ bset y j) : x = y := Nat.eq_of_testBit_eq fun j => by
 have := h j
 unfold bset at this
 exact Bool.eq_iff_iff.2 this
theorem or_bit (x v j : Nat) : bset (x ||| 2 ^ v) j ↔ bset x j ∨ j = v := by
 unfold bset
 rw [Nat.testBit_or, Bool.or_eq_true]
 have := two_pow_bit v j
 unfold bset at this
 rw [this]
theorem lft_or {G : List Nat} {gone v : Nat} : lft G (gone ||| 2 ^ v) = diff (lft G gone) (2 ^ v) := by
 apply eq_bits
 intro j
 rw [lft_bit, or_bit, diff_bset, lft_bit, two_pow_bit, not_or]
 exact and_assoc.symm
theorem pc_drop {X v : Nat} (hX : X < 512) (hv : bset X v) : pc X 9 = pc (diff X (2 ^ v)) 9 + 1 := by
 have hv9 : v < 9 := bit_lt hX hv
 have h1 : (els X 9).length = pc X 9 := els_length X 9
 have h2 : (els (diff X (2 ^ v)) 9).length = pc (diff X (2 ^ v)) 9 := els_length _ 9
 have hm : v ∈ els X 9 := mem_els.2 ⟨hv9, hv⟩
 have h3 : ∀ x, x ∈ els (diff X (2 ^ v)) 9 ↔ x ∈ (els X 9).erase v := fun x => by
  rw [(els_nodup X 9).mem_erase_iff, mem_els, mem_els]
  have := diff_bset X (2 ^ v) x
  unfold bset at this
  rw [this]
  have h4 := two_pow_bit v x
  unfold bset at h4
  rw [h4]
  exact ⟨fun ⟨a, b, c⟩ => ⟨c, a, b⟩, fun ⟨c, a, b⟩ => ⟨a, b, c⟩⟩
 have h4 : (els (diff X (2 ^ v)) 9).length = ((els X 9).erase v).length := Nat.le_antisymm (nodup_le (els_nodup _ _) fun x hx => (h3 x).1 hx) (nodup_le ((els_nodup X 9).erase v) fun x hx => (h3 x).2 hx)
 rw [List.length_erase_of_mem hm] at h4
 have : 0 < (els X 9).length := List.length_pos_of_mem hm
 omega
section
variable {G : List Nat} (hn : G.length ≤ 9)
include hn
theorem lft_small (gone : Nat) : lft G gone < 512 := Nat.lt_of_lt_of_le (lft_lt G gone) (show 2 ^ G.length ≤ 2 ^ 9 from Nat.pow_le_pow_right (by omega) hn)
theorem pc_lft {gone v : Nat} (hv : bset (lft G gone) v) : pc (lft G gone) 9 = pc (lft G (gone ||| 2 ^ v)) 9 + 1 := by
 rw [lft_or]
 exact pc_drop (lft_small hn gone) hv
omit hn in
theorem lft_all : lft G (2 ^ G.length - 1) = 0 := eq_bits fun j => by
 rw [lft_bit, all_bit]
 simp [bset]
omit hn in
theorem canB_all (k : Nat) : canB G k (2 ^ G.length - 1) = true := by
 unfold canB
 rw [lft_all]
 rfl
omit hn in
theorem pc_pos {X : Nat} (hX : X < 512) (h0 : X ≠ 0) : pc X 9 ≠ 0 := by
 obtain ⟨v, hv⟩ := some_bit h0
 have := pc_drop hX hv
 omega
omit hn in
theorem lft_ne {gone : Nat} (hg : gone < 2 ^ G.length) (hne : gone ≠ 2 ^ G.length - 1) : lft G gone ≠ 0 := fun h => hne (eq_bits fun j => by
 rw [all_bit]
 constructor
 ·exact fun hj => bit_lt hg hj
 ·intro hj
  apply Classical.byContradiction
  intro hb
  have := (lft_bit G gone j).2 ⟨hj, hb⟩
  rw [h] at this
  simp [bset] at this)
theorem canB_step {k gone : Nat} (hg : gone < 2 ^ G.length) (hne : gone ≠ 2 ^ G.length - 1) :
  canB G k gone = (els (lft G gone) 9).any fun v => decide (dg G gone v ≤ k) && canB G k (gone ||| 2 ^ v) := by
 have h1 := pc_pos (lft_small hn gone) (lft_ne hg hne)
 unfold canB
 obtain ⟨d, hd⟩ := Nat.exists_eq_succ_of_ne_zero h1
 rw [hd, canD]
 rw [Bool.eq_iff_iff, List.any_eq_true, List.any_eq_true]
 have key : ∀ v, v ∈ els (lft G gone) 9 → pc (lft G (gone ||| 2 ^ v)) 9 = d := fun v hv => by
  have := pc_lft hn (mem_els.1 hv).2
  omega
 constructor
 ·rintro ⟨v, hv, h⟩
  exact ⟨v, hv, by rw [key v hv]; exact h⟩
 ·rintro ⟨v, hv, h⟩
  refine ⟨v, hv, ?_⟩
  rw [key v hv] at h
  exact h
theorem canB_true {k gone : Nat} (hg : gone < 2 ^ G.length) (hne : gone ≠ 2 ^ G.length - 1) : canB G k gone = true ↔ ∃ v, bset (lft G gone) v ∧ dg G gone v ≤ k ∧ canB G k (gone ||| 2 ^ v) = true := by
 rw [canB_step hn hg hne, List.any_eq_true]
 constructor
 ·rintro ⟨v, hv, h⟩
  rw [Bool.and_eq_true, decide_eq_true_eq] at h
  exact ⟨v, (mem_els.1 hv).2, h.1, h.2⟩
 ·rintro ⟨v, hv, h1, h2⟩
  exact ⟨v, mem_els.2 ⟨bit_lt (lft_small hn gone) hv, hv⟩, by rw [Bool.and_eq_true, decide_eq_true_eq]; exact ⟨h1, h2⟩⟩
omit hn in
theorem or_in {gone v : Nat} (hg : gone < 2 ^ G.length) (hv : bset (lft G gone) v) : gone ||| 2 ^ v < 2 ^ G.length :=
 Nat.or_lt_two_pow hg (Nat.pow_lt_pow_right (by omega) ((lft_bit G gone v).1 hv).1)
theorem canB_from {m : Nat} (hG : Gr m G) {k : Nat} : ∀ S, S < 2 ^ G.length → ElimG G k S → canB G k S = true → canB G k 0 = true := by
 intro S
 induction S using Nat.strongRecOn with
 | _ S ih =>
  intro hS hE hc
  by_cases h0 : S = 0
  ·subst h0; exact hc
  ·obtain ⟨v, hv, h1, h2⟩ := (elimG_step hG hS h0).1 hE
   have hd := diff_lt hv
   refine ih _ hd (by omega) h1 ?_
   have hvn : v < G.length := bit_lt hS hv
   have hvb : bset (lft G (diff S (2 ^ v))) v := (lft_bit _ _ _).2 ⟨hvn, fun h => ((diff_bset _ _ _).1 h).2 ((two_pow_bit v v).2 rfl)⟩
   refine (canB_true hn (by omega) (by omega)).2 ⟨v, hvb, ?_, ?_⟩
   ·unfold dg
    rw [pc_nine (nbset_lt hG _ _) hn]
    exact h2
   ·rw [show diff S (2 ^ v) ||| 2 ^ v = S from eq_bits fun j => by
     rw [or_bit, diff_bset, two_pow_bit]
     constructor
     ·rintro (h | rfl)
      ·exact h.1
      ·exact hv
     ·intro h
      by_cases e : j = v
      ·exact .inr e
      ·exact .inl ⟨h, e⟩]
    exact hc
theorem canB_elim {m : Nat} (hG : Gr m G) {k : Nat} : ∀ d gone, pc (lft G gone) 9 = d → gone < 2 ^ G.length → ElimG G k gone → canB G k gone = true → ElimG G k (2 ^ G.length - 1) := by
 intro d
 induction d with
 | zero =>
  intro gone hd hg hE hc
  by_cases hne : gone = 2 ^ G.length - 1
  ·rw [← hne]; exact hE
  ·exact absurd hd (pc_pos (lft_small hn gone) (lft_ne hg hne))
 | succ d ih =>
  intro gone hd hg hE hc
  by_cases hne : gone = 2 ^ G.length - 1
  ·rw [← hne]; exact hE
  ·obtain ⟨v, hv, h1, h2⟩ := (canB_true hn hg hne).1 hc
   have h3 := pc_lft hn hv
   have hor := or_in hg hv
   have hvb := (lft_bit G gone v).1 hv
   refine ih _ (by omega) hor ?_ h2
   refine (elimG_step hG hor (fun h => ?_)).2 ⟨v, (or_bit _ _ _).2 (.inr rfl), ?_, ?_⟩
   ·have : bset (gone ||| 2 ^ v) v := (or_bit _ _ _).2 (.inr rfl)
    rw [h] at this
    simp [bset] at this
   ·rw [show diff (gone ||| 2 ^ v) (2 ^ v) = gone from eq_bits fun j => by
     rw [diff_bset, or_bit, two_pow_bit]
     constructor
     ·rintro ⟨h | h, h'⟩
      ·exact h
      ·exact absurd h h'
     ·intro h
      exact ⟨.inl h, fun e => hvb.2 (e ▸ h)⟩]
    exact hE
   ·rw [show diff (gone ||| 2 ^ v) (2 ^ v) = gone from eq_bits fun j => by
     rw [diff_bset, or_bit, two_pow_bit]
     constructor
     ·rintro ⟨h | h, h'⟩
      ·exact h
      ·exact absurd h h'
     ·intro h
      exact ⟨.inl h, fun e => hvb.2 (e ▸ h)⟩]
    unfold dg at h1
    rw [← pc_nine (nbset_lt hG _ _) hn]
    exact h1
theorem canB_zero {m : Nat} (hG : Gr m G) {k : Nat} : canB G k 0 = true ↔ ElimG G k (2 ^ G.length - 1) := by
 have h0 := Nat.two_pow_pos G.length
 exact ⟨canB_elim hn hG _ 0 rfl h0 (elimG_zero G k), fun h => canB_from hn hG _ (by omega) h (canB_all k)⟩
end
noncomputable def nextP (G : List Nat) (k gone : Nat) (v : Nat) : Bool := decide (dg G gone v ≤ k) && canB G k (gone ||| 2 ^ v)
noncomputable def ordD (G : List Nat) (k : Nat) : Nat → Nat → List Nat
 | 0, _ => []
 | d + 1, gone => match (els (lft G gone) 9).find? (nextP G k gone) with
  | some v => v :: ordD G k d (gone ||| 2 ^ v)
  | none => []
noncomputable def ordL (G : List Nat) (k : Nat) : List Nat := ordD G k G.length 0
end Go.Proofs.YtoffehihicabcaaDoor.T
end
section
/- (width.town).order and its closures, by hand. -/
namespace Go.Proofs.YtoffehihicabcaaDoor.X
open Go.RowKit YtoffehihicabcaaDoorW.PrintWords YtoffehihicabcaaDoorW.PrintLast YtoffehihicabcaaDoorW.PrintMore YtoffehihicabcaaDoor.T
attribute [local go_sem] max2_int min2_int max_two min_two max_three min_three max_four min_four run_makeMap
theorem smallO {G : List Nat} (h : G.length ≤ 9) {x : Nat} (hx : x < 2 ^ G.length) : x < 512 := Nat.lt_of_lt_of_le hx (show 2 ^ G.length ≤ 2 ^ 9 from Nat.pow_le_pow_right (by omega) h)
theorem degree_callsO {G : List Nat} (hG : Gr 9 G) {gone v : Nat} (hg : gone < 2 ^ G.length) (hv : v < G.length) (Ag : Option Addr) (cg : Nat) (hcg : G.length ≤ cg) (w : World) (hGL : GL w) (h1 : Kd.C (Kd.int .i64) w Ag (gi G).length (gi G)) :
  Calls Tryd.prog 75 #[.slice Ag G.length cg, .int .i64 (v : Int), .int .i64 (gone : Int)] w fun e w' => e = .returned (.int .i64 ((dg G gone v : Nat) : Int)) ∧ Below w.heap.size w w' := by
 obtain ⟨K, hK⟩ := degree_ev G hG gone v hg hv
 have := width_town_degree.calls K Ag cg (gi G) (v : Int) (gone : Int) _ w hGL h1 (by rw [gi_length]; exact hcg) (hK K (Nat.le_refl _))
 rw [gi_length] at this
 exact this
theorem all_callsO {G : List Nat} (hG : Gr 9 G) (Ag : Option Addr) (cg : Nat) (hcg : G.length ≤ cg) (w : World) (h1 : Kd.C (Kd.int .i64) w Ag (gi G).length (gi G)) :
  Calls Tryd.prog 67 #[.slice Ag G.length cg] w fun e w' => e = .returned (.int .i64 ((2 ^ G.length - 1 : Nat) : Int)) ∧ Below w.heap.size w w' := by
 have := width_town_all.calls Ag cg (gi G) _ w h1 (by rw [gi_length]; exact hcg) (all_eq G hG.most)
 rw [gi_length] at this
 exact this.mono fun e w' h => ⟨h.1, h.2.below⟩
theorem nodes_callsO {x : Nat} (hx : x < 512) (mB : Nat) (w : World) (hmB : mB < w.heap.size) (hGL : GL w) :
  Calls Tryd.prog 98 #[.int .i64 (x : Int)] w fun e w' => ∃ A c, e = .returned (.slice A (els x 9).length c) ∧ (els x 9).length ≤ c ∧ (∀ V, w'.grownBy V (some mB) → Kd.C (Kd.int .i64) V A (els x 9).length (gi (els x 9))) ∧ Below w.heap.size w w' := by
 obtain ⟨K, hK⟩ := nodes_ev x hx
 refine (width_nodes.calls K (x : Int) _ w hGL (hK K (Nat.le_refl _))).mono ?_
 rintro e w' ⟨u, rfl, hu, hb⟩
 obtain ⟨A, c, eu, hc, hC⟩ := Kd.R_reads hu
 subst eu
 rw [gi_length] at hu
 refine ⟨A, c, by rw [gi_length], by rw [gi_length] at hc; exact hc, fun V hV => ?_, hb⟩
 have hs2 := hb.size
 have h3 := Kd.R_step (w1 := V) (Kd.R_bound hu) (fun k hk hk2 => hV.block k hk2 (fun e => by have := hk.2.1; have e2 := Option.some.inj e; omega))
 obtain ⟨A2, c2, e2, _, hC2⟩ := Kd.R_reads h3
 injection e2 with e3 e4 e5
 rw [gi_length] at hC2
 rw [e3]; exact hC2
section
variable (tB kB bB cB mB : Nat)
def canV : Value := .func (.func 97) #[] #[.pointer (some ⟨tB, 0, none⟩), .pointer (some ⟨kB, 0, none⟩), .pointer (some ⟨bB, 0, none⟩), .pointer (some ⟨cB, 0, none⟩)]
end
set_option maxHeartbeats 4000000 in
theorem index_can (tB gB bB cB mB N : Nat) (f : Nat → Bool) (W0 : World) (A : Option Addr) (c : Nat) (l : List Int) (p : Int → Bool) (w : World) (hk : KM W0 w mB N f) (hx : ∀ V, w.grownBy V (some mB) → Kd.C (Kd.int .i64) V A l.length l) (hl : l.length ≤ 1000)
  (hp : ∀ W, KM W0 W mB N f → w.grownBy W (some mB) → ∀ x ∈ l, Calls Tryd.prog 99 #[.int .i64 x, .pointer (some ⟨tB, 0, none⟩), .pointer (some ⟨gB, 0, none⟩), .pointer (some ⟨bB, 0, none⟩), .pointer (some ⟨cB, 0, none⟩)] W fun e w' => e = .returned (.bool (p x)) ∧ KM W0 w' mB N f ∧ W.grownBy w' (some mB)) :
  Calls Tryd.prog 84 #[.slice A l.length c, .func (.func 99) #[] #[.pointer (some ⟨tB, 0, none⟩), .pointer (some ⟨gB, 0, none⟩), .pointer (some ⟨bB, 0, none⟩), .pointer (some ⟨cB, 0, none⟩)]] w fun e w' => ∃ z, e = .returned (.int .i64 z) ∧ decide (z ≥ 0) = l.any p ∧ KM W0 w' mB N f ∧ w.grownBy w' (some mB) := by
 have HX := Aside0.mk hx
 have HP := Aside0.mk hp
 have HK := Aside0.mk hk
 clear hx hp hk
 go_enter Tryd.func84, Tryd.ntmps84
 go_wp2
 go_loopg [8] l.length (fun kq v8 w' => ∃ i : Nat, v8 = .int .i64 (i : Int) ∧ i + kq = l.length ∧ Aside0 ((l.drop i).any p = l.any p) ∧ Aside0 (KM W0 w' mB N f ∧ w.grownBy w' (some mB)))
 case atStart => exact ⟨0, rfl, by omega, ⟨rfl⟩, ⟨HK.out, World.grownBy.refl _ _⟩⟩
 case round =>
  obtain ⟨i, rfl, hi, HA, HB⟩ := hrel
  by_cases hil : i < l.length
  ·have hi1 : ((i : Int) < (l.length : Int)) = True := eq_true (by omega)
   have hi2 : decide ((i : Int) < (l.length : Int)) = true := decide_eq_true (by omega)
   cases gk with
   | zero => omega
   | succ gi' =>
   obtain ⟨ad, e1, hgx⟩ := Kd.at_int (HX.out _ HB.out.2) (i : Int) (by omega) (by omega)
   subst e1
   have hra : rd l (i : Int) = l[i] := by unfold rd; rw [Int.toNat_natCast, List.getD_eq_getElem?_getD, List.getElem?_eq_getElem hil]; rfl
   rw [hra, Int.toNat_natCast] at hgx
   have hm : l[i] ∈ l := List.getElem_mem hil
   have ha := HA.out
   rw [List.drop_eq_getElem_cons hil, List.any_cons] at ha
   have HC := Aside0.mk (HP.out wr HB.out.1 HB.out.2 _ hm)
   generalize l[i] = x at *
   clear hra HA
   cases hpx : p x
   ·rw [hpx] at HC ha
    have HA2 : Aside0 ((l.drop (i + 1)).any p = l.any p) := ⟨by simpa using ha⟩
    clear ha hpx hm
    go_wp2_with (go_at_call 99; refine HC.out.mono ?_; rintro e w3 ⟨rfl, hk3, hb3⟩; have HK3 := Aside0.mk hk3; have HB3 := Aside0.mk hb3; clear hk3 hb3)
    go_roundg gi'
    case measure => omega
    case rel => exact ⟨i + 1, by go_num, by omega, HA2, ⟨HK3.out, grown_then HB.out.2 HB3.out⟩⟩
   ·rw [hpx] at HC ha
    have HA2 : Aside0 (true = l.any p) := ⟨by simpa using ha⟩
    clear ha hpx hm
    go_wp2_with (go_at_call 99; refine HC.out.mono ?_; rintro e w3 ⟨rfl, hk3, hb3⟩; have HK3 := Aside0.mk hk3; have HB3 := Aside0.mk hb3; clear hk3 hb3)
    go_ret
    exact ⟨_, rfl, by rw [← HA2.out]; exact decide_eq_true (by omega), HK3.out, grown_then HB.out.2 HB3.out⟩
  ·have hi1 : ((i : Int) < (l.length : Int)) = False := eq_false (by omega)
   have hi2 : decide ((i : Int) < (l.length : Int)) = false := decide_eq_false (by omega)
   have ha := HA.out
   rw [List.drop_eq_nil_of_le (by omega)] at ha
   have HA2 : Aside0 (false = l.any p) := ⟨ha⟩
   clear ha HA
   go_wp2
   go_ret
   exact ⟨_, rfl, by rw [← HA2.out]; rfl, HB.out.1, HB.out.2⟩
theorem contains_can (tB gB bB cB mB N : Nat) (f : Nat → Bool) (W0 : World) (A : Option Addr) (c : Nat) (l : List Int) (p : Int → Bool) (w : World) (hk : KM W0 w mB N f) (hx : ∀ V, w.grownBy V (some mB) → Kd.C (Kd.int .i64) V A l.length l) (hl : l.length ≤ 1000)
  (hp : ∀ W, KM W0 W mB N f → w.grownBy W (some mB) → ∀ x ∈ l, Calls Tryd.prog 99 #[.int .i64 x, .pointer (some ⟨tB, 0, none⟩), .pointer (some ⟨gB, 0, none⟩), .pointer (some ⟨bB, 0, none⟩), .pointer (some ⟨cB, 0, none⟩)] W fun e w' => e = .returned (.bool (p x)) ∧ KM W0 w' mB N f ∧ W.grownBy w' (some mB)) :
  Calls Tryd.prog 54 #[.slice A l.length c, .func (.func 99) #[] #[.pointer (some ⟨tB, 0, none⟩), .pointer (some ⟨gB, 0, none⟩), .pointer (some ⟨bB, 0, none⟩), .pointer (some ⟨cB, 0, none⟩)]] w fun e w' => e = .returned (.bool (l.any p)) ∧ KM W0 w' mB N f ∧ w.grownBy w' (some mB) := by
 have HI := Aside0.mk (index_can tB gB bB cB mB N f W0 A c l p w hk hx hl hp)
 clear hx hl hp hk
 go_enter Tryd.func54, Tryd.ntmps54
 go_wp2_with (go_at_call 84; refine HI.out.mono ?_; rintro e w3 ⟨z, rfl, hz, hb⟩)
 go_ret
 exact ⟨by rw [← hz]; rfl, hb⟩
set_option maxHeartbeats 4000000 in
set_option maxRecDepth 100000 in
theorem can_inner (tB kB gB bB cB mB : Nat) (W0 : World) (Ag : Option Addr) (cg : Nat) (G : List Nat) (hG : Gr 9 G) (hcg : G.length ≤ cg) (bs : Nat)
  (hlow : ∀ W, W0.grownBy W (some mB) → GL W ∧ Kd.C (Kd.int .i64) W Ag (gi G).length (gi G) ∧ W.cell? ⟨tB, 0, none⟩ = some (.slice Ag G.length cg) ∧ W.cell? ⟨kB, 0, none⟩ = some (.map (some mB)) ∧ W.cell? ⟨bB, 0, none⟩ = some (.int .i64 (bs : Int)) ∧ W.cell? ⟨cB, 0, none⟩ = some (canV tB kB bB cB))
  (gone v : Nat) (hg : gone < 2 ^ G.length) (hv : v < G.length) (w : World) (hk : KM W0 w mB 512 (canB G bs)) (hc : w.cell? ⟨gB, 0, none⟩ = some (.int .i64 (gone : Int)))
  (rec : ∀ V, KM W0 V mB 512 (canB G bs) → Calls Tryd.prog 97 #[.int .i64 ((gone ||| 2 ^ v : Nat) : Int), .pointer (some ⟨tB, 0, none⟩), .pointer (some ⟨kB, 0, none⟩), .pointer (some ⟨bB, 0, none⟩), .pointer (some ⟨cB, 0, none⟩)] V fun e w' => e = .returned (.bool (canB G bs (gone ||| 2 ^ v))) ∧ KM W0 w' mB 512 (canB G bs) ∧ V.grownBy w' (some mB)) :
  Calls Tryd.prog 99 #[.int .i64 (v : Int), .pointer (some ⟨tB, 0, none⟩), .pointer (some ⟨gB, 0, none⟩), .pointer (some ⟨bB, 0, none⟩), .pointer (some ⟨cB, 0, none⟩)] w fun e w' => e = .returned (.bool (decide (dg G gone v ≤ bs) && canB G bs (gone ||| 2 ^ v))) ∧ KM W0 w' mB 512 (canB G bs) ∧ w.grownBy w' (some mB) := by
 have hn := hG.most
 obtain ⟨q1, q2, q3, q4, q5, q6⟩ := hlow w hk.grown
 have c0d : w.drew.cell? ⟨tB, 0, none⟩ = some (.slice Ag G.length cg) := q3
 have c1d : w.drew.cell? ⟨gB, 0, none⟩ = some (.int .i64 (gone : Int)) := hc
 have c2d : w.drew.cell? ⟨bB, 0, none⟩ = some (.int .i64 (bs : Int)) := q5
 have c3d : w.drew.cell? ⟨cB, 0, none⟩ = some (.func (.func 97) #[] #[.pointer (some ⟨tB, 0, none⟩), .pointer (some ⟨kB, 0, none⟩), .pointer (some ⟨bB, 0, none⟩), .pointer (some ⟨cB, 0, none⟩)]) := q6
 have c4d : Below w.heap.size w w.drew := below_drew (Below.refl _ _)
 have HK := Aside0.mk hk
 have hg512 : gone < 512 := smallO hn hg
 obtain ⟨N, ⟨hS1, hS2, hS3⟩, hNv⟩ := shK v (by omega)
 have h2v : 2 ^ v < 2 ^ G.length := Nat.pow_lt_pow_right (by omega) hv
 have hor : Go.bits .or .i64 (gone : Int) N = ((gone ||| 2 ^ v : Nat) : Int) := by
  rw [hNv, b_or _ _ (by omega) (by have := smallO hn h2v; omega)]
 have HDG : Aside0 (∀ W, (W.cell? ⟨tB, 0, none⟩ = some (.slice Ag G.length cg) ∧ W.cell? ⟨gB, 0, none⟩ = some (.int .i64 (gone : Int)) ∧ W.cell? ⟨bB, 0, none⟩ = some (.int .i64 (bs : Int)) ∧ W.cell? ⟨cB, 0, none⟩ = some (.func (.func 97) #[] #[.pointer (some ⟨tB, 0, none⟩), .pointer (some ⟨kB, 0, none⟩), .pointer (some ⟨bB, 0, none⟩), .pointer (some ⟨cB, 0, none⟩)]) ∧ Below w.heap.size w W) → Calls Tryd.prog 75 #[.slice Ag G.length cg, .int .i64 (v : Int), .int .i64 (gone : Int)] W fun e w' => e = .returned (.int .i64 ((dg G gone v : Nat) : Int)) ∧ w'.cell? ⟨tB, 0, none⟩ = some (.slice Ag G.length cg) ∧ w'.cell? ⟨gB, 0, none⟩ = some (.int .i64 (gone : Int)) ∧ w'.cell? ⟨bB, 0, none⟩ = some (.int .i64 (bs : Int)) ∧ w'.cell? ⟨cB, 0, none⟩ = some (.func (.func 97) #[] #[.pointer (some ⟨tB, 0, none⟩), .pointer (some ⟨kB, 0, none⟩), .pointer (some ⟨bB, 0, none⟩), .pointer (some ⟨cB, 0, none⟩)]) ∧ Below w.heap.size w w') := ⟨by
  rintro W ⟨s0, s1, s2, s3, s4⟩
  obtain ⟨p1, p2, _⟩ := hlow W ((hk.low (grown_of_below s4 none)).grown)
  refine (degree_callsO hG hg hv Ag cg hcg W p1 p2).mono ?_
  rintro e w' ⟨rfl, hb⟩
  exact ⟨rfl, (hb.cell (World.block_lt_of_cell? W _ s0)).trans s0, (hb.cell (World.block_lt_of_cell? W _ s1)).trans s1, (hb.cell (World.block_lt_of_cell? W _ s2)).trans s2, (hb.cell (World.block_lt_of_cell? W _ s3)).trans s3, below_step s4 hb⟩⟩
 have HREC := Aside0.mk rec
 generalize gone ||| 2 ^ v = gone' at *
 generalize canB G bs gone' = R at *
 generalize dg G gone v = dv at *
 clear hk q1 q2 q3 q4 q5 q6 rec hNv h2v hlow hg hc hG hn hv hg512
 by_cases hle : dv ≤ bs
 ·have hdec1 : ((dv : Int) ≤ (bs : Int)) = True := eq_true (by omega)
  have hdec2 : decide ((dv : Int) ≤ (bs : Int)) = true := decide_eq_true (by omega)
  rw [decide_eq_true hle, Bool.true_and]
  go_enter Tryd.func99, Tryd.ntmps99
  go_wp2
  refine start_ (n := 15) (S := fun w' => w'.cell? ⟨tB, 0, none⟩ = some (.slice Ag G.length cg) ∧ w'.cell? ⟨gB, 0, none⟩ = some (.int .i64 (gone : Int)) ∧ w'.cell? ⟨bB, 0, none⟩ = some (.int .i64 (bs : Int)) ∧ w'.cell? ⟨cB, 0, none⟩ = some (.func (.func 97) #[] #[.pointer (some ⟨tB, 0, none⟩), .pointer (some ⟨kB, 0, none⟩), .pointer (some ⟨bB, 0, none⟩), .pointer (some ⟨cB, 0, none⟩)]) ∧ Below w.heap.size w w') (ds := [12]) (Qbz 15 0) (by kernel_rfl) rfl rfl ⟨c0d, c1d, c2d, c3d, c4d⟩ (fun hHeld => ?_)
  refine pure_ (i := 1) (N := some 8) (v := ?_) (a' := ?_) (Qbz 15 2) rfl rfl (by kernel_rfl) (fun _ _ _ h => h) (Or.inl ⟨by rfl, ?_⟩) ?_ ?_
  rotate_left
  ·intro w'
   go_simp
   with_reducible rfl
  rotate_left
  ·simp only [Act.put, Qp1, Qp2, Qp3, i64_w, i32_w]
   rfl
  refine take_ (i := 0) (N := some 7) (v := ?_) (a' := ?_) (Qbz 15 3) rfl rfl (by kernel_rfl) (fun _ _ _ h => h) (Or.inl ⟨by rfl, ?_⟩) hHeld ?_ ?_
  rotate_left
  ·rintro w' ⟨s0, s1, s2, s3, s4⟩
   go_simp
   with_reducible rfl
  rotate_left
  ·simp only [Act.put, Qp1, Qp2, Qp3, i64_w, i32_w]
   rfl
  refine take_ (i := 2) (N := some 9) (v := ?_) (a' := ?_) (Qbz 15 7) rfl rfl (by kernel_rfl) (fun _ _ _ h => h) (Or.inl ⟨by rfl, ?_⟩) hHeld ?_ ?_
  rotate_left
  ·rintro w' ⟨s0, s1, s2, s3, s4⟩
   go_simp
   with_reducible rfl
  rotate_left
  ·simp only [Act.put, Qp1, Qp2, Qp3, i64_w, i32_w]
   rfl
  refine take_ (i := 4) (N := some 11) (v := ?_) (a' := ?_) (Qbz 15 23) rfl rfl (by kernel_rfl) (fun _ _ _ h => h) (Or.inl ⟨by rfl, ?_⟩) hHeld ?_ ?_
  rotate_left
  ·rintro w' ⟨s0, s1, s2, s3, s4⟩
   go_simp
   with_reducible rfl
  rotate_left
  ·simp only [Act.put, Qp1, Qp2, Qp3, i64_w, i32_w]
   rfl
  refine one_ (i := 3) (N := some 10) (Qbz 15 31) rfl rfl (by kernel_rfl) (by decide) (fun K hK => ?_)
  refine goes_ Tryd.func75 (by kernel_rfl) rfl #[.slice Ag G.length cg, .int .i64 (v : Int), .int .i64 (gone : Int)] (by rfl) rfl rfl (by simp only [List.map_toArray, List.map_cons, List.map_nil]; rfl) ?_
  with_reducible refine (HDG.out _ hHeld).mono ?_
  rintro e w9 ⟨rfl, k0, k1, k2, k3, kB9⟩
  refine ⟨_, rfl, ?_⟩
  refine hK.out _ _ ⟨k0, k1, k2, k3, kB9⟩ (fun hHeld => ?_)
  clear hK K
  refine norm_ (a' := ?_) ?_ ?_
  rotate_left
  ·show Act.put _ (some 10) _ = _
   simp only [Act.put, Qp1, Qp2, Qp3, i64_w, i32_w]
   rfl
  refine pure_ (i := 5) (N := some 12) (v := ?_) (a' := ?_) (Qbz 15 63) rfl rfl (by kernel_rfl) (fun _ _ _ h => h) (Or.inl ⟨by rfl, ?_⟩) ?_ ?_
  rotate_left
  ·intro w'
   go_simp
   with_reducible rfl
  rotate_left
  ·simp only [Act.put, Qp1, Qp2, Qp3, i64_w, i32_w]
   rfl
  refine pure_ (i := 6) (N := some 13) (v := ?_) (a' := ?_) (Qbz 15 127) rfl rfl (by kernel_rfl) (fun _ _ _ h => h) (Or.inl ⟨by rfl, ?_⟩) ?_ ?_
  rotate_left
  ·intro w'
   go_simp
   with_reducible rfl
  rotate_left
  ·simp only [Act.put, Qp1, Qp2, Qp3, i64_w, i32_w]
   rfl
  refine pure_ (i := 9) (N := some 16) (v := ?_) (a' := ?_) (Qbz 15 639) rfl rfl (by kernel_rfl) (fun _ _ _ h => h) (Or.inl ⟨by rfl, ?_⟩) ?_ ?_
  rotate_left
  ·intro w'
   go_simp
   with_reducible rfl
  rotate_left
  ·simp only [Act.put, Qp1, Qp2, Qp3, i64_w, i32_w]
   rfl
  refine pure_ (i := 10) (N := some 17) (v := ?_) (a' := ?_) (Qbz 15 1663) rfl rfl (by kernel_rfl) (fun _ _ _ h => h) (Or.inl ⟨by rfl, ?_⟩) ?_ ?_
  rotate_left
  ·intro w'
   go_simp
   with_reducible rfl
  rotate_left
  ·simp only [Act.put, Qp1, Qp2, Qp3, i64_w, i32_w]
   rfl
  refine take_ (i := 7) (N := some 14) (v := ?_) (a' := ?_) (Qbz 15 1791) rfl rfl (by kernel_rfl) (fun _ _ _ h => h) (Or.inl ⟨by rfl, ?_⟩) hHeld ?_ ?_
  rotate_left
  ·rintro w' ⟨s0, s1, s2, s3, s4⟩
   go_simp
   with_reducible rfl
  rotate_left
  ·simp only [Act.put, Qp1, Qp2, Qp3, i64_w, i32_w]
   rfl
  refine take_ (i := 8) (N := some 15) (v := ?_) (a' := ?_) (Qbz 15 2047) rfl rfl (by kernel_rfl) (fun _ _ _ h => h) (Or.inl ⟨by rfl, ?_⟩) hHeld ?_ ?_
  rotate_left
  ·rintro w' ⟨s0, s1, s2, s3, s4⟩
   go_simp
   with_reducible rfl
  rotate_left
  ·simp only [Act.put, Qp1, Qp2, Qp3, i64_w, i32_w]
   rfl
  refine pure_ (i := 11) (N := some 18) (v := ?_) (a' := ?_) (Qbz 15 4095) rfl rfl (by kernel_rfl) (fun _ _ _ h => h) (Or.inl ⟨by rfl, ?_⟩) ?_ ?_
  rotate_left
  ·intro w'
   go_simp
   with_reducible rfl
  rotate_left
  ·simp only [Act.put, Qp1, Qp2, Qp3, i64_w, i32_w]
   rfl
  refine last_ (i := 12) (N := some 19) (Qbz 15 8191) rfl rfl (by kernel_rfl) (by decide) (fun K hK => ?_)
  refine goesK_ Tryd.func97 (by kernel_rfl) rfl #[.int .i64 (gone' : Int)] #[.pointer (some ⟨tB, 0, none⟩), .pointer (some ⟨kB, 0, none⟩), .pointer (some ⟨bB, 0, none⟩), .pointer (some ⟨cB, 0, none⟩)] #[.int .i64 (gone' : Int), .pointer (some ⟨tB, 0, none⟩), .pointer (some ⟨kB, 0, none⟩), .pointer (some ⟨bB, 0, none⟩), .pointer (some ⟨cB, 0, none⟩)] (.tmp 14) (by rfl) rfl rfl (by rfl) (by simp only [List.map_toArray, List.map_cons, List.map_nil]; rfl) rfl ?_
  with_reducible refine (HREC.out _ (HK.out.low (grown_of_below hHeld.2.2.2.2 none))).mono ?_
  rintro e w10 ⟨rfl, hK10, hG10⟩
  have HK10 := Aside0.mk hK10
  have HG10 := Aside0.mk hG10
  have HB9 := Aside0.mk kB9
  clear hK10 hG10 kB9
  refine ⟨_, rfl, ?_⟩
  refine hK.out _ _ ?_
  clear hK K
  refine norm_ (a' := ?_) ?_ ?_
  rotate_left
  ·show Act.put _ (some 19) _ = _
   simp only [Act.put, Qp1, Qp2, Qp3, i64_w, i32_w]
   rfl
  refine pure_ (i := 13) (N := some 20) (v := ?_) (a' := ?_) (Qbz 15 16383) rfl rfl (by kernel_rfl) (fun _ _ _ h => h) (Or.inl ⟨by rfl, ?_⟩) ?_ ?_
  rotate_left
  ·intro w'
   go_simp
   with_reducible rfl
  rotate_left
  ·simp only [Act.put, Qp1, Qp2, Qp3, i64_w, i32_w]
   rfl
  refine pure_ (i := 14) (N := some 6) (v := ?_) (a' := ?_) (Qbz 15 32767) rfl rfl (by kernel_rfl) (fun _ _ _ h => h) (Or.inl ⟨by rfl, ?_⟩) ?_ ?_
  rotate_left
  ·intro w'
   go_simp
   with_reducible rfl
  rotate_left
  ·simp only [Act.put, Qp1, Qp2, Qp3, i64_w, i32_w]
   rfl
  refine done_ (by kernel_rfl) ?_
  go_wp2
  go_ret
  exact ⟨rfl, HK10.out, grown_then (grown_of_below HB9.out (some mB)) HG10.out⟩
 ·have hdec1 : ((dv : Int) ≤ (bs : Int)) = False := eq_false (by omega)
  have hdec2 : decide ((dv : Int) ≤ (bs : Int)) = false := decide_eq_false (by omega)
  rw [decide_eq_false hle, Bool.false_and]
  go_enter Tryd.func99, Tryd.ntmps99
  go_wp2
  refine start_ (n := 15) (S := fun w' => w'.cell? ⟨tB, 0, none⟩ = some (.slice Ag G.length cg) ∧ w'.cell? ⟨gB, 0, none⟩ = some (.int .i64 (gone : Int)) ∧ w'.cell? ⟨bB, 0, none⟩ = some (.int .i64 (bs : Int)) ∧ w'.cell? ⟨cB, 0, none⟩ = some (.func (.func 97) #[] #[.pointer (some ⟨tB, 0, none⟩), .pointer (some ⟨kB, 0, none⟩), .pointer (some ⟨bB, 0, none⟩), .pointer (some ⟨cB, 0, none⟩)]) ∧ Below w.heap.size w w') (ds := []) (Qbz 15 0) (by kernel_rfl) rfl rfl ⟨c0d, c1d, c2d, c3d, c4d⟩ (fun hHeld => ?_)
  refine pure_ (i := 1) (N := some 8) (v := ?_) (a' := ?_) (Qbz 15 2) rfl rfl (by kernel_rfl) (fun _ _ _ h => h) (Or.inl ⟨by rfl, ?_⟩) ?_ ?_
  rotate_left
  ·intro w'
   go_simp
   with_reducible rfl
  rotate_left
  ·simp only [Act.put, Qp1, Qp2, Qp3, i64_w, i32_w]
   rfl
  refine take_ (i := 0) (N := some 7) (v := ?_) (a' := ?_) (Qbz 15 3) rfl rfl (by kernel_rfl) (fun _ _ _ h => h) (Or.inl ⟨by rfl, ?_⟩) hHeld ?_ ?_
  rotate_left
  ·rintro w' ⟨s0, s1, s2, s3, s4⟩
   go_simp
   with_reducible rfl
  rotate_left
  ·simp only [Act.put, Qp1, Qp2, Qp3, i64_w, i32_w]
   rfl
  refine take_ (i := 2) (N := some 9) (v := ?_) (a' := ?_) (Qbz 15 7) rfl rfl (by kernel_rfl) (fun _ _ _ h => h) (Or.inl ⟨by rfl, ?_⟩) hHeld ?_ ?_
  rotate_left
  ·rintro w' ⟨s0, s1, s2, s3, s4⟩
   go_simp
   with_reducible rfl
  rotate_left
  ·simp only [Act.put, Qp1, Qp2, Qp3, i64_w, i32_w]
   rfl
  refine take_ (i := 4) (N := some 11) (v := ?_) (a' := ?_) (Qbz 15 23) rfl rfl (by kernel_rfl) (fun _ _ _ h => h) (Or.inl ⟨by rfl, ?_⟩) hHeld ?_ ?_
  rotate_left
  ·rintro w' ⟨s0, s1, s2, s3, s4⟩
   go_simp
   with_reducible rfl
  rotate_left
  ·simp only [Act.put, Qp1, Qp2, Qp3, i64_w, i32_w]
   rfl
  refine one_ (i := 3) (N := some 10) (Qbz 15 31) rfl rfl (by kernel_rfl) (by decide) (fun K hK => ?_)
  refine goes_ Tryd.func75 (by kernel_rfl) rfl #[.slice Ag G.length cg, .int .i64 (v : Int), .int .i64 (gone : Int)] (by rfl) rfl rfl (by simp only [List.map_toArray, List.map_cons, List.map_nil]; rfl) ?_
  with_reducible refine (HDG.out _ hHeld).mono ?_
  rintro e w9 ⟨rfl, k0, k1, k2, k3, kB9⟩
  refine ⟨_, rfl, ?_⟩
  refine hK.out _ _ ⟨k0, k1, k2, k3, kB9⟩ (fun hHeld => ?_)
  clear hK K
  refine norm_ (a' := ?_) ?_ ?_
  rotate_left
  ·show Act.put _ (some 10) _ = _
   simp only [Act.put, Qp1, Qp2, Qp3, i64_w, i32_w]
   rfl
  refine pure_ (i := 5) (N := some 12) (v := ?_) (a' := ?_) (Qbz 15 63) rfl rfl (by kernel_rfl) (fun _ _ _ h => h) (Or.inl ⟨by rfl, ?_⟩) ?_ ?_
  rotate_left
  ·intro w'
   go_simp
   with_reducible rfl
  rotate_left
  ·simp only [Act.put, Qp1, Qp2, Qp3, i64_w, i32_w]
   rfl
  refine pure_ (i := 6) (N := some 13) (v := ?_) (a' := ?_) (Qbz 15 127) rfl rfl (by kernel_rfl) (fun _ _ _ h => h) (Or.inl ⟨by rfl, ?_⟩) ?_ ?_
  rotate_left
  ·intro w'
   go_simp
   with_reducible rfl
  rotate_left
  ·simp only [Act.put, Qp1, Qp2, Qp3, i64_w, i32_w]
   rfl
  refine pure_ (i := 7) (N := some 14) (v := undef) (a' := ?_) (Qbz 15 255) rfl rfl (by kernel_rfl) (fun _ _ _ h => h) (Or.inr ⟨by rfl, rfl⟩) ?_ ?_
  rotate_left
  ·simp only [Act.put, Qp1, Qp2, Qp3, i64_w, i32_w]
   rfl
  refine pure_ (i := 8) (N := some 15) (v := undef) (a' := ?_) (Qbz 15 511) rfl rfl (by kernel_rfl) (fun _ _ _ h => h) (Or.inr ⟨by rfl, rfl⟩) ?_ ?_
  rotate_left
  ·simp only [Act.put, Qp1, Qp2, Qp3, i64_w, i32_w]
   rfl
  refine pure_ (i := 9) (N := some 16) (v := undef) (a' := ?_) (Qbz 15 1023) rfl rfl (by kernel_rfl) (fun _ _ _ h => h) (Or.inr ⟨by rfl, rfl⟩) ?_ ?_
  rotate_left
  ·simp only [Act.put, Qp1, Qp2, Qp3, i64_w, i32_w]
   rfl
  refine pure_ (i := 10) (N := some 17) (v := undef) (a' := ?_) (Qbz 15 2047) rfl rfl (by kernel_rfl) (fun _ _ _ h => h) (Or.inr ⟨by rfl, rfl⟩) ?_ ?_
  rotate_left
  ·simp only [Act.put, Qp1, Qp2, Qp3, i64_w, i32_w]
   rfl
  refine pure_ (i := 11) (N := some 18) (v := undef) (a' := ?_) (Qbz 15 4095) rfl rfl (by kernel_rfl) (fun _ _ _ h => h) (Or.inr ⟨by rfl, rfl⟩) ?_ ?_
  rotate_left
  ·simp only [Act.put, Qp1, Qp2, Qp3, i64_w, i32_w]
   rfl
  refine pure_ (i := 12) (N := some 19) (v := undef) (a' := ?_) (Qbz 15 8191) rfl rfl (by kernel_rfl) (fun _ _ _ h => h) (Or.inr ⟨by rfl, rfl⟩) ?_ ?_
  rotate_left
  ·simp only [Act.put, Qp1, Qp2, Qp3, i64_w, i32_w]
   rfl
  refine pure_ (i := 13) (N := some 20) (v := ?_) (a' := ?_) (Qbz 15 16383) rfl rfl (by kernel_rfl) (fun _ _ _ h => h) (Or.inl ⟨by rfl, ?_⟩) ?_ ?_
  rotate_left
  ·intro w'
   go_simp
   with_reducible rfl
  rotate_left
  ·simp only [Act.put, Qp1, Qp2, Qp3, i64_w, i32_w]
   rfl
  refine pure_ (i := 14) (N := some 6) (v := ?_) (a' := ?_) (Qbz 15 32767) rfl rfl (by kernel_rfl) (fun _ _ _ h => h) (Or.inl ⟨by rfl, ?_⟩) ?_ ?_
  rotate_left
  ·intro w'
   go_simp
   with_reducible rfl
  rotate_left
  ·simp only [Act.put, Qp1, Qp2, Qp3, i64_w, i32_w]
   rfl
  refine done_ (by kernel_rfl) ?_
  go_wp2
  go_ret
  exact ⟨rfl, HK.out.low (grown_of_below hHeld.2.2.2.2 none), grown_of_below hHeld.2.2.2.2 (some mB)⟩
set_option maxHeartbeats 8000000 in
set_option maxRecDepth 100000 in
theorem can_grow (tB kB bB cB mB : Nat) (W0 : World) (hmB : mB < W0.heap.size) (Ag : Option Addr) (cg : Nat) (G : List Nat) (hG : Gr 9 G) (hcg : G.length ≤ cg) (bs : Nat)
  (hlow : ∀ W, W0.grownBy W (some mB) → GL W ∧ Kd.C (Kd.int .i64) W Ag (gi G).length (gi G) ∧ W.cell? ⟨tB, 0, none⟩ = some (.slice Ag G.length cg) ∧ W.cell? ⟨kB, 0, none⟩ = some (.map (some mB)) ∧ W.cell? ⟨bB, 0, none⟩ = some (.int .i64 (bs : Int)) ∧ W.cell? ⟨cB, 0, none⟩ = some (canV tB kB bB cB)) :
  ∀ (d gone : Nat) (w : World), pc (lft G gone) 9 = d → gone < 2 ^ G.length → KM W0 w mB 512 (canB G bs) →
  Calls Tryd.prog 97 #[.int .i64 (gone : Int), .pointer (some ⟨tB, 0, none⟩), .pointer (some ⟨kB, 0, none⟩), .pointer (some ⟨bB, 0, none⟩), .pointer (some ⟨cB, 0, none⟩)] w fun e w' => e = .returned (.bool (canB G bs gone)) ∧ KM W0 w' mB 512 (canB G bs) ∧ w.grownBy w' (some mB) := by
 have hn := hG.most
 intro d
 induction d with
 | zero =>
  intro gone w hd hg hk
  have hall : gone = 2 ^ G.length - 1 := Classical.byContradiction fun h => pc_pos (smallO hn (lft_lt G gone)) (lft_ne hg h) hd
  have hcb : canB G bs gone = true := by rw [hall]; exact canB_all bs
  rw [hcb]
  obtain ⟨w1, hw1⟩ : ∃ W : World, W = w.alloc (.cells #[.int .i64 (gone : Int)] 3) := ⟨_, rfl⟩
  have hB1 : Below w.heap.size w w1 := by rw [hw1]; exact below_alloc (Below.refl _ _) _
  have hk1 := hk.low (grown_of_below hB1 none)
  obtain ⟨q1, q2, q3, q4, q5, q6⟩ := hlow w1 hk1.grown
  have hgc : w1.cell? ⟨w.heap.size, 0, none⟩ = some (.int .i64 (gone : Int)) := by rw [hw1]; exact (blk_cell (show (w.heap.push _)[w.heap.size]? = _ from Array.getElem?_push_size) 0).trans rfl
  have hsz1 : w1.heap.size = w.heap.size + 1 := by rw [hw1]; simp
  have c0d : w1.drew.cell? ⟨tB, 0, none⟩ = some (.slice Ag G.length cg) := q3
  have c1d : w1.drew.cell? ⟨w.heap.size, 0, none⟩ = some (.int .i64 (gone : Int)) := hgc
  have c2d : Below w1.heap.size w1 w1.drew := below_drew (Below.refl _ _)
  have HAL : Aside0 (∀ W, (W.cell? ⟨tB, 0, none⟩ = some (.slice Ag G.length cg) ∧ W.cell? ⟨w.heap.size, 0, none⟩ = some (.int .i64 (gone : Int)) ∧ Below w1.heap.size w1 W) → Calls Tryd.prog 67 #[.slice Ag G.length cg] W fun e w' => e = .returned (.int .i64 ((2 ^ G.length - 1 : Nat) : Int)) ∧ w'.cell? ⟨tB, 0, none⟩ = some (.slice Ag G.length cg) ∧ w'.cell? ⟨w.heap.size, 0, none⟩ = some (.int .i64 (gone : Int)) ∧ Below w1.heap.size w1 w') := ⟨by
   rintro W ⟨s0, s1, s2⟩
   obtain ⟨p1, p2, _⟩ := hlow W ((hk1.low (grown_of_below s2 none)).grown)
   refine (all_callsO hG Ag cg hcg W p2).mono ?_
   rintro e w' ⟨rfl, hb⟩
   exact ⟨rfl, (hb.cell (World.block_lt_of_cell? W _ s0)).trans s0, (hb.cell (World.block_lt_of_cell? W _ s1)).trans s1, below_step s2 hb⟩⟩
  have HK := Aside0.mk hk
  have HB1 := Aside0.mk hB1
  rw [← hall] at HAL
  clear hk hk1 q1 q2 q3 q4 q5 q6 hlow hg hG hn hall hd hcb hB1 hgc
  go_enter Tryd.func97, Tryd.ntmps97
  go_wp2
  rw [← hw1]
  clear hw1
  refine start_ (n := 4) (S := fun w' => w'.cell? ⟨tB, 0, none⟩ = some (.slice Ag G.length cg) ∧ w'.cell? ⟨w.heap.size, 0, none⟩ = some (.int .i64 (gone : Int)) ∧ Below w1.heap.size w1 w') (ds := []) #[false, false, false, false] (by kernel_rfl) rfl rfl ⟨c0d, c1d, c2d⟩ (fun hHeld => ?_)
  refine take_ (i := 0) (N := some 9) (v := ?_) (a' := ?_) #[true, false, false, false] rfl rfl (by kernel_rfl) (fun _ _ _ h => h) (Or.inl ⟨by rfl, ?_⟩) hHeld ?_ ?_
  rotate_left
  ·rintro w' ⟨s0, s1, s2⟩
   go_simp
   with_reducible rfl
  rotate_left
  ·simp only [Act.put, Qp1, Qp2, Qp3, i64_w, i32_w]
   rfl
  refine take_ (i := 1) (N := some 10) (v := ?_) (a' := ?_) #[true, true, false, false] rfl rfl (by kernel_rfl) (fun _ _ _ h => h) (Or.inl ⟨by rfl, ?_⟩) hHeld ?_ ?_
  rotate_left
  ·rintro w' ⟨s0, s1, s2⟩
   go_simp
   with_reducible rfl
  rotate_left
  ·simp only [Act.put, Qp1, Qp2, Qp3, i64_w, i32_w]
   rfl
  refine one_ (i := 2) (N := some 11) #[true, true, true, false] rfl rfl (by kernel_rfl) (by decide) (fun K hK => ?_)
  refine goes_ Tryd.func67 (by kernel_rfl) rfl #[.slice Ag G.length cg] (by rfl) rfl rfl (by simp only [List.map_toArray, List.map_cons, List.map_nil]; rfl) ?_
  with_reducible refine (HAL.out _ hHeld).mono ?_
  rintro e w2 ⟨rfl, k0, k1, kB2⟩
  refine ⟨_, rfl, ?_⟩
  refine hK.out _ _ ⟨k0, k1, kB2⟩ (fun hHeld => ?_)
  clear hK K
  refine norm_ (a' := ?_) ?_ ?_
  rotate_left
  ·show Act.put _ (some 11) _ = _
   simp only [Act.put, Qp1, Qp2, Qp3, i64_w, i32_w]
   rfl
  refine pure_ (i := 3) (N := some 12) (v := ?_) (a' := ?_) #[true, true, true, true] rfl rfl (by kernel_rfl) (fun _ _ _ h => h) (Or.inl ⟨by rfl, ?_⟩) ?_ ?_
  rotate_left
  ·intro w'
   go_simp
   with_reducible rfl
  rotate_left
  ·simp only [Act.put, Qp1, Qp2, Qp3, i64_w, i32_w]
   rfl
  refine done_ (by kernel_rfl) ?_
  go_wp2
  go_ret
  exact ⟨rfl, (HK.out.low (grown_of_below HB1.out none)).low (grown_of_below hHeld.2.2 none), grown_then (grown_of_below HB1.out (some mB)) (grown_of_below hHeld.2.2 (some mB))⟩
 | succ d ih =>
  intro gone w hd hg hk
  have hnall : gone ≠ 2 ^ G.length - 1 := fun h => by rw [h, lft_all] at hd; simp [pc] at hd
  have hg512 := smallO hn hg
  have hall512 : 2 ^ G.length - 1 < 512 := by
   have := smallO hn (lft_lt G 0)
   have h2 : 2 ^ G.length ≤ 2 ^ 9 := Nat.pow_le_pow_right (by omega) hn
   have h3 := Nat.two_pow_pos G.length
   omega
  have hand : Go.bits .andNot .i64 ((2 ^ G.length - 1 : Nat) : Int) (gone : Int) = ((lft G gone : Nat) : Int) := b_andNot _ _ (by omega) (by omega)
  have hcb := canB_step (k := bs) hn hg hnall
  obtain ⟨w1, hw1⟩ : ∃ W : World, W = w.alloc (.cells #[.int .i64 (gone : Int)] 3) := ⟨_, rfl⟩
  have hB1 : Below w.heap.size w w1 := by rw [hw1]; exact below_alloc (Below.refl _ _) _
  have hk1 := hk.low (grown_of_below hB1 none)
  obtain ⟨q1, q2, q3, q4, q5, q6⟩ := hlow w1 hk1.grown
  have hgc : w1.cell? ⟨w.heap.size, 0, none⟩ = some (.int .i64 (gone : Int)) := by rw [hw1]; exact (blk_cell (show (w.heap.push _)[w.heap.size]? = _ from Array.getElem?_push_size) 0).trans rfl
  have hsz1 : w1.heap.size = w.heap.size + 1 := by rw [hw1]; simp
  have c0d : w1.drew.cell? ⟨tB, 0, none⟩ = some (.slice Ag G.length cg) := q3
  have c1d : w1.drew.cell? ⟨w.heap.size, 0, none⟩ = some (.int .i64 (gone : Int)) := hgc
  have c2d : Below w1.heap.size w1 w1.drew := below_drew (Below.refl _ _)
  have HAL : Aside0 (∀ W, (W.cell? ⟨tB, 0, none⟩ = some (.slice Ag G.length cg) ∧ W.cell? ⟨w.heap.size, 0, none⟩ = some (.int .i64 (gone : Int)) ∧ Below w1.heap.size w1 W) → Calls Tryd.prog 67 #[.slice Ag G.length cg] W fun e w' => e = .returned (.int .i64 ((2 ^ G.length - 1 : Nat) : Int)) ∧ w'.cell? ⟨tB, 0, none⟩ = some (.slice Ag G.length cg) ∧ w'.cell? ⟨w.heap.size, 0, none⟩ = some (.int .i64 (gone : Int)) ∧ Below w1.heap.size w1 w') := ⟨by
   rintro W ⟨s0, s1, s2⟩
   obtain ⟨p1, p2, _⟩ := hlow W ((hk1.low (grown_of_below s2 none)).grown)
   refine (all_callsO hG Ag cg hcg W p2).mono ?_
   rintro e w' ⟨rfl, hb⟩
   exact ⟨rfl, (hb.cell (World.block_lt_of_cell? W _ s0)).trans s0, (hb.cell (World.block_lt_of_cell? W _ s1)).trans s1, below_step s2 hb⟩⟩
  obtain ⟨L, hL⟩ : ∃ L : List Nat, L = els (lft G gone) 9 := ⟨_, rfl⟩
  obtain ⟨P, hP⟩ : ∃ P : Int → Bool, P = fun x => decide (dg G gone x.toNat ≤ bs) && canB G bs (gone ||| 2 ^ x.toNat) := ⟨_, rfl⟩
  have hany : (gi L).any P = canB G bs gone := by
   rw [hcb, hL, hP]
   unfold gi
   rw [List.any_map]
   rfl
  have hLlen : L.length ≤ 9 := by rw [hL, els_length]; exact pc_le _ 9
  have HREC : Aside0 (∀ W, KM W0 W mB 512 (canB G bs) → W.cell? ⟨w.heap.size, 0, none⟩ = some (.int .i64 (gone : Int)) → ∀ x ∈ gi L, Calls Tryd.prog 99 #[.int .i64 x, .pointer (some ⟨tB, 0, none⟩), .pointer (some ⟨w.heap.size, 0, none⟩), .pointer (some ⟨bB, 0, none⟩), .pointer (some ⟨cB, 0, none⟩)] W fun e w' => e = .returned (.bool (P x)) ∧ KM W0 w' mB 512 (canB G bs) ∧ W.grownBy w' (some mB)) := ⟨fun W hKW hcW x hx => by
   unfold gi at hx
   obtain ⟨v, hv, rfl⟩ := List.mem_map.1 hx
   rw [hL] at hv
   have hvb := (mem_els.1 hv).2
   have hvn := ((lft_bit G gone v).1 hvb).1
   have hpc := pc_lft hn hvb
   rw [hP]
   exact can_inner tB kB w.heap.size bB cB mB W0 Ag cg G hG hcg bs hlow gone v hg hvn W hKW hcW fun V hV => ih (gone ||| 2 ^ v) V (by omega) (or_in hg hvb) hV⟩
  have hmBw : mB < w.heap.size := Nat.lt_of_lt_of_le hmB hk.grown.size
  have HND : Aside0 (∀ W, GL W → mB < W.heap.size → Calls Tryd.prog 98 #[.int .i64 ((lft G gone : Nat) : Int)] W fun e w' => ∃ A c, e = .returned (.slice A L.length c) ∧ L.length ≤ c ∧ (∀ V, w'.grownBy V (some mB) → Kd.C (Kd.int .i64) V A L.length (gi L)) ∧ Below W.heap.size W w') := ⟨fun W hGLW hW => by
   rw [hL]
   exact nodes_callsO (smallO hn (lft_lt G gone)) mB W hW hGLW⟩
  have hne : (((gone : Int)) == ((2 ^ G.length - 1 : Nat) : Int)) = false := beq_eq_false_iff_ne.2 (by omega)
  have HK := Aside0.mk hk
  have HB1 := Aside0.mk hB1
  have HLOW := Aside0.mk hlow
  have HANY := Aside0.mk hany
  have hg62 : gone < 2 ^ 62 := by omega
  generalize lft G gone = lf at *
  generalize canB G bs = F at *
  obtain ⟨z, hz⟩ : ∃ z : Nat, z = 2 ^ G.length - 1 := ⟨_, rfl⟩
  have HALG : Aside0 (∀ W, W0.grownBy W (some mB) → Calls Tryd.prog 67 #[.slice Ag G.length cg] W fun e w' => e = .returned (.int .i64 ((2 ^ G.length - 1 : Nat) : Int)) ∧ Below W.heap.size W w') := ⟨fun W hW => all_callsO hG Ag cg hcg W (HLOW.out W hW).2.1⟩
  have HBLK1 : Aside0 (w1.heap[w.heap.size]? = some (.cells #[.int .i64 (gone : Int)] 3 (0, 0))) := ⟨by rw [hw1]; exact Array.getElem?_push_size⟩
  rw [← hz] at hne hand HAL HALG
  clear hk hk1 q1 q2 q3 q4 q5 q6 hlow hg hG hn hd hcb hB1 hgc hz hP hL hany ih hnall hall512
  go_enter Tryd.func97, Tryd.ntmps97
  go_wp2
  rw [← hw1]
  clear hw1
  refine start_ (n := 4) (S := fun w' => w'.cell? ⟨tB, 0, none⟩ = some (.slice Ag G.length cg) ∧ w'.cell? ⟨w.heap.size, 0, none⟩ = some (.int .i64 (gone : Int)) ∧ Below w1.heap.size w1 w') (ds := []) #[false, false, false, false] (by kernel_rfl) rfl rfl ⟨c0d, c1d, c2d⟩ (fun hHeld => ?_)
  refine take_ (i := 0) (N := some 9) (v := ?_) (a' := ?_) #[true, false, false, false] rfl rfl (by kernel_rfl) (fun _ _ _ h => h) (Or.inl ⟨by rfl, ?_⟩) hHeld ?_ ?_
  rotate_left
  ·rintro w' ⟨s0, s1, s2⟩
   go_simp
   with_reducible rfl
  rotate_left
  ·simp only [Act.put, Qp1, Qp2, Qp3, i64_w, i32_w]
   rfl
  refine take_ (i := 1) (N := some 10) (v := ?_) (a' := ?_) #[true, true, false, false] rfl rfl (by kernel_rfl) (fun _ _ _ h => h) (Or.inl ⟨by rfl, ?_⟩) hHeld ?_ ?_
  rotate_left
  ·rintro w' ⟨s0, s1, s2⟩
   go_simp
   with_reducible rfl
  rotate_left
  ·simp only [Act.put, Qp1, Qp2, Qp3, i64_w, i32_w]
   rfl
  refine one_ (i := 2) (N := some 11) #[true, true, true, false] rfl rfl (by kernel_rfl) (by decide) (fun K hK => ?_)
  refine goes_ Tryd.func67 (by kernel_rfl) rfl #[.slice Ag G.length cg] (by rfl) rfl rfl (by simp only [List.map_toArray, List.map_cons, List.map_nil]; rfl) ?_
  with_reducible refine (HAL.out _ hHeld).mono ?_
  rintro e w2 ⟨rfl, k0, k1, kB2⟩
  refine ⟨_, rfl, ?_⟩
  refine hK.out _ _ ⟨k0, k1, kB2⟩ (fun hHeld => ?_)
  clear hK K
  refine norm_ (a' := ?_) ?_ ?_
  rotate_left
  ·show Act.put _ (some 11) _ = _
   simp only [Act.put, Qp1, Qp2, Qp3, i64_w, i32_w]
   rfl
  refine pure_ (i := 3) (N := some 12) (v := ?_) (a' := ?_) #[true, true, true, true] rfl rfl (by kernel_rfl) (fun _ _ _ h => h) (Or.inl ⟨by rfl, ?_⟩) ?_ ?_
  rotate_left
  ·intro w'
   go_simp
   with_reducible rfl
  rotate_left
  ·simp only [Act.put, Qp1, Qp2, Qp3, i64_w, i32_w]
   rfl
  refine done_ (by kernel_rfl) ?_
  obtain ⟨s0, s1, s2⟩ := hHeld
  have hk2 := (HK.out.low (grown_of_below HB1.out none)).low (grown_of_below s2 none)
  have HG2 : Aside0 (w.grownBy w2 (some mB)) := ⟨grown_then (grown_of_below HB1.out (some mB)) (grown_of_below s2 (some mB))⟩
  have HK2 := Aside0.mk hk2
  have HBLK2 : Aside0 (w2.heap[w.heap.size]? = some (.cells #[.int .i64 (gone : Int)] 3 (0, 0))) := ⟨blk_grown HBLK1.out (grown_of_below s2 none) (by simp)⟩
  clear HAL HBLK1
  obtain ⟨p1, p2, p3, p4, p5, p6⟩ := HLOW.out w2 hk2.grown
  obtain ⟨⟨D, hown, hkn⟩, hgr⟩ := hk2
  have HOWN := Aside0.mk hown
  have hkey := key3 gone hg62
  have S2 := Aside0.mk s2
  have c0e : w2.drew.cell? ⟨tB, 0, none⟩ = some (.slice Ag G.length cg) := s0
  have c1e : w2.drew.cell? ⟨w.heap.size, 0, none⟩ = some (.int .i64 (gone : Int)) := s1
  have c2e : Below w2.heap.size w2 w2.drew := below_drew (Below.refl _ _)
  cases hh : Maps.has D (.int .i64 (gone : Int))
  ·have hr : D.atKey (.int .i64 (gone : Int)) (.lit (.bool false)) = .lit (.bool false) := Maps.atKey_of_not_has hh _
   clear hkn hgr s2 p5 p6 hown
   go_wp2_with (at_lookup; refine wpList_known rfl _ _ rfl mB 512 D rfl HOWN.out _ _ rfl hkey false false hr hh ?_)
   have HAL2 : Aside0 (∀ W, (W.cell? ⟨tB, 0, none⟩ = some (.slice Ag G.length cg) ∧ W.cell? ⟨w.heap.size, 0, none⟩ = some (.int .i64 (gone : Int)) ∧ Below w2.heap.size w2 W) → Calls Tryd.prog 67 #[.slice Ag G.length cg] W fun e w' => e = .returned (.int .i64 (z : Int)) ∧ w'.cell? ⟨tB, 0, none⟩ = some (.slice Ag G.length cg) ∧ w'.cell? ⟨w.heap.size, 0, none⟩ = some (.int .i64 (gone : Int)) ∧ Below w2.heap.size w2 w') := ⟨by
    rintro W ⟨s0, s1, s2⟩
    refine (HALG.out W ((HK2.out.low (grown_of_below s2 none)).grown)).mono ?_
    rintro e w' ⟨rfl, hb⟩
    exact ⟨rfl, (hb.cell (World.block_lt_of_cell? W _ s0)).trans s0, (hb.cell (World.block_lt_of_cell? W _ s1)).trans s1, below_step s2 hb⟩⟩
   have HND2 : Aside0 (∀ W, (W.cell? ⟨tB, 0, none⟩ = some (.slice Ag G.length cg) ∧ W.cell? ⟨w.heap.size, 0, none⟩ = some (.int .i64 (gone : Int)) ∧ Below w2.heap.size w2 W) → Calls Tryd.prog 98 #[.int .i64 (lf : Int)] W fun e w' => ∃ A c, e = .returned (.slice A L.length c) ∧ (∀ V, w'.grownBy V (some mB) → Kd.C (Kd.int .i64) V A L.length (gi L)) ∧ w'.cell? ⟨tB, 0, none⟩ = some (.slice Ag G.length cg) ∧ w'.cell? ⟨w.heap.size, 0, none⟩ = some (.int .i64 (gone : Int)) ∧ Below w2.heap.size w2 w') := ⟨by
    rintro W ⟨s0, s1, s2⟩
    have hkW := HK2.out.low (grown_of_below s2 none)
    refine (HND.out W (HLOW.out W hkW.grown).1 (Nat.lt_of_lt_of_le hmB hkW.grown.size)).mono ?_
    rintro e w' ⟨A, c, rfl, hc, hC, hb⟩
    exact ⟨A, c, rfl, hC, (hb.cell (World.block_lt_of_cell? W _ s0)).trans s0, (hb.cell (World.block_lt_of_cell? W _ s1)).trans s1, below_step s2 hb⟩⟩
   have HCC : Aside0 (∀ W A c, Below w2.heap.size w2 W → (∀ V, W.grownBy V (some mB) → Kd.C (Kd.int .i64) V A L.length (gi L)) → Calls Tryd.prog 54 #[.slice A L.length c, .func (.func 99) #[] #[.pointer (some ⟨tB, 0, none⟩), .pointer (some ⟨w.heap.size, 0, none⟩), .pointer (some ⟨bB, 0, none⟩), .pointer (some ⟨cB, 0, none⟩)]] W fun e w' => e = .returned (.bool (F gone)) ∧ KM W0 w' mB 512 F ∧ W.grownBy w' (some mB)) := ⟨by
    intro W A c hb hC
    have hkW := HK2.out.low (grown_of_below hb none)
    have hblkW := blk_grown HBLK2.out (grown_of_below hb none) (by simp)
    have := contains_can tB w.heap.size bB cB mB 512 F W0 A c (gi L) P W hkW (fun V hV => by rw [gi_length]; exact hC V hV) (by rw [gi_length]; omega) (fun V hKV hV x hx => HREC.out V hKV ((blk_cell (blk_grown hblkW hV (fun e => by have := Option.some.inj e; omega)) 0).trans rfl) x hx)
    rw [gi_length, HANY.out] at this
    exact this⟩
   clear HND HALG HREC HANY
   refine start_ (n := 8) (S := fun w' => w'.cell? ⟨tB, 0, none⟩ = some (.slice Ag G.length cg) ∧ w'.cell? ⟨w.heap.size, 0, none⟩ = some (.int .i64 (gone : Int)) ∧ Below w2.heap.size w2 w') (ds := [6]) (Qbz 8 0) (by kernel_rfl) rfl rfl ⟨c0e, c1e, c2e⟩ (fun hHeld => ?_)
   refine pure_ (i := 5) (N := some 26) (v := ?_) (a' := ?_) (Qbz 8 32) rfl rfl (by kernel_rfl) (fun _ _ _ h => h) (Or.inl ⟨by rfl, ?_⟩) ?_ ?_
   rotate_left
   ·intro w'
    go_simp
    with_reducible rfl
   rotate_left
   ·simp only [Act.put, Qp1, Qp2, Qp3, i64_w, i32_w]
    rfl
   refine take_ (i := 0) (N := some 21) (v := ?_) (a' := ?_) (Qbz 8 33) rfl rfl (by kernel_rfl) (fun _ _ _ h => h) (Or.inl ⟨by rfl, ?_⟩) hHeld ?_ ?_
   rotate_left
   ·rintro w' ⟨s0, s1, s2⟩
    go_simp
    with_reducible rfl
   rotate_left
   ·simp only [Act.put, Qp1, Qp2, Qp3, i64_w, i32_w]
    rfl
   refine take_ (i := 2) (N := some 23) (v := ?_) (a' := ?_) (Qbz 8 37) rfl rfl (by kernel_rfl) (fun _ _ _ h => h) (Or.inl ⟨by rfl, ?_⟩) hHeld ?_ ?_
   rotate_left
   ·rintro w' ⟨s0, s1, s2⟩
    go_simp
    with_reducible rfl
   rotate_left
   ·simp only [Act.put, Qp1, Qp2, Qp3, i64_w, i32_w]
    rfl
   refine one_ (i := 1) (N := some 22) (Qbz 8 39) rfl rfl (by kernel_rfl) (by decide) (fun K hK => ?_)
   refine goes_ Tryd.func67 (by kernel_rfl) rfl #[.slice Ag G.length cg] (by rfl) rfl rfl (by simp only [List.map_toArray, List.map_cons, List.map_nil]; rfl) ?_
   with_reducible refine (HAL2.out _ hHeld).mono ?_
   rintro e w5 ⟨rfl, k0, k1, kB5⟩
   refine ⟨_, rfl, ?_⟩
   refine hK.out _ _ ⟨k0, k1, kB5⟩ (fun hHeld => ?_)
   clear hK K
   refine norm_ (a' := ?_) ?_ ?_
   rotate_left
   ·show Act.put _ (some 22) _ = _
    simp only [Act.put, Qp1, Qp2, Qp3, i64_w, i32_w]
    rfl
   refine pure_ (i := 3) (N := some 24) (v := ?_) (a' := ?_) (Qbz 8 47) rfl rfl (by kernel_rfl) (fun _ _ _ h => h) (Or.inl ⟨by rfl, ?_⟩) ?_ ?_
   rotate_left
   ·intro w'
    go_simp
    with_reducible rfl
   rotate_left
   ·simp only [Act.put, Qp1, Qp2, Qp3, i64_w, i32_w]
    rfl
   refine one_ (i := 4) (N := some 25) (Qbz 8 63) rfl rfl (by kernel_rfl) (by decide) (fun K hK => ?_)
   refine goes_ Tryd.func98 (by kernel_rfl) rfl #[.int .i64 (lf : Int)] (by rfl) rfl rfl (by simp only [List.map_toArray, List.map_cons, List.map_nil]; rfl) ?_
   with_reducible refine (HND2.out _ hHeld).mono ?_
   rintro e w6 ⟨A6, c6, rfl, hC6, k0, k1, kB6⟩
   refine ⟨_, rfl, ?_⟩
   have HC6 := Aside0.mk hC6
   clear hC6
   refine hK.out _ _ ⟨k0, k1, kB6⟩ (fun hHeld => ?_)
   clear hK K
   refine norm_ (a' := ?_) ?_ ?_
   rotate_left
   ·show Act.put _ (some 25) _ = _
    simp only [Act.put, Qp1, Qp2, Qp3, i64_w, i32_w]
    rfl
   refine last_ (i := 6) (N := some 27) (Qbz 8 127) rfl rfl (by kernel_rfl) (by decide) (fun K hK => ?_)
   refine goes_ Tryd.func54 (by kernel_rfl) rfl #[.slice A6 L.length c6, .func (.func 99) #[] #[.pointer (some ⟨tB, 0, none⟩), .pointer (some ⟨w.heap.size, 0, none⟩), .pointer (some ⟨bB, 0, none⟩), .pointer (some ⟨cB, 0, none⟩)]] (by rfl) rfl rfl (by simp only [List.map_toArray, List.map_cons, List.map_nil]; rfl) ?_
   with_reducible refine (HCC.out _ _ _ hHeld.2.2 HC6.out).mono ?_
   rintro e w7 ⟨rfl, hK7, hG7⟩
   have HK7 := Aside0.mk hK7
   have HG7 := Aside0.mk hG7
   have HB6 := Aside0.mk kB6
   clear hK7 hG7 kB6
   refine ⟨_, rfl, ?_⟩
   refine hK.out _ _ ?_
   clear hK K
   refine norm_ (a' := ?_) ?_ ?_
   rotate_left
   ·show Act.put _ (some 27) _ = _
    simp only [Act.put, Qp1, Qp2, Qp3, i64_w, i32_w]
    rfl
   refine pure_ (i := 7) (N := some 7) (v := ?_) (a' := ?_) (Qbz 8 255) rfl rfl (by kernel_rfl) (fun _ _ _ h => h) (Or.inl ⟨by rfl, ?_⟩) ?_ ?_
   rotate_left
   ·intro w'
    go_simp
    with_reducible rfl
   rotate_left
   ·simp only [Act.put, Qp1, Qp2, Qp3, i64_w, i32_w]
    rfl
   refine done_ (by kernel_rfl) ?_
   have hG27 := grown_then (grown_of_below HB6.out (some mB)) HG7.out
   obtain ⟨n1, n2, n3, n4, n5, n6⟩ := HLOW.out w7 HK7.out.grown
   have n7 : w7.cell? ⟨w.heap.size, 0, none⟩ = some (.int .i64 (gone : Int)) := (blk_cell (blk_grown HBLK2.out hG27 (fun e => by have := Option.some.inj e; omega)) 0).trans rfl
   obtain ⟨⟨D7, hown7, hkn7⟩, hgr7⟩ := HK7.out
   have HOWN7 := Aside0.mk hown7
   have HKN7 := Aside0.mk hkn7
   have HG27 := Aside0.mk hG27
   clear hown7 hkn7 hgr7 hG27 n1 n2 n3 n5 n6
   go_wp2_with (at_mapUpdate; refine wpList_mapUpdate_own _ rfl _ _ _ _ rfl 3 4 law3 undM (plainElem Tryd.prog 4) mB 512 D7 rfl HOWN7.out (by unfold maxLen; omega) _ _ _ rfl rfl hkey _ [] (plainElem_bool und4 (F gone)) ?_; intro w8 hown8 hgrow8; have HOWN8 := Aside0.mk hown8; have HG8 := Aside0.mk hgrow8; clear hown8 hgrow8)
   go_ret
   exact ⟨rfl, HK7.out.put HKN7.out hg512 (by omega) HOWN8.out HOWN7.out.isMap HG8.out, grown_then (grown_then HG2.out HG27.out) HG8.out⟩
  ·have hr := hkn.2 gone hg512 hh
   clear hkn hgr s2 p5 p6 hown HREC HANY HND HALG c0e c1e c2e
   go_wp2_with (at_lookup; refine wpList_known rfl _ _ rfl mB 512 D rfl HOWN.out _ _ rfl hkey (F gone) true hr hh ?_)
   go_ret
   exact ⟨rfl, HK2.out, HG2.out⟩
theorem undS : Tryd.prog.underlying 22 = some (.slice 3) := by kernel_rfl
theorem width_callsO {G : List Nat} (hG : Gr 9 G) {W : Nat} (hW : IsWidth G W) (Ag : Option Addr) (cg : Nat) (hcg : G.length ≤ cg) (w : World) (hGL : GL w) (h1 : Kd.C (Kd.int .i64) w Ag (gi G).length (gi G)) :
  Calls Tryd.prog 60 #[.slice Ag G.length cg] w fun e w' => e = .returned (.int .i64 (W : Int)) ∧ Below w.heap.size w w' := by
 obtain ⟨W', hW', hE⟩ := width_ev G hG
 rw [hW'.uniq hW] at hE
 obtain ⟨K, hK⟩ := hE
 have := width_town_width.calls K Ag cg (gi G) _ w hGL h1 (by rw [gi_length]; exact hcg) (hK K (Nat.le_refl _))
 rw [gi_length] at this
 exact this
set_option maxHeartbeats 1500000 in
set_option maxRecDepth 100000 in
theorem order_calls (Ag : Option Addr) (cg : Nat) (G : List Nat) (hG : Gr 9 G) (hcg : G.length ≤ cg) (bs : Nat) (hbs : IsWidth G bs) (w : World) (hGL : GL w) (hrg : Kd.C (Kd.int .i64) w Ag (gi G).length (gi G)) :
  Calls Tryd.prog 73 #[.slice Ag G.length cg] w fun e w' => ∃ v, e = .returned v ∧ Kd.R (Kd.int .i64) 3 w' w.heap.size (fun _ => True) v (gi (ordL G bs)) ∧ Below w.heap.size w w' := by
 have hn := hG.most
 obtain ⟨wt, hwt⟩ : ∃ W : World, W = w.alloc (.cells #[.slice Ag G.length cg] 73) := ⟨_, rfl⟩
 have hBt : Below w.heap.size w wt := by rw [hwt]; exact below_alloc (Below.refl _ _) _
 have htb : wt.heap[w.heap.size]? = some (.cells #[.slice Ag G.length cg] 73 (0, 0)) := by rw [hwt]; exact Array.getElem?_push_size
 have htc : wt.cell? ⟨w.heap.size, 0, none⟩ = some (.slice Ag G.length cg) := (blk_cell htb 0).trans rfl
 have hszt : wt.heap.size = w.heap.size + 1 := by rw [hwt]; simp
 have HWD : Aside0 (Calls Tryd.prog 60 #[.slice Ag G.length cg] wt fun e w' => e = .returned (.int .i64 (bs : Int)) ∧ Below wt.heap.size wt w') := ⟨width_callsO hG hbs Ag cg hcg wt (GL_below hGL hBt) (Kd.C_below hrg hBt)⟩
 have HBT := Aside0.mk hBt
 have HTB := Aside0.mk htb
 have HGL := Aside0.mk hGL
 have HRG := Aside0.mk hrg
 rw [hwt] at htc HWD
 clear hGL hrg hBt htb
 go_enter Tryd.func73, Tryd.ntmps73
 go_wp2_with (go_at_call 60; refine HWD.out.mono ?_; rintro e w1 ⟨rfl, hb1⟩; rw [← hwt] at hb1; have HB1 := Aside0.mk hb1; clear hb1)
 obtain ⟨W0, hW0⟩ : ∃ W0 : World, W0 = ((((w1.alloc (Obj.cells #[Value.int IntKind.i64 (bs : Int)] 3)).alloc (Obj.map #[] 0)).alloc (Obj.cells #[Value.map (some (w1.heap.size + 1))] 96)).alloc (Obj.cells #[.func (.func 97) #[] #[.pointer (some ⟨w.heap.size, 0, none⟩), .pointer (some ⟨w1.heap.size + 1 + 1, 0, none⟩), .pointer (some ⟨w1.heap.size, 0, none⟩), .pointer (some ⟨w1.heap.size + 1 + 1 + 1, 0, none⟩)]] 68)) := ⟨_, rfl⟩
 rw [← hW0]
 have hs1 : w.heap.size + 1 ≤ w1.heap.size := by have := HB1.out.size; omega
 have hsz : W0.heap.size = w1.heap.size + 4 := by rw [hW0]; simp
 have hBW : Below w1.heap.size w1 W0 := by rw [hW0]; exact below_alloc (below_alloc (below_alloc (below_alloc (Below.refl _ _) _) _) _) _
 have hbt : W0.heap[w.heap.size]? = some (.cells #[.slice Ag G.length cg] 73 (0, 0)) := blk_grown (blk_grown HTB.out (grown_of_below HB1.out none) (by simp)) (grown_of_below hBW none) (by simp)
 have hbb : W0.heap[w1.heap.size]? = some (.cells #[.int .i64 (bs : Int)] 3 (0, 0)) := by
  rw [hW0]
  exact blk_alloc (blk_alloc (blk_alloc (show (w1.heap.push _)[w1.heap.size]? = _ from Array.getElem?_push_size) _) _) _
 have hbk : W0.heap[w1.heap.size + 1 + 1]? = some (.cells #[.map (some (w1.heap.size + 1))] 96 (0, 0)) := by
  rw [hW0]
  refine blk_alloc ?_ _
  have : ((w1.alloc (Obj.cells #[Value.int IntKind.i64 (bs : Int)] 3)).alloc (Obj.map #[] 0)).heap.size = w1.heap.size + 1 + 1 := by simp
  rw [← this]
  exact (show (Array.push _ _)[_]? = _ from Array.getElem?_push_size)
 have hbc : W0.heap[w1.heap.size + 1 + 1 + 1]? = some (.cells #[.func (.func 97) #[] #[.pointer (some ⟨w.heap.size, 0, none⟩), .pointer (some ⟨w1.heap.size + 1 + 1, 0, none⟩), .pointer (some ⟨w1.heap.size, 0, none⟩), .pointer (some ⟨w1.heap.size + 1 + 1 + 1, 0, none⟩)]] 68 (0, 0)) := by
  rw [hW0]
  have : (((w1.alloc (Obj.cells #[Value.int IntKind.i64 (bs : Int)] 3)).alloc (Obj.map #[] 0)).alloc (Obj.cells #[Value.map (some (w1.heap.size + 1))] 96)).heap.size = w1.heap.size + 1 + 1 + 1 := by simp
  rw [← this]
  exact (show (Array.push _ _)[_]? = _ from Array.getElem?_push_size)
 have hmap : W0.ownsMap Tryd.prog 3 (plainElem Tryd.prog 4) (w1.heap.size + 1) 512 (.map [] : DataW Unit) := by
  rw [hW0]
  have := World.ownsMap_made (H := Unit) (w1.alloc (Obj.cells #[Value.int IntKind.i64 (bs : Int)] 3)) Tryd.prog 3 (plainElem Tryd.prog 4)
  rw [show (w1.alloc (Obj.cells #[Value.int IntKind.i64 (bs : Int)] 3)).heap.size = w1.heap.size + 1 by simp] at this
  exact ((this.alloc _).alloc _).mono (by omega)
 clear hW0
 have hKM0 : KM W0 W0 (w1.heap.size + 1) 512 (canB G bs) := ⟨⟨_, hmap, (by
  refine ⟨?_, ?_⟩
  ·intro kl h; cases h
  ·intro g _ h; cases h)⟩, World.grownBy.refl _ _⟩
 have hlow : ∀ W, W0.grownBy W (some (w1.heap.size + 1)) → GL W ∧ Kd.C (Kd.int .i64) W Ag (gi G).length (gi G) ∧ W.cell? ⟨w.heap.size, 0, none⟩ = some (.slice Ag G.length cg) ∧ W.cell? ⟨w1.heap.size + 1 + 1, 0, none⟩ = some (.map (some (w1.heap.size + 1))) ∧ W.cell? ⟨w1.heap.size, 0, none⟩ = some (.int .i64 (bs : Int)) ∧ W.cell? ⟨w1.heap.size + 1 + 1 + 1, 0, none⟩ = some (canV w.heap.size (w1.heap.size + 1 + 1) w1.heap.size (w1.heap.size + 1 + 1 + 1)) := fun W hW => by
  have hB01 := below_step HBT.out HB1.out
  have hB02 := below_step hB01 hBW
  have hB : Below w.heap.size w W := ⟨hW.os.trans hB02.os, hW.tape.trans hB02.tape, hW.output.trans hB02.output, Nat.le_trans hB02.size hW.size, fun k hk => (hW.block k (by omega) (fun e => by have := Option.some.inj e; omega)).trans (hB02.block k hk)⟩
  exact ⟨GL_below HGL.out hB, Kd.C_below HRG.out hB, (blk_cell (blk_grown hbt hW (fun e => by have := Option.some.inj e; omega)) 0).trans rfl, (blk_cell (blk_grown hbk hW (fun e => by have := Option.some.inj e; omega)) 0).trans rfl, (blk_cell (blk_grown hbb hW (fun e => by have := Option.some.inj e; omega)) 0).trans rfl, (blk_cell (blk_grown hbc hW (fun e => by have := Option.some.inj e; omega)) 0).trans rfl⟩
 have HFIN : Aside0 (∀ W, W0.grownBy W (some (w1.heap.size + 1)) → Below w.heap.size w W) := ⟨fun W hW => by
  have hB02 := below_step (below_step HBT.out HB1.out) hBW
  exact ⟨hW.os.trans hB02.os, hW.tape.trans hB02.tape, hW.output.trans hB02.output, Nat.le_trans hB02.size hW.size, fun k hk => (hW.block k (by omega) (fun e => by have := Option.some.inj e; omega)).trans (hB02.block k hk)⟩⟩
 have HLOW := Aside0.mk hlow
 have HALL : Aside0 (∀ W, W0.grownBy W (some (w1.heap.size + 1)) → Calls Tryd.prog 67 #[.slice Ag G.length cg] W fun e w' => e = .returned (.int .i64 ((2 ^ G.length - 1 : Nat) : Int)) ∧ Below W.heap.size W w') := ⟨fun W hW => all_callsO hG Ag cg hcg W (HLOW.out W hW).2.1⟩
 have HDEG : Aside0 (∀ (W : World) (gone v : Nat), gone < 2 ^ G.length → v < G.length → W0.grownBy W (some (w1.heap.size + 1)) → Calls Tryd.prog 75 #[.slice Ag G.length cg, .int .i64 (v : Int), .int .i64 (gone : Int)] W fun e w' => e = .returned (.int .i64 ((dg G gone v : Nat) : Int)) ∧ Below W.heap.size W w') := ⟨fun W gone v hg hv hW => degree_callsO hG hg hv Ag cg hcg W (HLOW.out W hW).1 (HLOW.out W hW).2.1⟩
 have HCAN : Aside0 (∀ (V : World) (gone : Nat), gone < 2 ^ G.length → KM W0 V (w1.heap.size + 1) 512 (canB G bs) → Calls Tryd.prog 97 #[.int .i64 (gone : Int), .pointer (some ⟨w.heap.size, 0, none⟩), .pointer (some ⟨w1.heap.size + 1 + 1, 0, none⟩), .pointer (some ⟨w1.heap.size, 0, none⟩), .pointer (some ⟨w1.heap.size + 1 + 1 + 1, 0, none⟩)] V fun e w' => e = .returned (.bool (canB G bs gone)) ∧ KM W0 w' (w1.heap.size + 1) 512 (canB G bs) ∧ V.grownBy w' (some (w1.heap.size + 1))) := ⟨fun V gone hg hV => can_grow w.heap.size (w1.heap.size + 1 + 1) w1.heap.size (w1.heap.size + 1 + 1 + 1) (w1.heap.size + 1) W0 (by omega) Ag cg G hG hcg bs hlow _ gone V rfl hg hV⟩
 have HKM0 := Aside0.mk hKM0
 have h2n := Nat.two_pow_pos G.length
 have hpc0 : pc (lft G 0) 9 = G.length := by
  have e : lft G 0 = 2 ^ G.length - 1 := eq_bits fun j => by rw [lft_bit, all_bit]; simp [bset]
  rw [e]
  have : ∀ i : Fin 10, pc (2 ^ i.val - 1) 9 = i.val := by decide
  exact this ⟨G.length, by omega⟩
 have hc0 : canB G bs 0 = true := (canB_zero hn hG).2 ((hbs bs).1 (Nat.le_refl _))
 have HC0 := Aside0.mk hc0
 have HBS := Aside0.mk hbs
 have HGR := Aside0.mk hG
 have H2N := Aside0.mk h2n
 have hmB : w1.heap.size + 1 < W0.heap.size := by omega
 clear hbt hbb hbk hbc hmap hlow hBW hKM0 hwt htc hszt hbs hG hc0 h2n
 go_loopg [6, 7] G.length (fun kq v6 v7 w' => ∃ (gone : Nat) (M : List Nat), v7 = .int .i64 (gone : Int) ∧ pc (lft G gone) 9 = kq ∧ M.length + kq = G.length ∧ Aside0 (gone < 2 ^ G.length) ∧ Aside0 (canB G bs gone = true) ∧ Aside0 (M ++ ordD G bs kq gone = ordL G bs) ∧ Aside0 (KM W0 w' (w1.heap.size + 1) 512 (canB G bs) ∧ w'.ownsRow W0.heap.size 3 1 v6 M.length ((gi M).map (Value.int .i64))))
 case atStart => exact ⟨0, [], rfl, hpc0, by simp, H2N, HC0, ⟨rfl⟩, ⟨HKM0.out, ⟨rfl, .inl ⟨rfl, rfl⟩⟩⟩⟩
 case round =>
  clear HC0 hpc0
  obtain ⟨gone, M, rfl, hpc, hMl, HG1, HC1, HM1, HX1⟩ := hrel
  obtain ⟨A6, c6, e6⟩ := ownsRow_form2 HX1.out.2
  subst e6
  have ht0 : wr.cell? ⟨w.heap.size, 0, none⟩ = some (.slice Ag G.length cg) := (HLOW.out wr HX1.out.1.grown).2.2.1
  have hg512 := smallO hn HG1.out
  have hall512 : 2 ^ G.length - 1 < 512 := by
   have h2 : 2 ^ G.length ≤ 2 ^ 9 := Nat.pow_le_pow_right (by omega) hn
   have h3 := H2N.out
   omega
  by_cases hall : gone = 2 ^ G.length - 1
  ·have hk0 : gk = 0 := by rw [← hpc, hall, lft_all]; rfl
   subst hk0
   have hne : (((gone : Int)) != ((2 ^ G.length - 1 : Nat) : Int)) = false := by rw [hall]; simp
   have HAL := Aside0.mk (HALL.out wr HX1.out.1.grown)
   rw [← hall] at HAL
   have HM2 : Aside0 (M = ordL G bs) := ⟨by have := HM1.out; simpa [ordD] using this⟩
   clear hall hall512 hne
   go_wp2_with (go_at_call 67; refine HAL.out.mono ?_; rintro e w3 ⟨rfl, hb3⟩; have HB3 := Aside0.mk hb3; clear hb3)
   go_ret
   refine ⟨_, rfl, ?_, HFIN.out _ ((HX1.out.1.low (grown_of_below HB3.out none)).grown)⟩
   have ho := own_kept HX1.out.2 (grown_of_below HB3.out none) (fun _ _ e => by cases e)
   rw [← HM2.out]
   rw [← gi_length M] at ho
   have hR := Kd.R_of_own (h1 := fun _ => rfl) (ok := fun _ => True) ho (fun _ _ => trivial)
   rw [gi_length] at hR
   have hR2 := Kd.R_lower hR (show w.heap.size ≤ W0.heap.size by omega)
   exact hR2
  ·have hne : (((gone : Int)) != ((2 ^ G.length - 1 : Nat) : Int)) = true := by
    have : (((gone : Int)) == ((2 ^ G.length - 1 : Nat) : Int)) = false := beq_eq_false_iff_ne.2 (by omega)
    rw [bne, this]; rfl
   have hne2 : (((gone : Int)) == ((2 ^ G.length - 1 : Nat) : Int)) = false := beq_eq_false_iff_ne.2 (by omega)
   cases gk with
   | zero => exact absurd hpc (pc_pos (smallO hn (lft_lt G gone)) (lft_ne HG1.out hall))
   | succ d =>
   have hand : Go.bits .andNot .i64 ((2 ^ G.length - 1 : Nat) : Int) (gone : Int) = ((lft G gone : Nat) : Int) := b_andNot _ _ (by omega) (by omega)
   obtain ⟨L, hL⟩ : ∃ L : List Nat, L = els (lft G gone) 9 := ⟨_, rfl⟩
   have hfind : ∃ x, L.find? (nextP G bs gone) = some x := by
    obtain ⟨v, h1, h2, h3⟩ := (canB_true hn HG1.out hall).1 HC1.out
    have hm : v ∈ L := by rw [hL]; exact mem_els.2 ⟨bit_lt (lft_small hn gone) h1, h1⟩
    cases hf : L.find? (nextP G bs gone) with
    | some x => exact ⟨x, rfl⟩
    | none =>
     have := List.find?_eq_none.1 hf v hm
     unfold nextP at this
     rw [h3, decide_eq_true h2] at this
     simp at this
   obtain ⟨x, hx⟩ := hfind
   have HM2 : Aside0 (M ++ x :: ordD G bs d (gone ||| 2 ^ x) = ordL G bs) := ⟨by
    have := HM1.out
    rw [ordD, ← hL, hx] at this
    exact this⟩
   have hxL : x ∈ L := List.mem_of_find?_eq_some hx
   have hxp : nextP G bs gone x = true := List.find?_some hx
   have hLb : ∀ u ∈ L, bset (lft G gone) u := fun u hu => by rw [hL] at hu; exact (mem_els.1 hu).2
   have hLlen : L.length ≤ 9 := by rw [hL, els_length]; exact pc_le _ 9
   have HND : Aside0 (∀ W, GL W → w1.heap.size + 1 < W.heap.size → Calls Tryd.prog 98 #[.int .i64 ((lft G gone : Nat) : Int)] W fun e w' => ∃ A c, e = .returned (.slice A L.length c) ∧ L.length ≤ c ∧ (∀ V, w'.grownBy V (some (w1.heap.size + 1)) → Kd.C (Kd.int .i64) V A L.length (gi L)) ∧ Below W.heap.size W w') := ⟨fun W hGLW hW => by
    rw [hL]
    exact nodes_callsO (smallO hn (lft_lt G gone)) (w1.heap.size + 1) W hW hGLW⟩
   have HLB := Aside0.mk hLb
   have HXB := Aside0.mk (hLb x hxL)
   have HXP := Aside0.mk hxp
   have HF0 : Aside0 ((L.drop 0).find? (nextP G bs gone) = some x) := ⟨hx⟩
   have HPC : Aside0 (pc (lft G (gone ||| 2 ^ x)) 9 = d) := ⟨by have := pc_lft hn (hLb x hxL); omega⟩
   have HAL := Aside0.mk (fun W hW => HALL.out W hW)
   obtain ⟨z, hz⟩ : ∃ z : Nat, z = 2 ^ G.length - 1 := ⟨_, rfl⟩
   rw [← hz] at hne hne2 hand HAL
   generalize hlf : lft G gone = lf at HND hand
   clear hL hx hxL hxp hLb hpc hall hall512 hz HM1 HALL
   go_wp2_with (first
    | (go_at_call 67; refine (HAL.out _ (by first | exact (HX1.out.1.low (grown_of_below HBA.out none)).grown | exact HX1.out.1.grown)).mono ?_; rintro e w3 ⟨rfl, hb3⟩; have HBA := Aside0.mk (by first | exact below_step HBA.out hb3 | exact hb3); have ht3 := (hb3.cell (World.block_lt_of_cell? _ _ (by assumption))).trans (by assumption); clear hb3)
    | (go_at_call 98; refine (HND.out _ (HLOW.out _ (HX1.out.1.low (grown_of_below HBA.out none)).grown).1 (Nat.lt_of_lt_of_le hmB (HX1.out.1.low (grown_of_below HBA.out none)).grown.size)).mono ?_; rintro e w5 ⟨An, cn, rfl, hcn, hCn, hb5⟩; have HCN := Aside0.mk hCn; have HB5 := Aside0.mk (below_step HBA.out hb5); clear hCn hb5))
   have HX5 : Aside0 (KM W0 w5 (w1.heap.size + 1) 512 (canB G bs) ∧ w5.ownsRow W0.heap.size 3 1 (.slice A6 M.length c6) M.length ((gi M).map (Value.int .i64))) := ⟨HX1.out.1.low (grown_of_below HB5.out none), own_kept HX1.out.2 (grown_of_below HB5.out none) (fun _ _ e => by cases e)⟩
   clear HX1 HND HAL hand hne hne2
   obtain ⟨wo, rfl⟩ : ∃ wo : World, wo = w5 := ⟨_, rfl⟩
   go_loopg [24, 6, 7] L.length (fun iq v24 v6 v7 w' => ∃ i : Nat, v24 = .int .i64 (i : Int) ∧ v6 = .slice A6 M.length c6 ∧ v7 = .int .i64 (gone : Int) ∧ i + iq = L.length ∧ Aside0 ((L.drop i).find? (nextP G bs gone) = some x) ∧ Aside0 (KM W0 w' (w1.heap.size + 1) 512 (canB G bs) ∧ wo.grownBy w' (some (w1.heap.size + 1))))
   case atStart => exact ⟨0, rfl, rfl, rfl, by omega, HF0, ⟨HX5.out.1, World.grownBy.refl _ _⟩⟩
   case round =>
    clear HF0
    obtain ⟨i, rfl, rfl, rfl, hi, HF, HW⟩ := hrel
    have hil : i < L.length := Nat.lt_of_not_le fun h => by
     have := HF.out
     rw [List.drop_eq_nil_of_le h] at this
     cases this
    have hi1 : ((i : Int) < (L.length : Int)) = True := eq_true (by omega)
    have hi2 : decide ((i : Int) < (L.length : Int)) = true := decide_eq_true (by omega)
    cases gk with
    | zero => omega
    | succ gi' =>
    obtain ⟨ad, e1, hgx⟩ := Kd.at_int (HCN.out wr HW.out.2) (i : Int) (by omega) (by omega)
    subst e1
    rw [rd_gi, Int.toNat_natCast] at hgx
    have hf := HF.out
    rw [List.drop_eq_getElem_cons hil, List.find?_cons] at hf
    have hum : L[i] ∈ L := List.getElem_mem hil
    have hue : L.getD i 0 = L[i] := by rw [List.getD_eq_getElem?_getD, List.getElem?_eq_getElem hil]; rfl
    rw [hue] at hgx
    generalize L[i] = u at *
    have hub := HLB.out u hum
    have hun : u < G.length := ((lft_bit G gone u).1 hub).1
    obtain ⟨q1, q2, q3, q4, q5, q6⟩ := HLOW.out wr HW.out.1.grown
    have c0d : wr.drew.cell? ⟨w.heap.size, 0, none⟩ = some (.slice Ag G.length cg) := q3
    have c1d : wr.drew.cell? ⟨w1.heap.size, 0, none⟩ = some (.int .i64 (bs : Int)) := q5
    have c2d : wr.drew.cell? ⟨w1.heap.size + 1 + 1 + 1, 0, none⟩ = some (.func (.func 97) #[] #[.pointer (some ⟨w.heap.size, 0, none⟩), .pointer (some ⟨w1.heap.size + 1 + 1, 0, none⟩), .pointer (some ⟨w1.heap.size, 0, none⟩), .pointer (some ⟨w1.heap.size + 1 + 1 + 1, 0, none⟩)]) := q6
    have c3d : Below wr.heap.size wr wr.drew := below_drew (Below.refl _ _)
    have HKR := Aside0.mk HW.out.1
    have HGR2 := Aside0.mk HW.out.2
    obtain ⟨N, ⟨hS1, hS2, hS3⟩, hNv⟩ := shK u (by omega)
    have h2u : 2 ^ u < 2 ^ G.length := Nat.pow_lt_pow_right (by omega) hun
    have hor : Go.bits .or .i64 (gone : Int) N = ((gone ||| 2 ^ u : Nat) : Int) := by
     rw [hNv, b_or _ _ (Nat.lt_of_lt_of_le hg512 (by decide)) (Nat.lt_of_lt_of_le (smallO hn h2u) (by decide))]
    have HDG : Aside0 (∀ W, (W.cell? ⟨w.heap.size, 0, none⟩ = some (.slice Ag G.length cg) ∧ W.cell? ⟨w1.heap.size, 0, none⟩ = some (.int .i64 (bs : Int)) ∧ W.cell? ⟨w1.heap.size + 1 + 1 + 1, 0, none⟩ = some (.func (.func 97) #[] #[.pointer (some ⟨w.heap.size, 0, none⟩), .pointer (some ⟨w1.heap.size + 1 + 1, 0, none⟩), .pointer (some ⟨w1.heap.size, 0, none⟩), .pointer (some ⟨w1.heap.size + 1 + 1 + 1, 0, none⟩)]) ∧ Below wr.heap.size wr W) → Calls Tryd.prog 75 #[.slice Ag G.length cg, .int .i64 (u : Int), .int .i64 (gone : Int)] W fun e w' => e = .returned (.int .i64 ((dg G gone u : Nat) : Int)) ∧ w'.cell? ⟨w.heap.size, 0, none⟩ = some (.slice Ag G.length cg) ∧ w'.cell? ⟨w1.heap.size, 0, none⟩ = some (.int .i64 (bs : Int)) ∧ w'.cell? ⟨w1.heap.size + 1 + 1 + 1, 0, none⟩ = some (.func (.func 97) #[] #[.pointer (some ⟨w.heap.size, 0, none⟩), .pointer (some ⟨w1.heap.size + 1 + 1, 0, none⟩), .pointer (some ⟨w1.heap.size, 0, none⟩), .pointer (some ⟨w1.heap.size + 1 + 1 + 1, 0, none⟩)]) ∧ Below wr.heap.size wr w') := ⟨by
     rintro W ⟨s0, s1, s2, s3⟩
     refine (HDEG.out W gone u HG1.out hun ((HKR.out.low (grown_of_below s3 none)).grown)).mono ?_
     rintro e w' ⟨rfl, hb⟩
     exact ⟨rfl, (hb.cell (World.block_lt_of_cell? W _ s0)).trans s0, (hb.cell (World.block_lt_of_cell? W _ s1)).trans s1, (hb.cell (World.block_lt_of_cell? W _ s2)).trans s2, below_step s3 hb⟩⟩
    have HREC : Aside0 (∀ V, KM W0 V (w1.heap.size + 1) 512 (canB G bs) → Calls Tryd.prog 97 #[.int .i64 ((gone ||| 2 ^ u : Nat) : Int), .pointer (some ⟨w.heap.size, 0, none⟩), .pointer (some ⟨w1.heap.size + 1 + 1, 0, none⟩), .pointer (some ⟨w1.heap.size, 0, none⟩), .pointer (some ⟨w1.heap.size + 1 + 1 + 1, 0, none⟩)] V fun e w' => e = .returned (.bool (canB G bs (gone ||| 2 ^ u))) ∧ KM W0 w' (w1.heap.size + 1) 512 (canB G bs) ∧ V.grownBy w' (some (w1.heap.size + 1))) := ⟨fun V hV => HCAN.out V _ (or_in HG1.out hub) hV⟩
    have HOR : Aside0 (gone ||| 2 ^ u < 2 ^ G.length) := ⟨or_in HG1.out hub⟩
    clear HF HW q1 q2 q3 q4 q5 q6 hNv h2u hum hue hub
    by_cases hp : nextP G bs gone u = true
    ·rw [hp] at hf
     obtain rfl : u = x := Option.some.inj hf
     have hp2 := hp
     unfold nextP at hp2
     rw [Bool.and_eq_true, decide_eq_true_eq] at hp2
     obtain ⟨hle, hcan⟩ := hp2
     rw [hcan] at HREC
     have HCANT := Aside0.mk hcan
     generalize gone ||| 2 ^ u = gone' at *
     generalize dg G gone u = dv at *
     have hdec1 : ((dv : Int) ≤ (bs : Int)) = True := eq_true (by omega)
     have hdec2 : decide ((dv : Int) ≤ (bs : Int)) = true := decide_eq_true (by omega)
     clear hf hp hcan HXP HXB HLB
     go_wp2
     refine start_ (n := 14) (S := fun w' => w'.cell? ⟨w.heap.size, 0, none⟩ = some (.slice Ag G.length cg) ∧ w'.cell? ⟨w1.heap.size, 0, none⟩ = some (.int .i64 (bs : Int)) ∧ w'.cell? ⟨w1.heap.size + 1 + 1 + 1, 0, none⟩ = some (.func (.func 97) #[] #[.pointer (some ⟨w.heap.size, 0, none⟩), .pointer (some ⟨w1.heap.size + 1 + 1, 0, none⟩), .pointer (some ⟨w1.heap.size, 0, none⟩), .pointer (some ⟨w1.heap.size + 1 + 1 + 1, 0, none⟩)]) ∧ Below wr.heap.size wr w') (ds := [12]) (Qbz 14 0) (by kernel_rfl) rfl rfl ⟨c0d, c1d, c2d, c3d⟩ (fun hHeld => ?_)
     refine pure_ (i := 1) (N := some 29) (v := ?_) (a' := ?_) (Qbz 14 2) rfl rfl (by kernel_rfl) (fun _ _ _ h => h) (Or.inl ⟨by rfl, ?_⟩) ?_ ?_
     rotate_left
     ·intro w'
      go_simp
      with_reducible rfl
     rotate_left
     ·simp only [Act.put, Qp1, Qp2, Qp3, i64_w, i32_w]
      rfl
     refine pure_ (i := 2) (N := some 30) (v := ?_) (a' := ?_) (Qbz 14 6) rfl rfl (by kernel_rfl) (fun _ _ _ h => h) (Or.inl ⟨by rfl, ?_⟩) ?_ ?_
     rotate_left
     ·intro w'
      go_simp
      with_reducible rfl
     rotate_left
     ·simp only [Act.put, Qp1, Qp2, Qp3, i64_w, i32_w]
      rfl
     refine take_ (i := 0) (N := some 28) (v := ?_) (a' := ?_) (Qbz 14 7) rfl rfl (by kernel_rfl) (fun _ _ _ h => h) (Or.inl ⟨by rfl, ?_⟩) hHeld ?_ ?_
     rotate_left
     ·rintro w' ⟨s0, s1, s2, s3⟩
      go_simp
      with_reducible rfl
     rotate_left
     ·simp only [Act.put, Qp1, Qp2, Qp3, i64_w, i32_w]
      rfl
     refine take_ (i := 4) (N := some 32) (v := ?_) (a' := ?_) (Qbz 14 23) rfl rfl (by kernel_rfl) (fun _ _ _ h => h) (Or.inl ⟨by rfl, ?_⟩) hHeld ?_ ?_
     rotate_left
     ·rintro w' ⟨s0, s1, s2, s3⟩
      go_simp
      with_reducible rfl
     rotate_left
     ·simp only [Act.put, Qp1, Qp2, Qp3, i64_w, i32_w]
      rfl
     refine one_ (i := 3) (N := some 31) (Qbz 14 31) rfl rfl (by kernel_rfl) (by decide) (fun K hK => ?_)
     refine goes_ Tryd.func75 (by kernel_rfl) rfl #[.slice Ag G.length cg, .int .i64 (u : Int), .int .i64 (gone : Int)] (by rfl) rfl rfl (by simp only [List.map_toArray, List.map_cons, List.map_nil]; rfl) ?_
     with_reducible refine (HDG.out _ hHeld).mono ?_
     rintro e w9 ⟨rfl, k0, k1, k2, kB9⟩
     refine ⟨_, rfl, ?_⟩
     refine hK.out _ _ ⟨k0, k1, k2, kB9⟩ (fun hHeld => ?_)
     clear hK K
     refine norm_ (a' := ?_) ?_ ?_
     rotate_left
     ·show Act.put _ (some 31) _ = _
      simp only [Act.put, Qp1, Qp2, Qp3, i64_w, i32_w]
      rfl
     refine pure_ (i := 5) (N := some 33) (v := ?_) (a' := ?_) (Qbz 14 63) rfl rfl (by kernel_rfl) (fun _ _ _ h => h) (Or.inl ⟨by rfl, ?_⟩) ?_ ?_
     rotate_left
     ·intro w'
      go_simp
      with_reducible rfl
     rotate_left
     ·simp only [Act.put, Qp1, Qp2, Qp3, i64_w, i32_w]
      rfl
     refine pure_ (i := 6) (N := some 34) (v := ?_) (a' := ?_) (Qbz 14 127) rfl rfl (by kernel_rfl) (fun _ _ _ h => h) (Or.inl ⟨by rfl, ?_⟩) ?_ ?_
     rotate_left
     ·intro w'
      go_simp
      with_reducible rfl
     rotate_left
     ·simp only [Act.put, Qp1, Qp2, Qp3, i64_w, i32_w]
      rfl
     refine pure_ (i := 8) (N := some 36) (v := ?_) (a' := ?_) (Qbz 14 383) rfl rfl (by kernel_rfl) (fun _ _ _ h => h) (Or.inl ⟨by rfl, ?_⟩) ?_ ?_
     rotate_left
     ·intro w'
      go_simp
      with_reducible rfl
     rotate_left
     ·simp only [Act.put, Qp1, Qp2, Qp3, i64_w, i32_w]
      rfl
     refine pure_ (i := 9) (N := some 37) (v := ?_) (a' := ?_) (Qbz 14 895) rfl rfl (by kernel_rfl) (fun _ _ _ h => h) (Or.inl ⟨by rfl, ?_⟩) ?_ ?_
     rotate_left
     ·intro w'
      go_simp
      with_reducible rfl
     rotate_left
     ·simp only [Act.put, Qp1, Qp2, Qp3, i64_w, i32_w]
      rfl
     refine pure_ (i := 10) (N := some 38) (v := ?_) (a' := ?_) (Qbz 14 1919) rfl rfl (by kernel_rfl) (fun _ _ _ h => h) (Or.inl ⟨by rfl, ?_⟩) ?_ ?_
     rotate_left
     ·intro w'
      go_simp
      with_reducible rfl
     rotate_left
     ·simp only [Act.put, Qp1, Qp2, Qp3, i64_w, i32_w]
      rfl
     refine pure_ (i := 11) (N := some 39) (v := ?_) (a' := ?_) (Qbz 14 3967) rfl rfl (by kernel_rfl) (fun _ _ _ h => h) (Or.inl ⟨by rfl, ?_⟩) ?_ ?_
     rotate_left
     ·intro w'
      go_simp
      with_reducible rfl
     rotate_left
     ·simp only [Act.put, Qp1, Qp2, Qp3, i64_w, i32_w]
      rfl
     refine take_ (i := 7) (N := some 35) (v := ?_) (a' := ?_) (Qbz 14 4095) rfl rfl (by kernel_rfl) (fun _ _ _ h => h) (Or.inl ⟨by rfl, ?_⟩) hHeld ?_ ?_
     rotate_left
     ·rintro w' ⟨s0, s1, s2, s3⟩
      go_simp
      with_reducible rfl
     rotate_left
     ·simp only [Act.put, Qp1, Qp2, Qp3, i64_w, i32_w]
      rfl
     refine last_ (i := 12) (N := some 40) (Qbz 14 8191) rfl rfl (by kernel_rfl) (by decide) (fun K hK => ?_)
     refine goesK_ Tryd.func97 (by kernel_rfl) rfl #[.int .i64 (gone' : Int)] #[.pointer (some ⟨w.heap.size, 0, none⟩), .pointer (some ⟨w1.heap.size + 1 + 1, 0, none⟩), .pointer (some ⟨w1.heap.size, 0, none⟩), .pointer (some ⟨w1.heap.size + 1 + 1 + 1, 0, none⟩)] #[.int .i64 (gone' : Int), .pointer (some ⟨w.heap.size, 0, none⟩), .pointer (some ⟨w1.heap.size + 1 + 1, 0, none⟩), .pointer (some ⟨w1.heap.size, 0, none⟩), .pointer (some ⟨w1.heap.size + 1 + 1 + 1, 0, none⟩)] (.tmp 35) (by rfl) rfl rfl (by rfl) (by simp only [List.map_toArray, List.map_cons, List.map_nil]; rfl) rfl ?_
     with_reducible refine (HREC.out _ (HKR.out.low (grown_of_below hHeld.2.2.2 none))).mono ?_
     rintro e w10 ⟨rfl, hK10, hG10⟩
     have HK10 := Aside0.mk hK10
     have HG10 := Aside0.mk hG10
     have HB9 := Aside0.mk kB9
     clear hK10 hG10 kB9
     refine ⟨_, rfl, ?_⟩
     refine hK.out _ _ ?_
     clear hK K
     refine norm_ (a' := ?_) ?_ ?_
     rotate_left
     ·show Act.put _ (some 40) _ = _
      simp only [Act.put, Qp1, Qp2, Qp3, i64_w, i32_w]
      rfl
     refine pure_ (i := 13) (N := some 41) (v := ?_) (a' := ?_) (Qbz 14 16383) rfl rfl (by kernel_rfl) (fun _ _ _ h => h) (Or.inl ⟨by rfl, ?_⟩) ?_ ?_
     rotate_left
     ·intro w'
      go_simp
      with_reducible rfl
     rotate_left
     ·simp only [Act.put, Qp1, Qp2, Qp3, i64_w, i32_w]
      rfl
     refine done_ (by kernel_rfl) ?_
     have hK10 := HK10.out
     have hG510 := grown_then HGR2.out (grown_then (grown_of_below HB9.out (some (w1.heap.size + 1))) HG10.out)
     have hO10 := own_kept HX5.out.2 hG510 (fun b hb e => by have := own_base2 HX5.out.2 b hb; have e2 := Option.some.inj e; omega)
     have HO10 := Aside0.mk hO10
     obtain ⟨i3, hi3, hq0, hq1, hq2⟩ := info_parts info3
     clear hO10 hG510 hK10
     go_wp2_with (at_builtin; refine wpList_append_own_at _ rfl _ _ 22 rfl W0.heap.size 3 i3 (.int .i64 0) 1 8 undS hi3 hq0 hq1 hq2 rfl (by decide) (.slice A6 M.length c6) M.length ((gi M).map (Value.int .i64)) rfl (HO10.out.alloc _) ⟨w10.heap.size, 0, none⟩ 1 1 [.int .i64 (u : Int)] rfl rfl (cell_one_new _ _ _) (by simp [Value.oneCell']) (by unfold maxLen; omega) (by omega) (by have := HK10.out.grown.size; simp; omega) ?_; intro v8 w8 hown8 hg8 _ hfb8; have HOWN8 := Aside0.mk hown8; have HG8 := Aside0.mk hg8; clear hown8 hg8 hfb8)
     go_roundg d
     case measure => omega
     case rel =>
      have hbase := fun j (e : (Value.slice A6 M.length c6).ownBlock = some j) => own_base2 HO10.out j e
      have k1 := HK10.out.low (World.grownBy_alloc w10 (.cells #[.int .i64 (u : Int)] 3) none)
      have k2 := k1.lowR hmB HG8.out (fun j e => hbase j e)
      refine ⟨gone', M ++ [u], rfl, HPC.out, by simp; omega, HOR, HCANT, ⟨by have := HM2.out; simpa using this⟩, ⟨k2, ?_⟩⟩
      have ho := HOWN8.out
      rw [show (M ++ [u]).length = M.length + 1 by simp, show (gi (M ++ [u])).map (Value.int .i64) = (gi M).map (Value.int .i64) ++ [.int .i64 (u : Int)] by simp [gi]]
      exact ho
    ·have hpf : nextP G bs gone u = false := by simpa using hp
     rw [hpf] at hf
     have HF2 : Aside0 ((L.drop (i + 1)).find? (nextP G bs gone) = some x) := ⟨hf⟩
     have hp2 := hpf
     unfold nextP at hp2
     clear hf hp hpf
     by_cases hle : dg G gone u ≤ bs
     ·rw [decide_eq_true hle, Bool.true_and] at hp2
      rw [hp2] at HREC
      generalize gone ||| 2 ^ u = gone' at *
      generalize dg G gone u = dv at *
      have hdec1 : ((dv : Int) ≤ (bs : Int)) = True := eq_true (by omega)
      have hdec2 : decide ((dv : Int) ≤ (bs : Int)) = true := decide_eq_true (by omega)
      clear hp2
      go_wp2
      refine start_ (n := 14) (S := fun w' => w'.cell? ⟨w.heap.size, 0, none⟩ = some (.slice Ag G.length cg) ∧ w'.cell? ⟨w1.heap.size, 0, none⟩ = some (.int .i64 (bs : Int)) ∧ w'.cell? ⟨w1.heap.size + 1 + 1 + 1, 0, none⟩ = some (.func (.func 97) #[] #[.pointer (some ⟨w.heap.size, 0, none⟩), .pointer (some ⟨w1.heap.size + 1 + 1, 0, none⟩), .pointer (some ⟨w1.heap.size, 0, none⟩), .pointer (some ⟨w1.heap.size + 1 + 1 + 1, 0, none⟩)]) ∧ Below wr.heap.size wr w') (ds := [12]) (Qbz 14 0) (by kernel_rfl) rfl rfl ⟨c0d, c1d, c2d, c3d⟩ (fun hHeld => ?_)
      refine pure_ (i := 1) (N := some 29) (v := ?_) (a' := ?_) (Qbz 14 2) rfl rfl (by kernel_rfl) (fun _ _ _ h => h) (Or.inl ⟨by rfl, ?_⟩) ?_ ?_
      rotate_left
      ·intro w'
       go_simp
       with_reducible rfl
      rotate_left
      ·simp only [Act.put, Qp1, Qp2, Qp3, i64_w, i32_w]
       rfl
      refine pure_ (i := 2) (N := some 30) (v := ?_) (a' := ?_) (Qbz 14 6) rfl rfl (by kernel_rfl) (fun _ _ _ h => h) (Or.inl ⟨by rfl, ?_⟩) ?_ ?_
      rotate_left
      ·intro w'
       go_simp
       with_reducible rfl
      rotate_left
      ·simp only [Act.put, Qp1, Qp2, Qp3, i64_w, i32_w]
       rfl
      refine take_ (i := 0) (N := some 28) (v := ?_) (a' := ?_) (Qbz 14 7) rfl rfl (by kernel_rfl) (fun _ _ _ h => h) (Or.inl ⟨by rfl, ?_⟩) hHeld ?_ ?_
      rotate_left
      ·rintro w' ⟨s0, s1, s2, s3⟩
       go_simp
       with_reducible rfl
      rotate_left
      ·simp only [Act.put, Qp1, Qp2, Qp3, i64_w, i32_w]
       rfl
      refine take_ (i := 4) (N := some 32) (v := ?_) (a' := ?_) (Qbz 14 23) rfl rfl (by kernel_rfl) (fun _ _ _ h => h) (Or.inl ⟨by rfl, ?_⟩) hHeld ?_ ?_
      rotate_left
      ·rintro w' ⟨s0, s1, s2, s3⟩
       go_simp
       with_reducible rfl
      rotate_left
      ·simp only [Act.put, Qp1, Qp2, Qp3, i64_w, i32_w]
       rfl
      refine one_ (i := 3) (N := some 31) (Qbz 14 31) rfl rfl (by kernel_rfl) (by decide) (fun K hK => ?_)
      refine goes_ Tryd.func75 (by kernel_rfl) rfl #[.slice Ag G.length cg, .int .i64 (u : Int), .int .i64 (gone : Int)] (by rfl) rfl rfl (by simp only [List.map_toArray, List.map_cons, List.map_nil]; rfl) ?_
      with_reducible refine (HDG.out _ hHeld).mono ?_
      rintro e w9 ⟨rfl, k0, k1, k2, kB9⟩
      refine ⟨_, rfl, ?_⟩
      refine hK.out _ _ ⟨k0, k1, k2, kB9⟩ (fun hHeld => ?_)
      clear hK K
      refine norm_ (a' := ?_) ?_ ?_
      rotate_left
      ·show Act.put _ (some 31) _ = _
       simp only [Act.put, Qp1, Qp2, Qp3, i64_w, i32_w]
       rfl
      refine pure_ (i := 5) (N := some 33) (v := ?_) (a' := ?_) (Qbz 14 63) rfl rfl (by kernel_rfl) (fun _ _ _ h => h) (Or.inl ⟨by rfl, ?_⟩) ?_ ?_
      rotate_left
      ·intro w'
       go_simp
       with_reducible rfl
      rotate_left
      ·simp only [Act.put, Qp1, Qp2, Qp3, i64_w, i32_w]
       rfl
      refine pure_ (i := 6) (N := some 34) (v := ?_) (a' := ?_) (Qbz 14 127) rfl rfl (by kernel_rfl) (fun _ _ _ h => h) (Or.inl ⟨by rfl, ?_⟩) ?_ ?_
      rotate_left
      ·intro w'
       go_simp
       with_reducible rfl
      rotate_left
      ·simp only [Act.put, Qp1, Qp2, Qp3, i64_w, i32_w]
       rfl
      refine pure_ (i := 8) (N := some 36) (v := ?_) (a' := ?_) (Qbz 14 383) rfl rfl (by kernel_rfl) (fun _ _ _ h => h) (Or.inl ⟨by rfl, ?_⟩) ?_ ?_
      rotate_left
      ·intro w'
       go_simp
       with_reducible rfl
      rotate_left
      ·simp only [Act.put, Qp1, Qp2, Qp3, i64_w, i32_w]
       rfl
      refine pure_ (i := 9) (N := some 37) (v := ?_) (a' := ?_) (Qbz 14 895) rfl rfl (by kernel_rfl) (fun _ _ _ h => h) (Or.inl ⟨by rfl, ?_⟩) ?_ ?_
      rotate_left
      ·intro w'
       go_simp
       with_reducible rfl
      rotate_left
      ·simp only [Act.put, Qp1, Qp2, Qp3, i64_w, i32_w]
       rfl
      refine pure_ (i := 10) (N := some 38) (v := ?_) (a' := ?_) (Qbz 14 1919) rfl rfl (by kernel_rfl) (fun _ _ _ h => h) (Or.inl ⟨by rfl, ?_⟩) ?_ ?_
      rotate_left
      ·intro w'
       go_simp
       with_reducible rfl
      rotate_left
      ·simp only [Act.put, Qp1, Qp2, Qp3, i64_w, i32_w]
       rfl
      refine pure_ (i := 11) (N := some 39) (v := ?_) (a' := ?_) (Qbz 14 3967) rfl rfl (by kernel_rfl) (fun _ _ _ h => h) (Or.inl ⟨by rfl, ?_⟩) ?_ ?_
      rotate_left
      ·intro w'
       go_simp
       with_reducible rfl
      rotate_left
      ·simp only [Act.put, Qp1, Qp2, Qp3, i64_w, i32_w]
       rfl
      refine take_ (i := 7) (N := some 35) (v := ?_) (a' := ?_) (Qbz 14 4095) rfl rfl (by kernel_rfl) (fun _ _ _ h => h) (Or.inl ⟨by rfl, ?_⟩) hHeld ?_ ?_
      rotate_left
      ·rintro w' ⟨s0, s1, s2, s3⟩
       go_simp
       with_reducible rfl
      rotate_left
      ·simp only [Act.put, Qp1, Qp2, Qp3, i64_w, i32_w]
       rfl
      refine last_ (i := 12) (N := some 40) (Qbz 14 8191) rfl rfl (by kernel_rfl) (by decide) (fun K hK => ?_)
      refine goesK_ Tryd.func97 (by kernel_rfl) rfl #[.int .i64 (gone' : Int)] #[.pointer (some ⟨w.heap.size, 0, none⟩), .pointer (some ⟨w1.heap.size + 1 + 1, 0, none⟩), .pointer (some ⟨w1.heap.size, 0, none⟩), .pointer (some ⟨w1.heap.size + 1 + 1 + 1, 0, none⟩)] #[.int .i64 (gone' : Int), .pointer (some ⟨w.heap.size, 0, none⟩), .pointer (some ⟨w1.heap.size + 1 + 1, 0, none⟩), .pointer (some ⟨w1.heap.size, 0, none⟩), .pointer (some ⟨w1.heap.size + 1 + 1 + 1, 0, none⟩)] (.tmp 35) (by rfl) rfl rfl (by rfl) (by simp only [List.map_toArray, List.map_cons, List.map_nil]; rfl) rfl ?_
      with_reducible refine (HREC.out _ (HKR.out.low (grown_of_below hHeld.2.2.2 none))).mono ?_
      rintro e w10 ⟨rfl, hK10, hG10⟩
      have HK10 := Aside0.mk hK10
      have HG10 := Aside0.mk hG10
      have HB9 := Aside0.mk kB9
      clear hK10 hG10 kB9
      refine ⟨_, rfl, ?_⟩
      refine hK.out _ _ ?_
      clear hK K
      refine norm_ (a' := ?_) ?_ ?_
      rotate_left
      ·show Act.put _ (some 40) _ = _
       simp only [Act.put, Qp1, Qp2, Qp3, i64_w, i32_w]
       rfl
      refine pure_ (i := 13) (N := some 41) (v := ?_) (a' := ?_) (Qbz 14 16383) rfl rfl (by kernel_rfl) (fun _ _ _ h => h) (Or.inl ⟨by rfl, ?_⟩) ?_ ?_
      rotate_left
      ·intro w'
       go_simp
       with_reducible rfl
      rotate_left
      ·simp only [Act.put, Qp1, Qp2, Qp3, i64_w, i32_w]
       rfl
      refine done_ (by kernel_rfl) ?_
      go_wp2
      go_roundg gi'
      case measure => omega
      case rel => exact ⟨i + 1, by go_num, rfl, rfl, by omega, HF2, ⟨HK10.out, grown_then HGR2.out (grown_then (grown_of_below HB9.out (some (w1.heap.size + 1))) HG10.out)⟩⟩
     ·generalize gone ||| 2 ^ u = gone' at *
      generalize dg G gone u = dv at *
      have hdec1 : ((dv : Int) ≤ (bs : Int)) = False := eq_false (by omega)
      have hdec2 : decide ((dv : Int) ≤ (bs : Int)) = false := decide_eq_false (by omega)
      clear hp2 HREC
      go_wp2
      refine start_ (n := 14) (S := fun w' => w'.cell? ⟨w.heap.size, 0, none⟩ = some (.slice Ag G.length cg) ∧ w'.cell? ⟨w1.heap.size, 0, none⟩ = some (.int .i64 (bs : Int)) ∧ w'.cell? ⟨w1.heap.size + 1 + 1 + 1, 0, none⟩ = some (.func (.func 97) #[] #[.pointer (some ⟨w.heap.size, 0, none⟩), .pointer (some ⟨w1.heap.size + 1 + 1, 0, none⟩), .pointer (some ⟨w1.heap.size, 0, none⟩), .pointer (some ⟨w1.heap.size + 1 + 1 + 1, 0, none⟩)]) ∧ Below wr.heap.size wr w') (ds := []) (Qbz 14 0) (by kernel_rfl) rfl rfl ⟨c0d, c1d, c2d, c3d⟩ (fun hHeld => ?_)
      refine pure_ (i := 1) (N := some 29) (v := ?_) (a' := ?_) (Qbz 14 2) rfl rfl (by kernel_rfl) (fun _ _ _ h => h) (Or.inl ⟨by rfl, ?_⟩) ?_ ?_
      rotate_left
      ·intro w'
       go_simp
       with_reducible rfl
      rotate_left
      ·simp only [Act.put, Qp1, Qp2, Qp3, i64_w, i32_w]
       rfl
      refine pure_ (i := 2) (N := some 30) (v := ?_) (a' := ?_) (Qbz 14 6) rfl rfl (by kernel_rfl) (fun _ _ _ h => h) (Or.inl ⟨by rfl, ?_⟩) ?_ ?_
      rotate_left
      ·intro w'
       go_simp
       with_reducible rfl
      rotate_left
      ·simp only [Act.put, Qp1, Qp2, Qp3, i64_w, i32_w]
       rfl
      refine take_ (i := 0) (N := some 28) (v := ?_) (a' := ?_) (Qbz 14 7) rfl rfl (by kernel_rfl) (fun _ _ _ h => h) (Or.inl ⟨by rfl, ?_⟩) hHeld ?_ ?_
      rotate_left
      ·rintro w' ⟨s0, s1, s2, s3⟩
       go_simp
       with_reducible rfl
      rotate_left
      ·simp only [Act.put, Qp1, Qp2, Qp3, i64_w, i32_w]
       rfl
      refine take_ (i := 4) (N := some 32) (v := ?_) (a' := ?_) (Qbz 14 23) rfl rfl (by kernel_rfl) (fun _ _ _ h => h) (Or.inl ⟨by rfl, ?_⟩) hHeld ?_ ?_
      rotate_left
      ·rintro w' ⟨s0, s1, s2, s3⟩
       go_simp
       with_reducible rfl
      rotate_left
      ·simp only [Act.put, Qp1, Qp2, Qp3, i64_w, i32_w]
       rfl
      refine one_ (i := 3) (N := some 31) (Qbz 14 31) rfl rfl (by kernel_rfl) (by decide) (fun K hK => ?_)
      refine goes_ Tryd.func75 (by kernel_rfl) rfl #[.slice Ag G.length cg, .int .i64 (u : Int), .int .i64 (gone : Int)] (by rfl) rfl rfl (by simp only [List.map_toArray, List.map_cons, List.map_nil]; rfl) ?_
      with_reducible refine (HDG.out _ hHeld).mono ?_
      rintro e w9 ⟨rfl, k0, k1, k2, kB9⟩
      refine ⟨_, rfl, ?_⟩
      refine hK.out _ _ ⟨k0, k1, k2, kB9⟩ (fun hHeld => ?_)
      clear hK K
      refine norm_ (a' := ?_) ?_ ?_
      rotate_left
      ·show Act.put _ (some 31) _ = _
       simp only [Act.put, Qp1, Qp2, Qp3, i64_w, i32_w]
       rfl
      refine pure_ (i := 5) (N := some 33) (v := ?_) (a' := ?_) (Qbz 14 63) rfl rfl (by kernel_rfl) (fun _ _ _ h => h) (Or.inl ⟨by rfl, ?_⟩) ?_ ?_
      rotate_left
      ·intro w'
       go_simp
       with_reducible rfl
      rotate_left
      ·simp only [Act.put, Qp1, Qp2, Qp3, i64_w, i32_w]
       rfl
      refine pure_ (i := 6) (N := some 34) (v := ?_) (a' := ?_) (Qbz 14 127) rfl rfl (by kernel_rfl) (fun _ _ _ h => h) (Or.inl ⟨by rfl, ?_⟩) ?_ ?_
      rotate_left
      ·intro w'
       go_simp
       with_reducible rfl
      rotate_left
      ·simp only [Act.put, Qp1, Qp2, Qp3, i64_w, i32_w]
       rfl
      refine pure_ (i := 7) (N := some 35) (v := undef) (a' := ?_) (Qbz 14 255) rfl rfl (by kernel_rfl) (fun _ _ _ h => h) (Or.inr ⟨by rfl, rfl⟩) ?_ ?_
      rotate_left
      ·simp only [Act.put, Qp1, Qp2, Qp3, i64_w, i32_w]
       rfl
      refine pure_ (i := 8) (N := some 36) (v := undef) (a' := ?_) (Qbz 14 511) rfl rfl (by kernel_rfl) (fun _ _ _ h => h) (Or.inr ⟨by rfl, rfl⟩) ?_ ?_
      rotate_left
      ·simp only [Act.put, Qp1, Qp2, Qp3, i64_w, i32_w]
       rfl
      refine pure_ (i := 9) (N := some 37) (v := undef) (a' := ?_) (Qbz 14 1023) rfl rfl (by kernel_rfl) (fun _ _ _ h => h) (Or.inr ⟨by rfl, rfl⟩) ?_ ?_
      rotate_left
      ·simp only [Act.put, Qp1, Qp2, Qp3, i64_w, i32_w]
       rfl
      refine pure_ (i := 10) (N := some 38) (v := undef) (a' := ?_) (Qbz 14 2047) rfl rfl (by kernel_rfl) (fun _ _ _ h => h) (Or.inr ⟨by rfl, rfl⟩) ?_ ?_
      rotate_left
      ·simp only [Act.put, Qp1, Qp2, Qp3, i64_w, i32_w]
       rfl
      refine pure_ (i := 11) (N := some 39) (v := undef) (a' := ?_) (Qbz 14 4095) rfl rfl (by kernel_rfl) (fun _ _ _ h => h) (Or.inr ⟨by rfl, rfl⟩) ?_ ?_
      rotate_left
      ·simp only [Act.put, Qp1, Qp2, Qp3, i64_w, i32_w]
       rfl
      refine pure_ (i := 12) (N := some 40) (v := undef) (a' := ?_) (Qbz 14 8191) rfl rfl (by kernel_rfl) (fun _ _ _ h => h) (Or.inr ⟨by rfl, rfl⟩) ?_ ?_
      rotate_left
      ·simp only [Act.put, Qp1, Qp2, Qp3, i64_w, i32_w]
       rfl
      refine pure_ (i := 13) (N := some 41) (v := ?_) (a' := ?_) (Qbz 14 16383) rfl rfl (by kernel_rfl) (fun _ _ _ h => h) (Or.inl ⟨by rfl, ?_⟩) ?_ ?_
      rotate_left
      ·intro w'
       go_simp
       with_reducible rfl
      rotate_left
      ·simp only [Act.put, Qp1, Qp2, Qp3, i64_w, i32_w]
       rfl
      refine done_ (by kernel_rfl) ?_
      go_wp2
      go_roundg gi'
      case measure => omega
      case rel => exact ⟨i + 1, by go_num, rfl, rfl, by omega, HF2, ⟨HKR.out.low (grown_of_below hHeld.2.2.2 none), grown_then HGR2.out (grown_of_below hHeld.2.2.2 (some (w1.heap.size + 1)))⟩⟩
theorem gi_toNatO (G : List Nat) : (gi G).map Int.toNat = G := by
 unfold gi
 rw [List.map_map]
 conv => rhs; rw [← List.map_id G]
 exact List.map_congr_left fun x _ => by simp
open Classical in
noncomputable def widthN (G : List Nat) : Nat := if h : ∃ W, IsWidth G W then Classical.choose h else 0
theorem widthN_is {m : Nat} {G : List Nat} (hG : Gr m G) : IsWidth G (widthN G) := by
 obtain ⟨W, hW, _⟩ := width_exists hG
 have h : ∃ W, IsWidth G W := ⟨W, hW⟩
 unfold widthN
 rw [dif_pos h]
 exact Classical.choose_spec h
noncomputable def width_town_order.f (g : List Int) : Option (List Int) :=
 if chk 9 g = true then some (gi (ordL (g.map Int.toNat) (widthN (g.map Int.toNat)))) else none
theorem width_town_order.calls (A0 : Option Addr) (c0 : Nat) (l0 : List Int) (r1 : List Int) (w : World) (hGL : GL w) (hr0 : Kd.C (Kd.int .i64) w A0 l0.length l0) (hc0 : l0.length ≤ c0) (h : width_town_order.f l0 = some r1) :
  Calls Tryd.prog 73 #[.slice A0 l0.length c0] w fun e w' => ∃ v, e = .returned v ∧ Kd.R (Kd.int .i64) 3 w' w.heap.size (fun _ => True) v r1 ∧ Below w.heap.size w w' := by
 unfold width_town_order.f at h
 by_cases hc : chk 9 l0 = true
 ·rw [if_pos hc] at h
  obtain ⟨G, rfl, hG⟩ := (chk_iff 9 (by omega) _).1 hc
  rw [gi_toNatO] at h
  have h := Option.some.inj h
  subst h
  have := order_calls A0 c0 G hG (by rw [gi_length] at hc0; exact hc0) (widthN G) (widthN_is hG) w hGL hr0
  rw [gi_length]
  exact this
 ·rw [if_neg hc] at h; cases h
end Go.Proofs.YtoffehihicabcaaDoor.X
end
section
namespace Go.Proofs.YtoffehihicabcaaDoor.X
open Go.RowKit YtoffehihicabcaaDoorW.PrintWords YtoffehihicabcaaDoorW.PrintLast YtoffehihicabcaaDoorW.PrintMore
attribute [local go_sem] max2_int min2_int max_two min_two max_three min_three max_four min_four
noncomputable section
/-! ### width_Order: function 36 -/
def width_Order.f (k : Nat) (l0 : List Int) : Option (List Int × Int) := (width_read.f k l0).bind fun bt327 => (if bt327.2 = true then ((width_town_order.f bt327.1).bind fun t331 => (some (t331, 0))) else (some (([] : List Int), 2)))
set_option maxHeartbeats 8000000 in
set_option maxRecDepth 100000 in
theorem width_Order.calls (k : Nat) (A0 : Option Addr) (c0 : Nat) (l0 : List Int) (r1 : List Int) (r2 : Int) (w : World) (hGL : GL w) (hr0 : Kd.C (Kd.int .i64) w A0 l0.length l0) (hc0 : l0.length ≤ c0) (h : width_Order.f k l0 = some (r1, r2)) :
  Calls Tryd.prog 36 #[.slice A0 l0.length c0] w fun e w' => ∃ v0_ : Value, e = .returned (.tuple #[v0_, .int .i64 r2]) ∧ Kd.R (Kd.int .i64) 3 w' w.heap.size (fun _ => True) v0_ r1 ∧ Below w.heap.size w w' := by
 have HGL := Aside0.mk hGL
 clear hGL
 have HR0 := Aside0.mk hr0
 have HC0 := Aside0.mk hc0
 clear hr0 hc0
 have HB := Aside0.mk (Below.refl w.heap.size w)
 have H : ((width_read.f k l0).bind fun bt327 => (if bt327.2 = true then ((width_town_order.f bt327.1).bind fun t331 => (some (t331, 0))) else (some (([] : List Int), 2)))) = some (r1, r2) := h
 clear h
 replace H := Option.bind_eq_some_iff.mp H
 obtain ⟨⟨t327, t330⟩, A20, H⟩ := H
 replace H : (if t330 = true then ((width_town_order.f t327).bind fun t331 => (some (t331, 0))) else (some (([] : List Int), 2))) = some (r1, r2) := H
 have A2 := Aside0.mk A20
 clear A20
 by_cases c3 : t330 = true
 ·subst c3
  have H1 : ((width_town_order.f t327).bind fun t331 => (some (t331, 0))) = some (r1, r2) := by rw [if_pos rfl] at H; exact H
  clear H
  have H := H1
  clear H1
  replace H := Option.bind_eq_some_iff.mp H
  obtain ⟨t331, A40, H⟩ := H
  replace H : (some (t331, 0)) = some (r1, r2) := H
  have A4 := Aside0.mk A40
  clear A40
  simp only [Option.some.injEq, Prod.mk.injEq] at H
  obtain ⟨rfl, rfl⟩ := H
  go_enter Tryd.func36, Tryd.ntmps36
  go_wp2_with (first | ((with_reducible refine gate_callee (f := 59) rfl ?_); refine goesL_ (some 8) rfl rfl Tryd.func59 (by kernel_rfl) rfl #[.slice A0 l0.length c0] rfl (Qls) ?_; (with_reducible refine (width_read.calls k (fun k_ => k_ < w.heap.size) _ _ l0 t327 true _ ?side1 A2.out).mono ?_); (case side1 => exact Kd.V_mk HC0.out (Kd.F_below (Kd.C_F (Kd.heap_int .i64) HR0.out) (Qaw))); rintro e w5 ⟨v328, rfl, ho0, hb⟩; refine ⟨_, rfl, ?_⟩; have n0_ := Aside0.mk (Kd.V_lower (Kd.V_mono (ok' := fun k_ => True) ho0 (fun k_ hk_ => trivial)) (below_size (Qaw))); have n1_ := Aside0.mk (below_step (Qaw) hb); clear HB; have HO329 := n0_; have HB := n1_; clear n0_ n1_; (try clear hb); (try clear hb2); (try clear hk); (try clear hi); (try clear ho0); obtain ⟨Ao6, co6, eo6⟩ := Kd.V_slice HO329.out; subst eo6) | ((with_reducible refine gate_callee (f := 73) rfl ?_); refine goesL_ (some 14) rfl rfl Tryd.func73 (by kernel_rfl) rfl #[.slice Ao6 t327.length co6] rfl (Qls) ?_; (with_reducible refine (width_town_order.calls (hGL := (Qlg)) _ _ t327 t331 _ ?side1 ?side2 A4.out).mono ?_); (case side1 => exact Qsc (Kd.V_reads' HO329.out).2.2); (case side2 => exact (Kd.V_reads' HO329.out).2.1); rintro e w7 ⟨v332, rfl, ho0, hb⟩; refine ⟨_, rfl, ?_⟩; have n0_ := Aside0.mk (Kd.V_elder' (by (with_reducible repeat (first | apply Kd.V_alloc | apply Kd.V_drewN | apply Kd.V_drew)); exact HO329.out) (Kd.R_base ho0) hb); have n1_ := Aside0.mk (Kd.R_lower ho0 (below_size (Qaw))); have n2_ := Aside0.mk (below_step (Qaw) hb); clear HO329; clear HB; have HO329 := n0_; have HO333 := n1_; have HB := n2_; clear n0_ n1_ n2_; (try clear hb); (try clear hb2); (try clear hk); (try clear hi); (try clear ho0)))
  go_ret2
  exact ⟨_, by first | rfl | (simp [errW_none, errW_some] <;> rfl) | (simp [*, errW_none, errW_some] <;> rfl), by (with_reducible repeat (first | apply Kd.R_alloc | apply Kd.R_drewN | apply Kd.R_drew)); exact HO333.out, by repeat (first | (with_reducible first | exact HB.out | apply below_alloc | apply pw_below_drewN | apply below_drew1) | exact HB.out)⟩
 ·replace c3 := Bool.eq_false_iff.mpr c3
  subst c3
  have H1 : (some (([] : List Int), 2)) = some (r1, r2) := by rw [if_neg (show ¬ (false = true) by decide)] at H; exact H
  clear H
  have H := H1
  clear H1
  simp only [Option.some.injEq, Prod.mk.injEq] at H
  obtain ⟨rfl, rfl⟩ := H
  go_enter Tryd.func36, Tryd.ntmps36
  go_wp2_with (first | ((with_reducible refine gate_callee (f := 59) rfl ?_); refine goesL_ (some 8) rfl rfl Tryd.func59 (by kernel_rfl) rfl #[.slice A0 l0.length c0] rfl (Qls) ?_; (with_reducible refine (width_read.calls k (fun k_ => k_ < w.heap.size) _ _ l0 t327 false _ ?side1 A2.out).mono ?_); (case side1 => exact Kd.V_mk HC0.out (Kd.F_below (Kd.C_F (Kd.heap_int .i64) HR0.out) (Qaw))); rintro e w8 ⟨v328, rfl, ho0, hb⟩; refine ⟨_, rfl, ?_⟩; have n0_ := Aside0.mk (Kd.V_lower (Kd.V_mono (ok' := fun k_ => True) ho0 (fun k_ hk_ => trivial)) (below_size (Qaw))); have n1_ := Aside0.mk (below_step (Qaw) hb); clear HB; have HO329 := n0_; have HB := n1_; clear n0_ n1_; (try clear hb); (try clear hb2); (try clear hk); (try clear hi); (try clear ho0)))
  go_ret2
  exact ⟨_, by first | rfl | (simp [errW_none, errW_some] <;> rfl) | (simp [*, errW_none, errW_some] <;> rfl), by first | exact Kd.R_nil _ _ _ _ _ | exact Kd.N_nil _ _ _ _ _ | exact Kd.V_nil _ _ _ _ _ | exact Kd.Q_nil _ _ _ _ _ | exact Kd.S_nil _ _ _ _ _, by repeat (first | (with_reducible first | exact HB.out | apply below_alloc | apply pw_below_drewN | apply below_drew1) | exact HB.out)⟩
end
end Go.Proofs.YtoffehihicabcaaDoor.X
end
section
namespace Go.Proofs.YtoffehihicabcaaDoor.X
open Go.RowKit YtoffehihicabcaaDoorW.PrintWords YtoffehihicabcaaDoorW.PrintLast YtoffehihicabcaaDoorW.PrintMore
attribute [local go_sem] max2_int min2_int max_two min_two max_three min_three max_four min_four
noncomputable section
/-! ### lampblacklaw02_WidthLeast: function 10 -/
def lampblacklaw02_WidthLeast.f (k : Nat) (l0 : List Int) (l1 : List Int) : Option (Bool) := (lampblacklaw02_Few.f l0).bind fun t470 => ((width_Width.f k t470).bind fun bt473 => ((lampblacklaw02_Few.f l0).bind fun t475 => ((width_Order.f k t475).bind fun bt478 => (if bt473.2 = 0 then ((lampblacklaw02_Few.f l0).bind fun t483 => ((width_Along.f k t483 bt478.1).bind fun bt486 => ((lampblacklaw02_Few.f l0).bind fun t488 => ((lampblacklaw02_list.f l1).bind fun t491 => ((width_Along.f k t488 t491).bind fun bt494 => (if bt478.2 = 0 then (if bt486.2 = 0 then (if bt486.1 = bt473.1 then (if bt494.2 = 2 then ((lampblacklaw02_awake.f k).bind fun t496 => (some t496)) else (if bt494.2 = 0 then (if bt494.1 ≥ bt473.1 then ((slices_Compare_int_int.f k bt478.1 l1).bind fun t497 => (if t497 ≤ 0 then ((lampblacklaw02_awake.f k).bind fun t498 => (some t498)) else (if bt494.1 > bt473.1 then ((lampblacklaw02_awake.f k).bind fun t499 => (some t499)) else (some false)))) else (if bt494.1 > bt473.1 then ((lampblacklaw02_awake.f k).bind fun t500 => (some t500)) else (some false))) else (if bt494.1 > bt473.1 then ((lampblacklaw02_awake.f k).bind fun t501 => (some t501)) else (some false)))) else (some false)) else (some false)) else (some false))))))) else (if bt473.2 = 2 then (if bt478.2 = 2 then ((lampblacklaw02_awake.f k).bind fun t482 => (some t482)) else (some false)) else (some false))))))
set_option maxHeartbeats 8000000 in
set_option maxRecDepth 100000 in
theorem lampblacklaw02_WidthLeast.calls (k : Nat) (A0 : Option Addr) (c0 : Nat) (l0 : List Int) (A1 : Option Addr) (c1 : Nat) (l1 : List Int) (r : Bool) (w : World) (hGL : GL w) (hr0 : Kd.C (Kd.int .i64) w A0 l0.length l0) (hc0 : l0.length ≤ c0) (hr1 : Kd.C (Kd.int .i64) w A1 l1.length l1) (hc1 : l1.length ≤ c1) (h : lampblacklaw02_WidthLeast.f k l0 l1 = some r) :
  Calls Tryd.prog 10 #[.slice A0 l0.length c0, .slice A1 l1.length c1] w fun e w' => e = .returned (.bool r) ∧ Below w.heap.size w w' := by
 have HGL := Aside0.mk hGL
 clear hGL
 have HR0 := Aside0.mk hr0
 have HC0 := Aside0.mk hc0
 clear hr0 hc0
 have HR1 := Aside0.mk hr1
 have HC1 := Aside0.mk hc1
 clear hr1 hc1
 have HB := Aside0.mk (Below.refl w.heap.size w)
 have H : ((lampblacklaw02_Few.f l0).bind fun t470 => ((width_Width.f k t470).bind fun bt473 => ((lampblacklaw02_Few.f l0).bind fun t475 => ((width_Order.f k t475).bind fun bt478 => (if bt473.2 = 0 then ((lampblacklaw02_Few.f l0).bind fun t483 => ((width_Along.f k t483 bt478.1).bind fun bt486 => ((lampblacklaw02_Few.f l0).bind fun t488 => ((lampblacklaw02_list.f l1).bind fun t491 => ((width_Along.f k t488 t491).bind fun bt494 => (if bt478.2 = 0 then (if bt486.2 = 0 then (if bt486.1 = bt473.1 then (if bt494.2 = 2 then ((lampblacklaw02_awake.f k).bind fun t496 => (some t496)) else (if bt494.2 = 0 then (if bt494.1 ≥ bt473.1 then ((slices_Compare_int_int.f k bt478.1 l1).bind fun t497 => (if t497 ≤ 0 then ((lampblacklaw02_awake.f k).bind fun t498 => (some t498)) else (if bt494.1 > bt473.1 then ((lampblacklaw02_awake.f k).bind fun t499 => (some t499)) else (some false)))) else (if bt494.1 > bt473.1 then ((lampblacklaw02_awake.f k).bind fun t500 => (some t500)) else (some false))) else (if bt494.1 > bt473.1 then ((lampblacklaw02_awake.f k).bind fun t501 => (some t501)) else (some false)))) else (some false)) else (some false)) else (some false))))))) else (if bt473.2 = 2 then (if bt478.2 = 2 then ((lampblacklaw02_awake.f k).bind fun t482 => (some t482)) else (some false)) else (some false))))))) = some r := h
 clear h
 replace H := Option.bind_eq_some_iff.mp H
 obtain ⟨t470, A30, H⟩ := H
 replace H : ((width_Width.f k t470).bind fun bt473 => ((lampblacklaw02_Few.f l0).bind fun t475 => ((width_Order.f k t475).bind fun bt478 => (if bt473.2 = 0 then ((lampblacklaw02_Few.f l0).bind fun t483 => ((width_Along.f k t483 bt478.1).bind fun bt486 => ((lampblacklaw02_Few.f l0).bind fun t488 => ((lampblacklaw02_list.f l1).bind fun t491 => ((width_Along.f k t488 t491).bind fun bt494 => (if bt478.2 = 0 then (if bt486.2 = 0 then (if bt486.1 = bt473.1 then (if bt494.2 = 2 then ((lampblacklaw02_awake.f k).bind fun t496 => (some t496)) else (if bt494.2 = 0 then (if bt494.1 ≥ bt473.1 then ((slices_Compare_int_int.f k bt478.1 l1).bind fun t497 => (if t497 ≤ 0 then ((lampblacklaw02_awake.f k).bind fun t498 => (some t498)) else (if bt494.1 > bt473.1 then ((lampblacklaw02_awake.f k).bind fun t499 => (some t499)) else (some false)))) else (if bt494.1 > bt473.1 then ((lampblacklaw02_awake.f k).bind fun t500 => (some t500)) else (some false))) else (if bt494.1 > bt473.1 then ((lampblacklaw02_awake.f k).bind fun t501 => (some t501)) else (some false)))) else (some false)) else (some false)) else (some false))))))) else (if bt473.2 = 2 then (if bt478.2 = 2 then ((lampblacklaw02_awake.f k).bind fun t482 => (some t482)) else (some false)) else (some false)))))) = some r := H
 have A3 := Aside0.mk A30
 clear A30
 replace H := Option.bind_eq_some_iff.mp H
 obtain ⟨⟨t473, t474⟩, A40, H⟩ := H
 replace H : ((lampblacklaw02_Few.f l0).bind fun t475 => ((width_Order.f k t475).bind fun bt478 => (if t474 = 0 then ((lampblacklaw02_Few.f l0).bind fun t483 => ((width_Along.f k t483 bt478.1).bind fun bt486 => ((lampblacklaw02_Few.f l0).bind fun t488 => ((lampblacklaw02_list.f l1).bind fun t491 => ((width_Along.f k t488 t491).bind fun bt494 => (if bt478.2 = 0 then (if bt486.2 = 0 then (if bt486.1 = t473 then (if bt494.2 = 2 then ((lampblacklaw02_awake.f k).bind fun t496 => (some t496)) else (if bt494.2 = 0 then (if bt494.1 ≥ t473 then ((slices_Compare_int_int.f k bt478.1 l1).bind fun t497 => (if t497 ≤ 0 then ((lampblacklaw02_awake.f k).bind fun t498 => (some t498)) else (if bt494.1 > t473 then ((lampblacklaw02_awake.f k).bind fun t499 => (some t499)) else (some false)))) else (if bt494.1 > t473 then ((lampblacklaw02_awake.f k).bind fun t500 => (some t500)) else (some false))) else (if bt494.1 > t473 then ((lampblacklaw02_awake.f k).bind fun t501 => (some t501)) else (some false)))) else (some false)) else (some false)) else (some false))))))) else (if t474 = 2 then (if bt478.2 = 2 then ((lampblacklaw02_awake.f k).bind fun t482 => (some t482)) else (some false)) else (some false))))) = some r := H
 have A4 := Aside0.mk A40
 clear A40
 replace H := Option.bind_eq_some_iff.mp H
 obtain ⟨t475, A50, H⟩ := H
 replace H : ((width_Order.f k t475).bind fun bt478 => (if t474 = 0 then ((lampblacklaw02_Few.f l0).bind fun t483 => ((width_Along.f k t483 bt478.1).bind fun bt486 => ((lampblacklaw02_Few.f l0).bind fun t488 => ((lampblacklaw02_list.f l1).bind fun t491 => ((width_Along.f k t488 t491).bind fun bt494 => (if bt478.2 = 0 then (if bt486.2 = 0 then (if bt486.1 = t473 then (if bt494.2 = 2 then ((lampblacklaw02_awake.f k).bind fun t496 => (some t496)) else (if bt494.2 = 0 then (if bt494.1 ≥ t473 then ((slices_Compare_int_int.f k bt478.1 l1).bind fun t497 => (if t497 ≤ 0 then ((lampblacklaw02_awake.f k).bind fun t498 => (some t498)) else (if bt494.1 > t473 then ((lampblacklaw02_awake.f k).bind fun t499 => (some t499)) else (some false)))) else (if bt494.1 > t473 then ((lampblacklaw02_awake.f k).bind fun t500 => (some t500)) else (some false))) else (if bt494.1 > t473 then ((lampblacklaw02_awake.f k).bind fun t501 => (some t501)) else (some false)))) else (some false)) else (some false)) else (some false))))))) else (if t474 = 2 then (if bt478.2 = 2 then ((lampblacklaw02_awake.f k).bind fun t482 => (some t482)) else (some false)) else (some false)))) = some r := H
 have A5 := Aside0.mk A50
 clear A50
 replace H := Option.bind_eq_some_iff.mp H
 obtain ⟨⟨t478, t479⟩, A60, H⟩ := H
 replace H : (if t474 = 0 then ((lampblacklaw02_Few.f l0).bind fun t483 => ((width_Along.f k t483 t478).bind fun bt486 => ((lampblacklaw02_Few.f l0).bind fun t488 => ((lampblacklaw02_list.f l1).bind fun t491 => ((width_Along.f k t488 t491).bind fun bt494 => (if t479 = 0 then (if bt486.2 = 0 then (if bt486.1 = t473 then (if bt494.2 = 2 then ((lampblacklaw02_awake.f k).bind fun t496 => (some t496)) else (if bt494.2 = 0 then (if bt494.1 ≥ t473 then ((slices_Compare_int_int.f k t478 l1).bind fun t497 => (if t497 ≤ 0 then ((lampblacklaw02_awake.f k).bind fun t498 => (some t498)) else (if bt494.1 > t473 then ((lampblacklaw02_awake.f k).bind fun t499 => (some t499)) else (some false)))) else (if bt494.1 > t473 then ((lampblacklaw02_awake.f k).bind fun t500 => (some t500)) else (some false))) else (if bt494.1 > t473 then ((lampblacklaw02_awake.f k).bind fun t501 => (some t501)) else (some false)))) else (some false)) else (some false)) else (some false))))))) else (if t474 = 2 then (if t479 = 2 then ((lampblacklaw02_awake.f k).bind fun t482 => (some t482)) else (some false)) else (some false))) = some r := H
 have A6 := Aside0.mk A60
 clear A60
 by_cases c7 : t474 = 0
 ·rw [if_pos c7] at H
  have c7b0 : (t474 == 0) = true := beq_iff_eq.mpr c7
  have c7b1 : (t474 != 0) = false := bne_eq_false_iff_eq.mpr c7
  clear c7
  replace H := Option.bind_eq_some_iff.mp H
  obtain ⟨t483, A80, H⟩ := H
  replace H : ((width_Along.f k t483 t478).bind fun bt486 => ((lampblacklaw02_Few.f l0).bind fun t488 => ((lampblacklaw02_list.f l1).bind fun t491 => ((width_Along.f k t488 t491).bind fun bt494 => (if t479 = 0 then (if bt486.2 = 0 then (if bt486.1 = t473 then (if bt494.2 = 2 then ((lampblacklaw02_awake.f k).bind fun t496 => (some t496)) else (if bt494.2 = 0 then (if bt494.1 ≥ t473 then ((slices_Compare_int_int.f k t478 l1).bind fun t497 => (if t497 ≤ 0 then ((lampblacklaw02_awake.f k).bind fun t498 => (some t498)) else (if bt494.1 > t473 then ((lampblacklaw02_awake.f k).bind fun t499 => (some t499)) else (some false)))) else (if bt494.1 > t473 then ((lampblacklaw02_awake.f k).bind fun t500 => (some t500)) else (some false))) else (if bt494.1 > t473 then ((lampblacklaw02_awake.f k).bind fun t501 => (some t501)) else (some false)))) else (some false)) else (some false)) else (some false)))))) = some r := H
  have A8 := Aside0.mk A80
  clear A80
  replace H := Option.bind_eq_some_iff.mp H
  obtain ⟨⟨t486, t487⟩, A90, H⟩ := H
  replace H : ((lampblacklaw02_Few.f l0).bind fun t488 => ((lampblacklaw02_list.f l1).bind fun t491 => ((width_Along.f k t488 t491).bind fun bt494 => (if t479 = 0 then (if t487 = 0 then (if t486 = t473 then (if bt494.2 = 2 then ((lampblacklaw02_awake.f k).bind fun t496 => (some t496)) else (if bt494.2 = 0 then (if bt494.1 ≥ t473 then ((slices_Compare_int_int.f k t478 l1).bind fun t497 => (if t497 ≤ 0 then ((lampblacklaw02_awake.f k).bind fun t498 => (some t498)) else (if bt494.1 > t473 then ((lampblacklaw02_awake.f k).bind fun t499 => (some t499)) else (some false)))) else (if bt494.1 > t473 then ((lampblacklaw02_awake.f k).bind fun t500 => (some t500)) else (some false))) else (if bt494.1 > t473 then ((lampblacklaw02_awake.f k).bind fun t501 => (some t501)) else (some false)))) else (some false)) else (some false)) else (some false))))) = some r := H
  have A9 := Aside0.mk A90
  clear A90
  replace H := Option.bind_eq_some_iff.mp H
  obtain ⟨t488, A100, H⟩ := H
  replace H : ((lampblacklaw02_list.f l1).bind fun t491 => ((width_Along.f k t488 t491).bind fun bt494 => (if t479 = 0 then (if t487 = 0 then (if t486 = t473 then (if bt494.2 = 2 then ((lampblacklaw02_awake.f k).bind fun t496 => (some t496)) else (if bt494.2 = 0 then (if bt494.1 ≥ t473 then ((slices_Compare_int_int.f k t478 l1).bind fun t497 => (if t497 ≤ 0 then ((lampblacklaw02_awake.f k).bind fun t498 => (some t498)) else (if bt494.1 > t473 then ((lampblacklaw02_awake.f k).bind fun t499 => (some t499)) else (some false)))) else (if bt494.1 > t473 then ((lampblacklaw02_awake.f k).bind fun t500 => (some t500)) else (some false))) else (if bt494.1 > t473 then ((lampblacklaw02_awake.f k).bind fun t501 => (some t501)) else (some false)))) else (some false)) else (some false)) else (some false)))) = some r := H
  have A10 := Aside0.mk A100
  clear A100
  replace H := Option.bind_eq_some_iff.mp H
  obtain ⟨t491, A110, H⟩ := H
  replace H : ((width_Along.f k t488 t491).bind fun bt494 => (if t479 = 0 then (if t487 = 0 then (if t486 = t473 then (if bt494.2 = 2 then ((lampblacklaw02_awake.f k).bind fun t496 => (some t496)) else (if bt494.2 = 0 then (if bt494.1 ≥ t473 then ((slices_Compare_int_int.f k t478 l1).bind fun t497 => (if t497 ≤ 0 then ((lampblacklaw02_awake.f k).bind fun t498 => (some t498)) else (if bt494.1 > t473 then ((lampblacklaw02_awake.f k).bind fun t499 => (some t499)) else (some false)))) else (if bt494.1 > t473 then ((lampblacklaw02_awake.f k).bind fun t500 => (some t500)) else (some false))) else (if bt494.1 > t473 then ((lampblacklaw02_awake.f k).bind fun t501 => (some t501)) else (some false)))) else (some false)) else (some false)) else (some false))) = some r := H
  have A11 := Aside0.mk A110
  clear A110
  replace H := Option.bind_eq_some_iff.mp H
  obtain ⟨⟨t494, t495⟩, A120, H⟩ := H
  replace H : (if t479 = 0 then (if t487 = 0 then (if t486 = t473 then (if t495 = 2 then ((lampblacklaw02_awake.f k).bind fun t496 => (some t496)) else (if t495 = 0 then (if t494 ≥ t473 then ((slices_Compare_int_int.f k t478 l1).bind fun t497 => (if t497 ≤ 0 then ((lampblacklaw02_awake.f k).bind fun t498 => (some t498)) else (if t494 > t473 then ((lampblacklaw02_awake.f k).bind fun t499 => (some t499)) else (some false)))) else (if t494 > t473 then ((lampblacklaw02_awake.f k).bind fun t500 => (some t500)) else (some false))) else (if t494 > t473 then ((lampblacklaw02_awake.f k).bind fun t501 => (some t501)) else (some false)))) else (some false)) else (some false)) else (some false)) = some r := H
  have A12 := Aside0.mk A120
  clear A120
  by_cases c13 : t479 = 0
  ·rw [if_pos c13] at H
   have c13b0 : (t479 == 0) = true := beq_iff_eq.mpr c13
   have c13b1 : (t479 != 0) = false := bne_eq_false_iff_eq.mpr c13
   clear c13
   by_cases c14 : t487 = 0
   ·rw [if_pos c14] at H
    have c14b0 : (t487 == 0) = true := beq_iff_eq.mpr c14
    have c14b1 : (t487 != 0) = false := bne_eq_false_iff_eq.mpr c14
    clear c14
    by_cases c15 : t486 = t473
    ·rw [if_pos c15] at H
     have c15b0 : (t486 == t473) = true := beq_iff_eq.mpr c15
     have c15b1 : (t486 != t473) = false := bne_eq_false_iff_eq.mpr c15
     clear c15
     by_cases c16 : t495 = 2
     ·rw [if_pos c16] at H
      have c16b0 : (t495 == 2) = true := beq_iff_eq.mpr c16
      have c16b1 : (t495 != 2) = false := bne_eq_false_iff_eq.mpr c16
      clear c16
      replace H := Option.bind_eq_some_iff.mp H
      obtain ⟨t496, A170, H⟩ := H
      replace H : (some t496) = some r := H
      have A17 := Aside0.mk A170
      clear A170
      obtain rfl := Option.some.inj H
      go_enter Tryd.func10, Tryd.ntmps10
      go_wp2_with (first | ((with_reducible refine gate_callee (f := 19) rfl ?_); refine goesL_ (some 15) rfl rfl Tryd.func19 (by kernel_rfl) rfl #[.slice A0 l0.length c0] rfl (Qls) ?_; (with_reducible refine (lampblacklaw02_Few.calls _ _ l0 t470 _ ?side1 ?side2 A3.out).mono ?_); (case side1 => exact Qsc HR0.out); (case side2 => exact HC0.out); rintro e w18 ⟨v471, rfl, ho0, hb⟩; refine ⟨_, rfl, ?_⟩; have n0_ := Aside0.mk (Kd.R_lower ho0 (below_size (Qaw))); have n1_ := Aside0.mk (below_step (Qaw) hb); clear HB; have HO472 := n0_; have HB := n1_; clear n0_ n1_; (try clear hb); (try clear hb2); (try clear hk); (try clear hi); (try clear ho0); obtain ⟨Ao19, co19, eo19⟩ := Kd.R_slice HO472.out; subst eo19) | ((with_reducible refine gate_callee (f := 18) rfl ?_); refine goesL_ (some 16) rfl rfl Tryd.func18 (by kernel_rfl) rfl #[.slice Ao19 t470.length co19] rfl (Qls) ?_; (with_reducible refine (width_Width.calls (hGL := (Qlg)) k _ _ t470 t473 t474 _ ?side1 ?side2 A4.out).mono ?_); (case side1 => exact Qsc (Kd.R_reads' HO472.out).2.2); (case side2 => exact (Kd.R_reads' HO472.out).2.1); rintro e w20 ⟨rfl, hb⟩; refine ⟨_, rfl, ?_⟩; have n0_ := Aside0.mk (Kd.R_below (Qro HO472.out) hb); have n1_ := Aside0.mk (below_step (Qaw) hb); clear HO472; clear HB; have HO472 := n0_; have HB := n1_; clear n0_ n1_; (try clear hb); (try clear hb2); (try clear hk); (try clear hi)) | ((with_reducible refine gate_callee (f := 19) rfl ?_); refine goesL_ (some 21) rfl rfl Tryd.func19 (by kernel_rfl) rfl #[.slice A0 l0.length c0] rfl (Qls) ?_; (with_reducible refine (lampblacklaw02_Few.calls _ _ l0 t475 _ ?side1 ?side2 A5.out).mono ?_); (case side1 => exact Qsc (Kd.C_below HR0.out HB.out)); (case side2 => exact HC0.out); rintro e w21 ⟨v476, rfl, ho0, hb⟩; refine ⟨_, rfl, ?_⟩; have n0_ := Aside0.mk (Kd.R_elder' (Qro HO472.out) (Kd.R_base ho0) hb); have n1_ := Aside0.mk (Kd.R_lower (Kd.R_new' ho0 (Kd.R_lt (Qro HO472.out))) (below_size (Qaw))); have n2_ := Aside0.mk (below_step (Qaw) hb); clear HO472; clear HB; have HO472 := n0_; have HO477 := n1_; have HB := n2_; clear n0_ n1_ n2_; (try clear hb); (try clear hb2); (try clear hk); (try clear hi); (try clear ho0); obtain ⟨Ao22, co22, eo22⟩ := Kd.R_slice HO477.out; subst eo22) | ((with_reducible refine gate_callee (f := 36) rfl ?_); refine goesL_ (some 22) rfl rfl Tryd.func36 (by kernel_rfl) rfl #[.slice Ao22 t475.length co22] rfl (Qls) ?_; (with_reducible refine (width_Order.calls (hGL := (Qlg)) k _ _ t475 t478 t479 _ ?side1 ?side2 A6.out).mono ?_); (case side1 => exact Qsc (Kd.R_reads' HO477.out).2.2); (case side2 => exact (Kd.R_reads' HO477.out).2.1); rintro e w23 ⟨v480, rfl, ho0, hb⟩; refine ⟨_, rfl, ?_⟩; have n0_ := Aside0.mk (Kd.R_elder' (Qro HO472.out) (Kd.R_base ho0) hb); have n1_ := Aside0.mk (Kd.R_elder' (Qro HO477.out) (Kd.R_base ho0) hb); have n2_ := Aside0.mk (Kd.R_lower (Kd.R_new' (Kd.R_new' ho0 (Kd.R_lt (Qro HO472.out))) (Kd.R_lt (Qro HO477.out))) (below_size (Qaw))); have n3_ := Aside0.mk (below_step (Qaw) hb); clear HO472; clear HO477; clear HB; have HO472 := n0_; have HO477 := n1_; have HO481 := n2_; have HB := n3_; clear n0_ n1_ n2_ n3_; (try clear hb); (try clear hb2); (try clear hk); (try clear hi); (try clear ho0)) | ((with_reducible refine gate_callee (f := 19) rfl ?_); refine goesL_ (some 38) rfl rfl Tryd.func19 (by kernel_rfl) rfl #[.slice A0 l0.length c0] rfl (Qls) ?_; (with_reducible refine (lampblacklaw02_Few.calls _ _ l0 t483 _ ?side1 ?side2 A8.out).mono ?_); (case side1 => exact Qsc (Kd.C_below HR0.out HB.out)); (case side2 => exact HC0.out); rintro e w24 ⟨v484, rfl, ho0, hb⟩; refine ⟨_, rfl, ?_⟩; have n0_ := Aside0.mk (Kd.R_elder' (Qro HO472.out) (Kd.R_base ho0) hb); have n1_ := Aside0.mk (Kd.R_elder' (Qro HO477.out) (Kd.R_base ho0) hb); have n2_ := Aside0.mk (Kd.R_elder' (Qro HO481.out) (Kd.R_base ho0) hb); have n3_ := Aside0.mk (Kd.R_lower (Kd.R_new' (Kd.R_new' (Kd.R_new' ho0 (Kd.R_lt (Qro HO472.out))) (Kd.R_lt (Qro HO477.out))) (Kd.R_lt (Qro HO481.out))) (below_size (Qaw))); have n4_ := Aside0.mk (below_step (Qaw) hb); clear HO472; clear HO477; clear HO481; clear HB; have HO472 := n0_; have HO477 := n1_; have HO481 := n2_; have HO485 := n3_; have HB := n4_; clear n0_ n1_ n2_ n3_ n4_; (try clear hb); (try clear hb2); (try clear hk); (try clear hi); (try clear ho0); obtain ⟨Ao25, co25, eo25⟩ := Kd.R_slice HO485.out; subst eo25; obtain ⟨Ao26, co26, eo26⟩ := Kd.R_slice HO481.out; subst eo26) | ((with_reducible refine gate_callee (f := 37) rfl ?_); refine goesL_ (some 40) rfl rfl Tryd.func37 (by kernel_rfl) rfl #[.slice Ao25 t483.length co25, .slice Ao26 t478.length co26] rfl (Qls) ?_; (with_reducible refine (width_Along.calls (hGL := (Qlg)) k _ _ t483 _ _ t478 t486 t487 _ ?side1 ?side2 ?side3 ?side4 A9.out).mono ?_); (case side1 => exact Qsc (Kd.R_reads' HO485.out).2.2); (case side2 => exact (Kd.R_reads' HO485.out).2.1); (case side3 => exact Qsc (Kd.R_reads' HO481.out).2.2); (case side4 => exact (Kd.R_reads' HO481.out).2.1); rintro e w27 ⟨rfl, hb⟩; refine ⟨_, rfl, ?_⟩; have n0_ := Aside0.mk (Kd.R_below (Qro HO472.out) hb); have n1_ := Aside0.mk (Kd.R_below (Qro HO477.out) hb); have n2_ := Aside0.mk (Kd.R_below (Qro HO481.out) hb); have n3_ := Aside0.mk (Kd.R_below (Qro HO485.out) hb); have n4_ := Aside0.mk (below_step (Qaw) hb); clear HO472; clear HO477; clear HO481; clear HO485; clear HB; have HO472 := n0_; have HO477 := n1_; have HO481 := n2_; have HO485 := n3_; have HB := n4_; clear n0_ n1_ n2_ n3_ n4_; (try clear hb); (try clear hb2); (try clear hk); (try clear hi)) | ((with_reducible refine gate_callee (f := 19) rfl ?_); refine goesL_ (some 45) rfl rfl Tryd.func19 (by kernel_rfl) rfl #[.slice A0 l0.length c0] rfl (Qls) ?_; (with_reducible refine (lampblacklaw02_Few.calls _ _ l0 t488 _ ?side1 ?side2 A10.out).mono ?_); (case side1 => exact Qsc (Kd.C_below HR0.out HB.out)); (case side2 => exact HC0.out); rintro e w28 ⟨v489, rfl, ho0, hb⟩; refine ⟨_, rfl, ?_⟩; have n0_ := Aside0.mk (Kd.R_elder' (Qro HO472.out) (Kd.R_base ho0) hb); have n1_ := Aside0.mk (Kd.R_elder' (Qro HO477.out) (Kd.R_base ho0) hb); have n2_ := Aside0.mk (Kd.R_elder' (Qro HO481.out) (Kd.R_base ho0) hb); have n3_ := Aside0.mk (Kd.R_elder' (Qro HO485.out) (Kd.R_base ho0) hb); have n4_ := Aside0.mk (Kd.R_lower (Kd.R_new' (Kd.R_new' (Kd.R_new' (Kd.R_new' ho0 (Kd.R_lt (Qro HO472.out))) (Kd.R_lt (Qro HO477.out))) (Kd.R_lt (Qro HO481.out))) (Kd.R_lt (Qro HO485.out))) (below_size (Qaw))); have n5_ := Aside0.mk (below_step (Qaw) hb); clear HO472; clear HO477; clear HO481; clear HO485; clear HB; have HO472 := n0_; have HO477 := n1_; have HO481 := n2_; have HO485 := n3_; have HO490 := n4_; have HB := n5_; clear n0_ n1_ n2_ n3_ n4_ n5_; (try clear hb); (try clear hb2); (try clear hk); (try clear hi); (try clear ho0)) | ((with_reducible refine gate_callee (f := 31) rfl ?_); refine goesL_ (some 47) rfl rfl Tryd.func31 (by kernel_rfl) rfl #[.slice A1 l1.length c1] rfl (Qls) ?_; (with_reducible refine (lampblacklaw02_list.calls _ _ l1 t491 _ ?side1 ?side2 A11.out).mono ?_); (case side1 => exact Qsc (Kd.C_below HR1.out HB.out)); (case side2 => exact HC1.out); rintro e w29 ⟨v492, rfl, ho0, hb⟩; refine ⟨_, rfl, ?_⟩; have n0_ := Aside0.mk (Kd.R_elder' (Qro HO472.out) (Kd.R_base ho0) hb); have n1_ := Aside0.mk (Kd.R_elder' (Qro HO477.out) (Kd.R_base ho0) hb); have n2_ := Aside0.mk (Kd.R_elder' (Qro HO481.out) (Kd.R_base ho0) hb); have n3_ := Aside0.mk (Kd.R_elder' (Qro HO485.out) (Kd.R_base ho0) hb); have n4_ := Aside0.mk (Kd.R_elder' (Qro HO490.out) (Kd.R_base ho0) hb); have n5_ := Aside0.mk (Kd.R_lower (Kd.R_new' (Kd.R_new' (Kd.R_new' (Kd.R_new' (Kd.R_new' ho0 (Kd.R_lt (Qro HO472.out))) (Kd.R_lt (Qro HO477.out))) (Kd.R_lt (Qro HO481.out))) (Kd.R_lt (Qro HO485.out))) (Kd.R_lt (Qro HO490.out))) (below_size (Qaw))); have n6_ := Aside0.mk (below_step (Qaw) hb); clear HO472; clear HO477; clear HO481; clear HO485; clear HO490; clear HB; have HO472 := n0_; have HO477 := n1_; have HO481 := n2_; have HO485 := n3_; have HO490 := n4_; have HO493 := n5_; have HB := n6_; clear n0_ n1_ n2_ n3_ n4_ n5_ n6_; (try clear hb); (try clear hb2); (try clear hk); (try clear hi); (try clear ho0); obtain ⟨Ao30, co30, eo30⟩ := Kd.R_slice HO490.out; subst eo30; obtain ⟨Ao31, co31, eo31⟩ := Kd.R_slice HO493.out; subst eo31) | ((with_reducible refine gate_callee (f := 37) rfl ?_); refine goesL_ (some 48) rfl rfl Tryd.func37 (by kernel_rfl) rfl #[.slice Ao30 t488.length co30, .slice Ao31 t491.length co31] rfl (Qls) ?_; (with_reducible refine (width_Along.calls (hGL := (Qlg)) k _ _ t488 _ _ t491 t494 t495 _ ?side1 ?side2 ?side3 ?side4 A12.out).mono ?_); (case side1 => exact Qsc (Kd.R_reads' HO490.out).2.2); (case side2 => exact (Kd.R_reads' HO490.out).2.1); (case side3 => exact Qsc (Kd.R_reads' HO493.out).2.2); (case side4 => exact (Kd.R_reads' HO493.out).2.1); rintro e w32 ⟨rfl, hb⟩; refine ⟨_, rfl, ?_⟩; have n0_ := Aside0.mk (Kd.R_below (Qro HO472.out) hb); have n1_ := Aside0.mk (Kd.R_below (Qro HO477.out) hb); have n2_ := Aside0.mk (Kd.R_below (Qro HO481.out) hb); have n3_ := Aside0.mk (Kd.R_below (Qro HO485.out) hb); have n4_ := Aside0.mk (Kd.R_below (Qro HO490.out) hb); have n5_ := Aside0.mk (Kd.R_below (Qro HO493.out) hb); have n6_ := Aside0.mk (below_step (Qaw) hb); clear HO472; clear HO477; clear HO481; clear HO485; clear HO490; clear HO493; clear HB; have HO472 := n0_; have HO477 := n1_; have HO481 := n2_; have HO485 := n3_; have HO490 := n4_; have HO493 := n5_; have HB := n6_; clear n0_ n1_ n2_ n3_ n4_ n5_ n6_; (try clear hb); (try clear hb2); (try clear hk); (try clear hi)) | (go_at_call 20; (with_reducible refine (lampblacklaw02_awake.calls (hGL := (Qlg)) k  t496 _ A17.out).mono ?_); rintro e w33 ⟨rfl, hb⟩; have n0_ := Aside0.mk (Kd.R_below (Qro HO472.out) hb); have n1_ := Aside0.mk (Kd.R_below (Qro HO477.out) hb); have n2_ := Aside0.mk (Kd.R_below (Qro HO481.out) hb); have n3_ := Aside0.mk (Kd.R_below (Qro HO485.out) hb); have n4_ := Aside0.mk (Kd.R_below (Qro HO490.out) hb); have n5_ := Aside0.mk (Kd.R_below (Qro HO493.out) hb); have n6_ := Aside0.mk (below_step (Qaw) hb); clear HO472; clear HO477; clear HO481; clear HO485; clear HO490; clear HO493; clear HB; have HO472 := n0_; have HO477 := n1_; have HO481 := n2_; have HO485 := n3_; have HO490 := n4_; have HO493 := n5_; have HB := n6_; clear n0_ n1_ n2_ n3_ n4_ n5_ n6_; (try clear hb); (try clear hb2); (try clear hk); (try clear hi)))
      go_ret
      exact ⟨by first | rfl | (simp [errW_none, errW_some] <;> rfl) | (simp [*, errW_none, errW_some] <;> rfl), by repeat (first | (with_reducible first | exact HB.out | apply below_alloc | apply pw_below_drewN | apply below_drew1) | exact HB.out)⟩
     ·rw [if_neg c16] at H
      have c16b0 : (t495 == 2) = false := beq_eq_false_iff_ne.mpr c16
      have c16b1 : (t495 != 2) = true := bne_iff_ne.mpr c16
      by_cases c34 : t495 = 0
      ·rw [if_pos c34] at H
       have c34b0 : (t495 == 0) = true := beq_iff_eq.mpr c34
       have c34b1 : (t495 != 0) = false := bne_eq_false_iff_eq.mpr c34
       clear c34
       by_cases c35 : t494 ≥ t473
       ·rw [if_pos c35] at H
        have c35b0 : decide (t473 ≤ t494) = true := decide_eq_true c35
        clear c35
        replace H := Option.bind_eq_some_iff.mp H
        obtain ⟨t497, A360, H⟩ := H
        replace H : (if t497 ≤ 0 then ((lampblacklaw02_awake.f k).bind fun t498 => (some t498)) else (if t494 > t473 then ((lampblacklaw02_awake.f k).bind fun t499 => (some t499)) else (some false))) = some r := H
        have A36 := Aside0.mk A360
        clear A360
        by_cases c37 : t497 ≤ 0
        ·rw [if_pos c37] at H
         have c37b0 : decide (t497 ≤ 0) = true := decide_eq_true c37
         clear c37
         replace H := Option.bind_eq_some_iff.mp H
         obtain ⟨t498, A380, H⟩ := H
         replace H : (some t498) = some r := H
         have A38 := Aside0.mk A380
         clear A380
         obtain rfl := Option.some.inj H
         go_enter Tryd.func10, Tryd.ntmps10
         go_wp2_with (first | ((with_reducible refine gate_callee (f := 19) rfl ?_); refine goesL_ (some 15) rfl rfl Tryd.func19 (by kernel_rfl) rfl #[.slice A0 l0.length c0] rfl (Qls) ?_; (with_reducible refine (lampblacklaw02_Few.calls _ _ l0 t470 _ ?side1 ?side2 A3.out).mono ?_); (case side1 => exact Qsc HR0.out); (case side2 => exact HC0.out); rintro e w39 ⟨v471, rfl, ho0, hb⟩; refine ⟨_, rfl, ?_⟩; have n0_ := Aside0.mk (Kd.R_lower ho0 (below_size (Qaw))); have n1_ := Aside0.mk (below_step (Qaw) hb); clear HB; have HO472 := n0_; have HB := n1_; clear n0_ n1_; (try clear hb); (try clear hb2); (try clear hk); (try clear hi); (try clear ho0); obtain ⟨Ao40, co40, eo40⟩ := Kd.R_slice HO472.out; subst eo40) | ((with_reducible refine gate_callee (f := 18) rfl ?_); refine goesL_ (some 16) rfl rfl Tryd.func18 (by kernel_rfl) rfl #[.slice Ao40 t470.length co40] rfl (Qls) ?_; (with_reducible refine (width_Width.calls (hGL := (Qlg)) k _ _ t470 t473 t474 _ ?side1 ?side2 A4.out).mono ?_); (case side1 => exact Qsc (Kd.R_reads' HO472.out).2.2); (case side2 => exact (Kd.R_reads' HO472.out).2.1); rintro e w41 ⟨rfl, hb⟩; refine ⟨_, rfl, ?_⟩; have n0_ := Aside0.mk (Kd.R_below (Qro HO472.out) hb); have n1_ := Aside0.mk (below_step (Qaw) hb); clear HO472; clear HB; have HO472 := n0_; have HB := n1_; clear n0_ n1_; (try clear hb); (try clear hb2); (try clear hk); (try clear hi)) | ((with_reducible refine gate_callee (f := 19) rfl ?_); refine goesL_ (some 21) rfl rfl Tryd.func19 (by kernel_rfl) rfl #[.slice A0 l0.length c0] rfl (Qls) ?_; (with_reducible refine (lampblacklaw02_Few.calls _ _ l0 t475 _ ?side1 ?side2 A5.out).mono ?_); (case side1 => exact Qsc (Kd.C_below HR0.out HB.out)); (case side2 => exact HC0.out); rintro e w42 ⟨v476, rfl, ho0, hb⟩; refine ⟨_, rfl, ?_⟩; have n0_ := Aside0.mk (Kd.R_elder' (Qro HO472.out) (Kd.R_base ho0) hb); have n1_ := Aside0.mk (Kd.R_lower (Kd.R_new' ho0 (Kd.R_lt (Qro HO472.out))) (below_size (Qaw))); have n2_ := Aside0.mk (below_step (Qaw) hb); clear HO472; clear HB; have HO472 := n0_; have HO477 := n1_; have HB := n2_; clear n0_ n1_ n2_; (try clear hb); (try clear hb2); (try clear hk); (try clear hi); (try clear ho0); obtain ⟨Ao43, co43, eo43⟩ := Kd.R_slice HO477.out; subst eo43) | ((with_reducible refine gate_callee (f := 36) rfl ?_); refine goesL_ (some 22) rfl rfl Tryd.func36 (by kernel_rfl) rfl #[.slice Ao43 t475.length co43] rfl (Qls) ?_; (with_reducible refine (width_Order.calls (hGL := (Qlg)) k _ _ t475 t478 t479 _ ?side1 ?side2 A6.out).mono ?_); (case side1 => exact Qsc (Kd.R_reads' HO477.out).2.2); (case side2 => exact (Kd.R_reads' HO477.out).2.1); rintro e w44 ⟨v480, rfl, ho0, hb⟩; refine ⟨_, rfl, ?_⟩; have n0_ := Aside0.mk (Kd.R_elder' (Qro HO472.out) (Kd.R_base ho0) hb); have n1_ := Aside0.mk (Kd.R_elder' (Qro HO477.out) (Kd.R_base ho0) hb); have n2_ := Aside0.mk (Kd.R_lower (Kd.R_new' (Kd.R_new' ho0 (Kd.R_lt (Qro HO472.out))) (Kd.R_lt (Qro HO477.out))) (below_size (Qaw))); have n3_ := Aside0.mk (below_step (Qaw) hb); clear HO472; clear HO477; clear HB; have HO472 := n0_; have HO477 := n1_; have HO481 := n2_; have HB := n3_; clear n0_ n1_ n2_ n3_; (try clear hb); (try clear hb2); (try clear hk); (try clear hi); (try clear ho0)) | ((with_reducible refine gate_callee (f := 19) rfl ?_); refine goesL_ (some 38) rfl rfl Tryd.func19 (by kernel_rfl) rfl #[.slice A0 l0.length c0] rfl (Qls) ?_; (with_reducible refine (lampblacklaw02_Few.calls _ _ l0 t483 _ ?side1 ?side2 A8.out).mono ?_); (case side1 => exact Qsc (Kd.C_below HR0.out HB.out)); (case side2 => exact HC0.out); rintro e w45 ⟨v484, rfl, ho0, hb⟩; refine ⟨_, rfl, ?_⟩; have n0_ := Aside0.mk (Kd.R_elder' (Qro HO472.out) (Kd.R_base ho0) hb); have n1_ := Aside0.mk (Kd.R_elder' (Qro HO477.out) (Kd.R_base ho0) hb); have n2_ := Aside0.mk (Kd.R_elder' (Qro HO481.out) (Kd.R_base ho0) hb); have n3_ := Aside0.mk (Kd.R_lower (Kd.R_new' (Kd.R_new' (Kd.R_new' ho0 (Kd.R_lt (Qro HO472.out))) (Kd.R_lt (Qro HO477.out))) (Kd.R_lt (Qro HO481.out))) (below_size (Qaw))); have n4_ := Aside0.mk (below_step (Qaw) hb); clear HO472; clear HO477; clear HO481; clear HB; have HO472 := n0_; have HO477 := n1_; have HO481 := n2_; have HO485 := n3_; have HB := n4_; clear n0_ n1_ n2_ n3_ n4_; (try clear hb); (try clear hb2); (try clear hk); (try clear hi); (try clear ho0); obtain ⟨Ao46, co46, eo46⟩ := Kd.R_slice HO485.out; subst eo46; obtain ⟨Ao47, co47, eo47⟩ := Kd.R_slice HO481.out; subst eo47) | ((with_reducible refine gate_callee (f := 37) rfl ?_); refine goesL_ (some 40) rfl rfl Tryd.func37 (by kernel_rfl) rfl #[.slice Ao46 t483.length co46, .slice Ao47 t478.length co47] rfl (Qls) ?_; (with_reducible refine (width_Along.calls (hGL := (Qlg)) k _ _ t483 _ _ t478 t486 t487 _ ?side1 ?side2 ?side3 ?side4 A9.out).mono ?_); (case side1 => exact Qsc (Kd.R_reads' HO485.out).2.2); (case side2 => exact (Kd.R_reads' HO485.out).2.1); (case side3 => exact Qsc (Kd.R_reads' HO481.out).2.2); (case side4 => exact (Kd.R_reads' HO481.out).2.1); rintro e w48 ⟨rfl, hb⟩; refine ⟨_, rfl, ?_⟩; have n0_ := Aside0.mk (Kd.R_below (Qro HO472.out) hb); have n1_ := Aside0.mk (Kd.R_below (Qro HO477.out) hb); have n2_ := Aside0.mk (Kd.R_below (Qro HO481.out) hb); have n3_ := Aside0.mk (Kd.R_below (Qro HO485.out) hb); have n4_ := Aside0.mk (below_step (Qaw) hb); clear HO472; clear HO477; clear HO481; clear HO485; clear HB; have HO472 := n0_; have HO477 := n1_; have HO481 := n2_; have HO485 := n3_; have HB := n4_; clear n0_ n1_ n2_ n3_ n4_; (try clear hb); (try clear hb2); (try clear hk); (try clear hi)) | ((with_reducible refine gate_callee (f := 19) rfl ?_); refine goesL_ (some 45) rfl rfl Tryd.func19 (by kernel_rfl) rfl #[.slice A0 l0.length c0] rfl (Qls) ?_; (with_reducible refine (lampblacklaw02_Few.calls _ _ l0 t488 _ ?side1 ?side2 A10.out).mono ?_); (case side1 => exact Qsc (Kd.C_below HR0.out HB.out)); (case side2 => exact HC0.out); rintro e w49 ⟨v489, rfl, ho0, hb⟩; refine ⟨_, rfl, ?_⟩; have n0_ := Aside0.mk (Kd.R_elder' (Qro HO472.out) (Kd.R_base ho0) hb); have n1_ := Aside0.mk (Kd.R_elder' (Qro HO477.out) (Kd.R_base ho0) hb); have n2_ := Aside0.mk (Kd.R_elder' (Qro HO481.out) (Kd.R_base ho0) hb); have n3_ := Aside0.mk (Kd.R_elder' (Qro HO485.out) (Kd.R_base ho0) hb); have n4_ := Aside0.mk (Kd.R_lower (Kd.R_new' (Kd.R_new' (Kd.R_new' (Kd.R_new' ho0 (Kd.R_lt (Qro HO472.out))) (Kd.R_lt (Qro HO477.out))) (Kd.R_lt (Qro HO481.out))) (Kd.R_lt (Qro HO485.out))) (below_size (Qaw))); have n5_ := Aside0.mk (below_step (Qaw) hb); clear HO472; clear HO477; clear HO481; clear HO485; clear HB; have HO472 := n0_; have HO477 := n1_; have HO481 := n2_; have HO485 := n3_; have HO490 := n4_; have HB := n5_; clear n0_ n1_ n2_ n3_ n4_ n5_; (try clear hb); (try clear hb2); (try clear hk); (try clear hi); (try clear ho0)) | ((with_reducible refine gate_callee (f := 31) rfl ?_); refine goesL_ (some 47) rfl rfl Tryd.func31 (by kernel_rfl) rfl #[.slice A1 l1.length c1] rfl (Qls) ?_; (with_reducible refine (lampblacklaw02_list.calls _ _ l1 t491 _ ?side1 ?side2 A11.out).mono ?_); (case side1 => exact Qsc (Kd.C_below HR1.out HB.out)); (case side2 => exact HC1.out); rintro e w50 ⟨v492, rfl, ho0, hb⟩; refine ⟨_, rfl, ?_⟩; have n0_ := Aside0.mk (Kd.R_elder' (Qro HO472.out) (Kd.R_base ho0) hb); have n1_ := Aside0.mk (Kd.R_elder' (Qro HO477.out) (Kd.R_base ho0) hb); have n2_ := Aside0.mk (Kd.R_elder' (Qro HO481.out) (Kd.R_base ho0) hb); have n3_ := Aside0.mk (Kd.R_elder' (Qro HO485.out) (Kd.R_base ho0) hb); have n4_ := Aside0.mk (Kd.R_elder' (Qro HO490.out) (Kd.R_base ho0) hb); have n5_ := Aside0.mk (Kd.R_lower (Kd.R_new' (Kd.R_new' (Kd.R_new' (Kd.R_new' (Kd.R_new' ho0 (Kd.R_lt (Qro HO472.out))) (Kd.R_lt (Qro HO477.out))) (Kd.R_lt (Qro HO481.out))) (Kd.R_lt (Qro HO485.out))) (Kd.R_lt (Qro HO490.out))) (below_size (Qaw))); have n6_ := Aside0.mk (below_step (Qaw) hb); clear HO472; clear HO477; clear HO481; clear HO485; clear HO490; clear HB; have HO472 := n0_; have HO477 := n1_; have HO481 := n2_; have HO485 := n3_; have HO490 := n4_; have HO493 := n5_; have HB := n6_; clear n0_ n1_ n2_ n3_ n4_ n5_ n6_; (try clear hb); (try clear hb2); (try clear hk); (try clear hi); (try clear ho0); obtain ⟨Ao51, co51, eo51⟩ := Kd.R_slice HO490.out; subst eo51; obtain ⟨Ao52, co52, eo52⟩ := Kd.R_slice HO493.out; subst eo52) | ((with_reducible refine gate_callee (f := 37) rfl ?_); refine goesL_ (some 48) rfl rfl Tryd.func37 (by kernel_rfl) rfl #[.slice Ao51 t488.length co51, .slice Ao52 t491.length co52] rfl (Qls) ?_; (with_reducible refine (width_Along.calls (hGL := (Qlg)) k _ _ t488 _ _ t491 t494 t495 _ ?side1 ?side2 ?side3 ?side4 A12.out).mono ?_); (case side1 => exact Qsc (Kd.R_reads' HO490.out).2.2); (case side2 => exact (Kd.R_reads' HO490.out).2.1); (case side3 => exact Qsc (Kd.R_reads' HO493.out).2.2); (case side4 => exact (Kd.R_reads' HO493.out).2.1); rintro e w53 ⟨rfl, hb⟩; refine ⟨_, rfl, ?_⟩; have n0_ := Aside0.mk (Kd.R_below (Qro HO472.out) hb); have n1_ := Aside0.mk (Kd.R_below (Qro HO477.out) hb); have n2_ := Aside0.mk (Kd.R_below (Qro HO481.out) hb); have n3_ := Aside0.mk (Kd.R_below (Qro HO485.out) hb); have n4_ := Aside0.mk (Kd.R_below (Qro HO490.out) hb); have n5_ := Aside0.mk (Kd.R_below (Qro HO493.out) hb); have n6_ := Aside0.mk (below_step (Qaw) hb); clear HO472; clear HO477; clear HO481; clear HO485; clear HO490; clear HO493; clear HB; have HO472 := n0_; have HO477 := n1_; have HO481 := n2_; have HO485 := n3_; have HO490 := n4_; have HO493 := n5_; have HB := n6_; clear n0_ n1_ n2_ n3_ n4_ n5_ n6_; (try clear hb); (try clear hb2); (try clear hk); (try clear hi)) | (go_at_call 49; (with_reducible refine (slices_Compare_int_int.calls k _ _ t478 _ _ l1 t497 _ ?side1 ?side2 ?side3 ?side4 A36.out).mono ?_); (case side1 => exact Qsc (Kd.R_reads' HO481.out).2.2); (case side2 => exact (Kd.R_reads' HO481.out).2.1); (case side3 => exact Qsc (Kd.C_below HR1.out HB.out)); (case side4 => exact HC1.out); rintro e w' ⟨rfl, ⟨nd, rfl⟩⟩) | (go_at_call 20; (with_reducible refine (lampblacklaw02_awake.calls (hGL := (Qlg)) k  t498 _ A38.out).mono ?_); rintro e w54 ⟨rfl, hb⟩; have n0_ := Aside0.mk (Kd.R_below (Qro HO472.out) hb); have n1_ := Aside0.mk (Kd.R_below (Qro HO477.out) hb); have n2_ := Aside0.mk (Kd.R_below (Qro HO481.out) hb); have n3_ := Aside0.mk (Kd.R_below (Qro HO485.out) hb); have n4_ := Aside0.mk (Kd.R_below (Qro HO490.out) hb); have n5_ := Aside0.mk (Kd.R_below (Qro HO493.out) hb); have n6_ := Aside0.mk (below_step (Qaw) hb); clear HO472; clear HO477; clear HO481; clear HO485; clear HO490; clear HO493; clear HB; have HO472 := n0_; have HO477 := n1_; have HO481 := n2_; have HO485 := n3_; have HO490 := n4_; have HO493 := n5_; have HB := n6_; clear n0_ n1_ n2_ n3_ n4_ n5_ n6_; (try clear hb); (try clear hb2); (try clear hk); (try clear hi)))
         go_ret
         exact ⟨by first | rfl | (simp [errW_none, errW_some] <;> rfl) | (simp [*, errW_none, errW_some] <;> rfl), by repeat (first | (with_reducible first | exact HB.out | apply below_alloc | apply pw_below_drewN | apply below_drew1) | exact HB.out)⟩
        ·rw [if_neg c37] at H
         have c37b0 : decide (t497 ≤ 0) = false := decide_eq_false c37
         clear c37
         by_cases c55 : t494 > t473
         ·rw [if_pos c55] at H
          have c55b0 : decide (t473 < t494) = true := decide_eq_true c55
          clear c55
          replace H := Option.bind_eq_some_iff.mp H
          obtain ⟨t499, A560, H⟩ := H
          replace H : (some t499) = some r := H
          have A56 := Aside0.mk A560
          clear A560
          obtain rfl := Option.some.inj H
          go_enter Tryd.func10, Tryd.ntmps10
          go_wp2_with (first | ((with_reducible refine gate_callee (f := 19) rfl ?_); refine goesL_ (some 15) rfl rfl Tryd.func19 (by kernel_rfl) rfl #[.slice A0 l0.length c0] rfl (Qls) ?_; (with_reducible refine (lampblacklaw02_Few.calls _ _ l0 t470 _ ?side1 ?side2 A3.out).mono ?_); (case side1 => exact Qsc HR0.out); (case side2 => exact HC0.out); rintro e w57 ⟨v471, rfl, ho0, hb⟩; refine ⟨_, rfl, ?_⟩; have n0_ := Aside0.mk (Kd.R_lower ho0 (below_size (Qaw))); have n1_ := Aside0.mk (below_step (Qaw) hb); clear HB; have HO472 := n0_; have HB := n1_; clear n0_ n1_; (try clear hb); (try clear hb2); (try clear hk); (try clear hi); (try clear ho0); obtain ⟨Ao58, co58, eo58⟩ := Kd.R_slice HO472.out; subst eo58) | ((with_reducible refine gate_callee (f := 18) rfl ?_); refine goesL_ (some 16) rfl rfl Tryd.func18 (by kernel_rfl) rfl #[.slice Ao58 t470.length co58] rfl (Qls) ?_; (with_reducible refine (width_Width.calls (hGL := (Qlg)) k _ _ t470 t473 t474 _ ?side1 ?side2 A4.out).mono ?_); (case side1 => exact Qsc (Kd.R_reads' HO472.out).2.2); (case side2 => exact (Kd.R_reads' HO472.out).2.1); rintro e w59 ⟨rfl, hb⟩; refine ⟨_, rfl, ?_⟩; have n0_ := Aside0.mk (Kd.R_below (Qro HO472.out) hb); have n1_ := Aside0.mk (below_step (Qaw) hb); clear HO472; clear HB; have HO472 := n0_; have HB := n1_; clear n0_ n1_; (try clear hb); (try clear hb2); (try clear hk); (try clear hi)) | ((with_reducible refine gate_callee (f := 19) rfl ?_); refine goesL_ (some 21) rfl rfl Tryd.func19 (by kernel_rfl) rfl #[.slice A0 l0.length c0] rfl (Qls) ?_; (with_reducible refine (lampblacklaw02_Few.calls _ _ l0 t475 _ ?side1 ?side2 A5.out).mono ?_); (case side1 => exact Qsc (Kd.C_below HR0.out HB.out)); (case side2 => exact HC0.out); rintro e w60 ⟨v476, rfl, ho0, hb⟩; refine ⟨_, rfl, ?_⟩; have n0_ := Aside0.mk (Kd.R_elder' (Qro HO472.out) (Kd.R_base ho0) hb); have n1_ := Aside0.mk (Kd.R_lower (Kd.R_new' ho0 (Kd.R_lt (Qro HO472.out))) (below_size (Qaw))); have n2_ := Aside0.mk (below_step (Qaw) hb); clear HO472; clear HB; have HO472 := n0_; have HO477 := n1_; have HB := n2_; clear n0_ n1_ n2_; (try clear hb); (try clear hb2); (try clear hk); (try clear hi); (try clear ho0); obtain ⟨Ao61, co61, eo61⟩ := Kd.R_slice HO477.out; subst eo61) | ((with_reducible refine gate_callee (f := 36) rfl ?_); refine goesL_ (some 22) rfl rfl Tryd.func36 (by kernel_rfl) rfl #[.slice Ao61 t475.length co61] rfl (Qls) ?_; (with_reducible refine (width_Order.calls (hGL := (Qlg)) k _ _ t475 t478 t479 _ ?side1 ?side2 A6.out).mono ?_); (case side1 => exact Qsc (Kd.R_reads' HO477.out).2.2); (case side2 => exact (Kd.R_reads' HO477.out).2.1); rintro e w62 ⟨v480, rfl, ho0, hb⟩; refine ⟨_, rfl, ?_⟩; have n0_ := Aside0.mk (Kd.R_elder' (Qro HO472.out) (Kd.R_base ho0) hb); have n1_ := Aside0.mk (Kd.R_elder' (Qro HO477.out) (Kd.R_base ho0) hb); have n2_ := Aside0.mk (Kd.R_lower (Kd.R_new' (Kd.R_new' ho0 (Kd.R_lt (Qro HO472.out))) (Kd.R_lt (Qro HO477.out))) (below_size (Qaw))); have n3_ := Aside0.mk (below_step (Qaw) hb); clear HO472; clear HO477; clear HB; have HO472 := n0_; have HO477 := n1_; have HO481 := n2_; have HB := n3_; clear n0_ n1_ n2_ n3_; (try clear hb); (try clear hb2); (try clear hk); (try clear hi); (try clear ho0)) | ((with_reducible refine gate_callee (f := 19) rfl ?_); refine goesL_ (some 38) rfl rfl Tryd.func19 (by kernel_rfl) rfl #[.slice A0 l0.length c0] rfl (Qls) ?_; (with_reducible refine (lampblacklaw02_Few.calls _ _ l0 t483 _ ?side1 ?side2 A8.out).mono ?_); (case side1 => exact Qsc (Kd.C_below HR0.out HB.out)); (case side2 => exact HC0.out); rintro e w63 ⟨v484, rfl, ho0, hb⟩; refine ⟨_, rfl, ?_⟩; have n0_ := Aside0.mk (Kd.R_elder' (Qro HO472.out) (Kd.R_base ho0) hb); have n1_ := Aside0.mk (Kd.R_elder' (Qro HO477.out) (Kd.R_base ho0) hb); have n2_ := Aside0.mk (Kd.R_elder' (Qro HO481.out) (Kd.R_base ho0) hb); have n3_ := Aside0.mk (Kd.R_lower (Kd.R_new' (Kd.R_new' (Kd.R_new' ho0 (Kd.R_lt (Qro HO472.out))) (Kd.R_lt (Qro HO477.out))) (Kd.R_lt (Qro HO481.out))) (below_size (Qaw))); have n4_ := Aside0.mk (below_step (Qaw) hb); clear HO472; clear HO477; clear HO481; clear HB; have HO472 := n0_; have HO477 := n1_; have HO481 := n2_; have HO485 := n3_; have HB := n4_; clear n0_ n1_ n2_ n3_ n4_; (try clear hb); (try clear hb2); (try clear hk); (try clear hi); (try clear ho0); obtain ⟨Ao64, co64, eo64⟩ := Kd.R_slice HO485.out; subst eo64; obtain ⟨Ao65, co65, eo65⟩ := Kd.R_slice HO481.out; subst eo65) | ((with_reducible refine gate_callee (f := 37) rfl ?_); refine goesL_ (some 40) rfl rfl Tryd.func37 (by kernel_rfl) rfl #[.slice Ao64 t483.length co64, .slice Ao65 t478.length co65] rfl (Qls) ?_; (with_reducible refine (width_Along.calls (hGL := (Qlg)) k _ _ t483 _ _ t478 t486 t487 _ ?side1 ?side2 ?side3 ?side4 A9.out).mono ?_); (case side1 => exact Qsc (Kd.R_reads' HO485.out).2.2); (case side2 => exact (Kd.R_reads' HO485.out).2.1); (case side3 => exact Qsc (Kd.R_reads' HO481.out).2.2); (case side4 => exact (Kd.R_reads' HO481.out).2.1); rintro e w66 ⟨rfl, hb⟩; refine ⟨_, rfl, ?_⟩; have n0_ := Aside0.mk (Kd.R_below (Qro HO472.out) hb); have n1_ := Aside0.mk (Kd.R_below (Qro HO477.out) hb); have n2_ := Aside0.mk (Kd.R_below (Qro HO481.out) hb); have n3_ := Aside0.mk (Kd.R_below (Qro HO485.out) hb); have n4_ := Aside0.mk (below_step (Qaw) hb); clear HO472; clear HO477; clear HO481; clear HO485; clear HB; have HO472 := n0_; have HO477 := n1_; have HO481 := n2_; have HO485 := n3_; have HB := n4_; clear n0_ n1_ n2_ n3_ n4_; (try clear hb); (try clear hb2); (try clear hk); (try clear hi)) | ((with_reducible refine gate_callee (f := 19) rfl ?_); refine goesL_ (some 45) rfl rfl Tryd.func19 (by kernel_rfl) rfl #[.slice A0 l0.length c0] rfl (Qls) ?_; (with_reducible refine (lampblacklaw02_Few.calls _ _ l0 t488 _ ?side1 ?side2 A10.out).mono ?_); (case side1 => exact Qsc (Kd.C_below HR0.out HB.out)); (case side2 => exact HC0.out); rintro e w67 ⟨v489, rfl, ho0, hb⟩; refine ⟨_, rfl, ?_⟩; have n0_ := Aside0.mk (Kd.R_elder' (Qro HO472.out) (Kd.R_base ho0) hb); have n1_ := Aside0.mk (Kd.R_elder' (Qro HO477.out) (Kd.R_base ho0) hb); have n2_ := Aside0.mk (Kd.R_elder' (Qro HO481.out) (Kd.R_base ho0) hb); have n3_ := Aside0.mk (Kd.R_elder' (Qro HO485.out) (Kd.R_base ho0) hb); have n4_ := Aside0.mk (Kd.R_lower (Kd.R_new' (Kd.R_new' (Kd.R_new' (Kd.R_new' ho0 (Kd.R_lt (Qro HO472.out))) (Kd.R_lt (Qro HO477.out))) (Kd.R_lt (Qro HO481.out))) (Kd.R_lt (Qro HO485.out))) (below_size (Qaw))); have n5_ := Aside0.mk (below_step (Qaw) hb); clear HO472; clear HO477; clear HO481; clear HO485; clear HB; have HO472 := n0_; have HO477 := n1_; have HO481 := n2_; have HO485 := n3_; have HO490 := n4_; have HB := n5_; clear n0_ n1_ n2_ n3_ n4_ n5_; (try clear hb); (try clear hb2); (try clear hk); (try clear hi); (try clear ho0)) | ((with_reducible refine gate_callee (f := 31) rfl ?_); refine goesL_ (some 47) rfl rfl Tryd.func31 (by kernel_rfl) rfl #[.slice A1 l1.length c1] rfl (Qls) ?_; (with_reducible refine (lampblacklaw02_list.calls _ _ l1 t491 _ ?side1 ?side2 A11.out).mono ?_); (case side1 => exact Qsc (Kd.C_below HR1.out HB.out)); (case side2 => exact HC1.out); rintro e w68 ⟨v492, rfl, ho0, hb⟩; refine ⟨_, rfl, ?_⟩; have n0_ := Aside0.mk (Kd.R_elder' (Qro HO472.out) (Kd.R_base ho0) hb); have n1_ := Aside0.mk (Kd.R_elder' (Qro HO477.out) (Kd.R_base ho0) hb); have n2_ := Aside0.mk (Kd.R_elder' (Qro HO481.out) (Kd.R_base ho0) hb); have n3_ := Aside0.mk (Kd.R_elder' (Qro HO485.out) (Kd.R_base ho0) hb); have n4_ := Aside0.mk (Kd.R_elder' (Qro HO490.out) (Kd.R_base ho0) hb); have n5_ := Aside0.mk (Kd.R_lower (Kd.R_new' (Kd.R_new' (Kd.R_new' (Kd.R_new' (Kd.R_new' ho0 (Kd.R_lt (Qro HO472.out))) (Kd.R_lt (Qro HO477.out))) (Kd.R_lt (Qro HO481.out))) (Kd.R_lt (Qro HO485.out))) (Kd.R_lt (Qro HO490.out))) (below_size (Qaw))); have n6_ := Aside0.mk (below_step (Qaw) hb); clear HO472; clear HO477; clear HO481; clear HO485; clear HO490; clear HB; have HO472 := n0_; have HO477 := n1_; have HO481 := n2_; have HO485 := n3_; have HO490 := n4_; have HO493 := n5_; have HB := n6_; clear n0_ n1_ n2_ n3_ n4_ n5_ n6_; (try clear hb); (try clear hb2); (try clear hk); (try clear hi); (try clear ho0); obtain ⟨Ao69, co69, eo69⟩ := Kd.R_slice HO490.out; subst eo69; obtain ⟨Ao70, co70, eo70⟩ := Kd.R_slice HO493.out; subst eo70) | ((with_reducible refine gate_callee (f := 37) rfl ?_); refine goesL_ (some 48) rfl rfl Tryd.func37 (by kernel_rfl) rfl #[.slice Ao69 t488.length co69, .slice Ao70 t491.length co70] rfl (Qls) ?_; (with_reducible refine (width_Along.calls (hGL := (Qlg)) k _ _ t488 _ _ t491 t494 t495 _ ?side1 ?side2 ?side3 ?side4 A12.out).mono ?_); (case side1 => exact Qsc (Kd.R_reads' HO490.out).2.2); (case side2 => exact (Kd.R_reads' HO490.out).2.1); (case side3 => exact Qsc (Kd.R_reads' HO493.out).2.2); (case side4 => exact (Kd.R_reads' HO493.out).2.1); rintro e w71 ⟨rfl, hb⟩; refine ⟨_, rfl, ?_⟩; have n0_ := Aside0.mk (Kd.R_below (Qro HO472.out) hb); have n1_ := Aside0.mk (Kd.R_below (Qro HO477.out) hb); have n2_ := Aside0.mk (Kd.R_below (Qro HO481.out) hb); have n3_ := Aside0.mk (Kd.R_below (Qro HO485.out) hb); have n4_ := Aside0.mk (Kd.R_below (Qro HO490.out) hb); have n5_ := Aside0.mk (Kd.R_below (Qro HO493.out) hb); have n6_ := Aside0.mk (below_step (Qaw) hb); clear HO472; clear HO477; clear HO481; clear HO485; clear HO490; clear HO493; clear HB; have HO472 := n0_; have HO477 := n1_; have HO481 := n2_; have HO485 := n3_; have HO490 := n4_; have HO493 := n5_; have HB := n6_; clear n0_ n1_ n2_ n3_ n4_ n5_ n6_; (try clear hb); (try clear hb2); (try clear hk); (try clear hi)) | (go_at_call 49; (with_reducible refine (slices_Compare_int_int.calls k _ _ t478 _ _ l1 t497 _ ?side1 ?side2 ?side3 ?side4 A36.out).mono ?_); (case side1 => exact Qsc (Kd.R_reads' HO481.out).2.2); (case side2 => exact (Kd.R_reads' HO481.out).2.1); (case side3 => exact Qsc (Kd.C_below HR1.out HB.out)); (case side4 => exact HC1.out); rintro e w' ⟨rfl, ⟨nd, rfl⟩⟩) | (go_at_call 20; (with_reducible refine (lampblacklaw02_awake.calls (hGL := (Qlg)) k  t499 _ A56.out).mono ?_); rintro e w72 ⟨rfl, hb⟩; have n0_ := Aside0.mk (Kd.R_below (Qro HO472.out) hb); have n1_ := Aside0.mk (Kd.R_below (Qro HO477.out) hb); have n2_ := Aside0.mk (Kd.R_below (Qro HO481.out) hb); have n3_ := Aside0.mk (Kd.R_below (Qro HO485.out) hb); have n4_ := Aside0.mk (Kd.R_below (Qro HO490.out) hb); have n5_ := Aside0.mk (Kd.R_below (Qro HO493.out) hb); have n6_ := Aside0.mk (below_step (Qaw) hb); clear HO472; clear HO477; clear HO481; clear HO485; clear HO490; clear HO493; clear HB; have HO472 := n0_; have HO477 := n1_; have HO481 := n2_; have HO485 := n3_; have HO490 := n4_; have HO493 := n5_; have HB := n6_; clear n0_ n1_ n2_ n3_ n4_ n5_ n6_; (try clear hb); (try clear hb2); (try clear hk); (try clear hi)))
          go_ret
          exact ⟨by first | rfl | (simp [errW_none, errW_some] <;> rfl) | (simp [*, errW_none, errW_some] <;> rfl), by repeat (first | (with_reducible first | exact HB.out | apply below_alloc | apply pw_below_drewN | apply below_drew1) | exact HB.out)⟩
         ·rw [if_neg c55] at H
          have c55b0 : decide (t473 < t494) = false := decide_eq_false c55
          clear c55
          obtain rfl := Option.some.inj H
          go_enter Tryd.func10, Tryd.ntmps10
          go_wp2_with (first | ((with_reducible refine gate_callee (f := 19) rfl ?_); refine goesL_ (some 15) rfl rfl Tryd.func19 (by kernel_rfl) rfl #[.slice A0 l0.length c0] rfl (Qls) ?_; (with_reducible refine (lampblacklaw02_Few.calls _ _ l0 t470 _ ?side1 ?side2 A3.out).mono ?_); (case side1 => exact Qsc HR0.out); (case side2 => exact HC0.out); rintro e w73 ⟨v471, rfl, ho0, hb⟩; refine ⟨_, rfl, ?_⟩; have n0_ := Aside0.mk (Kd.R_lower ho0 (below_size (Qaw))); have n1_ := Aside0.mk (below_step (Qaw) hb); clear HB; have HO472 := n0_; have HB := n1_; clear n0_ n1_; (try clear hb); (try clear hb2); (try clear hk); (try clear hi); (try clear ho0); obtain ⟨Ao74, co74, eo74⟩ := Kd.R_slice HO472.out; subst eo74) | ((with_reducible refine gate_callee (f := 18) rfl ?_); refine goesL_ (some 16) rfl rfl Tryd.func18 (by kernel_rfl) rfl #[.slice Ao74 t470.length co74] rfl (Qls) ?_; (with_reducible refine (width_Width.calls (hGL := (Qlg)) k _ _ t470 t473 t474 _ ?side1 ?side2 A4.out).mono ?_); (case side1 => exact Qsc (Kd.R_reads' HO472.out).2.2); (case side2 => exact (Kd.R_reads' HO472.out).2.1); rintro e w75 ⟨rfl, hb⟩; refine ⟨_, rfl, ?_⟩; have n0_ := Aside0.mk (Kd.R_below (Qro HO472.out) hb); have n1_ := Aside0.mk (below_step (Qaw) hb); clear HO472; clear HB; have HO472 := n0_; have HB := n1_; clear n0_ n1_; (try clear hb); (try clear hb2); (try clear hk); (try clear hi)) | ((with_reducible refine gate_callee (f := 19) rfl ?_); refine goesL_ (some 21) rfl rfl Tryd.func19 (by kernel_rfl) rfl #[.slice A0 l0.length c0] rfl (Qls) ?_; (with_reducible refine (lampblacklaw02_Few.calls _ _ l0 t475 _ ?side1 ?side2 A5.out).mono ?_); (case side1 => exact Qsc (Kd.C_below HR0.out HB.out)); (case side2 => exact HC0.out); rintro e w76 ⟨v476, rfl, ho0, hb⟩; refine ⟨_, rfl, ?_⟩; have n0_ := Aside0.mk (Kd.R_elder' (Qro HO472.out) (Kd.R_base ho0) hb); have n1_ := Aside0.mk (Kd.R_lower (Kd.R_new' ho0 (Kd.R_lt (Qro HO472.out))) (below_size (Qaw))); have n2_ := Aside0.mk (below_step (Qaw) hb); clear HO472; clear HB; have HO472 := n0_; have HO477 := n1_; have HB := n2_; clear n0_ n1_ n2_; (try clear hb); (try clear hb2); (try clear hk); (try clear hi); (try clear ho0); obtain ⟨Ao77, co77, eo77⟩ := Kd.R_slice HO477.out; subst eo77) | ((with_reducible refine gate_callee (f := 36) rfl ?_); refine goesL_ (some 22) rfl rfl Tryd.func36 (by kernel_rfl) rfl #[.slice Ao77 t475.length co77] rfl (Qls) ?_; (with_reducible refine (width_Order.calls (hGL := (Qlg)) k _ _ t475 t478 t479 _ ?side1 ?side2 A6.out).mono ?_); (case side1 => exact Qsc (Kd.R_reads' HO477.out).2.2); (case side2 => exact (Kd.R_reads' HO477.out).2.1); rintro e w78 ⟨v480, rfl, ho0, hb⟩; refine ⟨_, rfl, ?_⟩; have n0_ := Aside0.mk (Kd.R_elder' (Qro HO472.out) (Kd.R_base ho0) hb); have n1_ := Aside0.mk (Kd.R_elder' (Qro HO477.out) (Kd.R_base ho0) hb); have n2_ := Aside0.mk (Kd.R_lower (Kd.R_new' (Kd.R_new' ho0 (Kd.R_lt (Qro HO472.out))) (Kd.R_lt (Qro HO477.out))) (below_size (Qaw))); have n3_ := Aside0.mk (below_step (Qaw) hb); clear HO472; clear HO477; clear HB; have HO472 := n0_; have HO477 := n1_; have HO481 := n2_; have HB := n3_; clear n0_ n1_ n2_ n3_; (try clear hb); (try clear hb2); (try clear hk); (try clear hi); (try clear ho0)) | ((with_reducible refine gate_callee (f := 19) rfl ?_); refine goesL_ (some 38) rfl rfl Tryd.func19 (by kernel_rfl) rfl #[.slice A0 l0.length c0] rfl (Qls) ?_; (with_reducible refine (lampblacklaw02_Few.calls _ _ l0 t483 _ ?side1 ?side2 A8.out).mono ?_); (case side1 => exact Qsc (Kd.C_below HR0.out HB.out)); (case side2 => exact HC0.out); rintro e w79 ⟨v484, rfl, ho0, hb⟩; refine ⟨_, rfl, ?_⟩; have n0_ := Aside0.mk (Kd.R_elder' (Qro HO472.out) (Kd.R_base ho0) hb); have n1_ := Aside0.mk (Kd.R_elder' (Qro HO477.out) (Kd.R_base ho0) hb); have n2_ := Aside0.mk (Kd.R_elder' (Qro HO481.out) (Kd.R_base ho0) hb); have n3_ := Aside0.mk (Kd.R_lower (Kd.R_new' (Kd.R_new' (Kd.R_new' ho0 (Kd.R_lt (Qro HO472.out))) (Kd.R_lt (Qro HO477.out))) (Kd.R_lt (Qro HO481.out))) (below_size (Qaw))); have n4_ := Aside0.mk (below_step (Qaw) hb); clear HO472; clear HO477; clear HO481; clear HB; have HO472 := n0_; have HO477 := n1_; have HO481 := n2_; have HO485 := n3_; have HB := n4_; clear n0_ n1_ n2_ n3_ n4_; (try clear hb); (try clear hb2); (try clear hk); (try clear hi); (try clear ho0); obtain ⟨Ao80, co80, eo80⟩ := Kd.R_slice HO485.out; subst eo80; obtain ⟨Ao81, co81, eo81⟩ := Kd.R_slice HO481.out; subst eo81) | ((with_reducible refine gate_callee (f := 37) rfl ?_); refine goesL_ (some 40) rfl rfl Tryd.func37 (by kernel_rfl) rfl #[.slice Ao80 t483.length co80, .slice Ao81 t478.length co81] rfl (Qls) ?_; (with_reducible refine (width_Along.calls (hGL := (Qlg)) k _ _ t483 _ _ t478 t486 t487 _ ?side1 ?side2 ?side3 ?side4 A9.out).mono ?_); (case side1 => exact Qsc (Kd.R_reads' HO485.out).2.2); (case side2 => exact (Kd.R_reads' HO485.out).2.1); (case side3 => exact Qsc (Kd.R_reads' HO481.out).2.2); (case side4 => exact (Kd.R_reads' HO481.out).2.1); rintro e w82 ⟨rfl, hb⟩; refine ⟨_, rfl, ?_⟩; have n0_ := Aside0.mk (Kd.R_below (Qro HO472.out) hb); have n1_ := Aside0.mk (Kd.R_below (Qro HO477.out) hb); have n2_ := Aside0.mk (Kd.R_below (Qro HO481.out) hb); have n3_ := Aside0.mk (Kd.R_below (Qro HO485.out) hb); have n4_ := Aside0.mk (below_step (Qaw) hb); clear HO472; clear HO477; clear HO481; clear HO485; clear HB; have HO472 := n0_; have HO477 := n1_; have HO481 := n2_; have HO485 := n3_; have HB := n4_; clear n0_ n1_ n2_ n3_ n4_; (try clear hb); (try clear hb2); (try clear hk); (try clear hi)) | ((with_reducible refine gate_callee (f := 19) rfl ?_); refine goesL_ (some 45) rfl rfl Tryd.func19 (by kernel_rfl) rfl #[.slice A0 l0.length c0] rfl (Qls) ?_; (with_reducible refine (lampblacklaw02_Few.calls _ _ l0 t488 _ ?side1 ?side2 A10.out).mono ?_); (case side1 => exact Qsc (Kd.C_below HR0.out HB.out)); (case side2 => exact HC0.out); rintro e w83 ⟨v489, rfl, ho0, hb⟩; refine ⟨_, rfl, ?_⟩; have n0_ := Aside0.mk (Kd.R_elder' (Qro HO472.out) (Kd.R_base ho0) hb); have n1_ := Aside0.mk (Kd.R_elder' (Qro HO477.out) (Kd.R_base ho0) hb); have n2_ := Aside0.mk (Kd.R_elder' (Qro HO481.out) (Kd.R_base ho0) hb); have n3_ := Aside0.mk (Kd.R_elder' (Qro HO485.out) (Kd.R_base ho0) hb); have n4_ := Aside0.mk (Kd.R_lower (Kd.R_new' (Kd.R_new' (Kd.R_new' (Kd.R_new' ho0 (Kd.R_lt (Qro HO472.out))) (Kd.R_lt (Qro HO477.out))) (Kd.R_lt (Qro HO481.out))) (Kd.R_lt (Qro HO485.out))) (below_size (Qaw))); have n5_ := Aside0.mk (below_step (Qaw) hb); clear HO472; clear HO477; clear HO481; clear HO485; clear HB; have HO472 := n0_; have HO477 := n1_; have HO481 := n2_; have HO485 := n3_; have HO490 := n4_; have HB := n5_; clear n0_ n1_ n2_ n3_ n4_ n5_; (try clear hb); (try clear hb2); (try clear hk); (try clear hi); (try clear ho0)) | ((with_reducible refine gate_callee (f := 31) rfl ?_); refine goesL_ (some 47) rfl rfl Tryd.func31 (by kernel_rfl) rfl #[.slice A1 l1.length c1] rfl (Qls) ?_; (with_reducible refine (lampblacklaw02_list.calls _ _ l1 t491 _ ?side1 ?side2 A11.out).mono ?_); (case side1 => exact Qsc (Kd.C_below HR1.out HB.out)); (case side2 => exact HC1.out); rintro e w84 ⟨v492, rfl, ho0, hb⟩; refine ⟨_, rfl, ?_⟩; have n0_ := Aside0.mk (Kd.R_elder' (Qro HO472.out) (Kd.R_base ho0) hb); have n1_ := Aside0.mk (Kd.R_elder' (Qro HO477.out) (Kd.R_base ho0) hb); have n2_ := Aside0.mk (Kd.R_elder' (Qro HO481.out) (Kd.R_base ho0) hb); have n3_ := Aside0.mk (Kd.R_elder' (Qro HO485.out) (Kd.R_base ho0) hb); have n4_ := Aside0.mk (Kd.R_elder' (Qro HO490.out) (Kd.R_base ho0) hb); have n5_ := Aside0.mk (Kd.R_lower (Kd.R_new' (Kd.R_new' (Kd.R_new' (Kd.R_new' (Kd.R_new' ho0 (Kd.R_lt (Qro HO472.out))) (Kd.R_lt (Qro HO477.out))) (Kd.R_lt (Qro HO481.out))) (Kd.R_lt (Qro HO485.out))) (Kd.R_lt (Qro HO490.out))) (below_size (Qaw))); have n6_ := Aside0.mk (below_step (Qaw) hb); clear HO472; clear HO477; clear HO481; clear HO485; clear HO490; clear HB; have HO472 := n0_; have HO477 := n1_; have HO481 := n2_; have HO485 := n3_; have HO490 := n4_; have HO493 := n5_; have HB := n6_; clear n0_ n1_ n2_ n3_ n4_ n5_ n6_; (try clear hb); (try clear hb2); (try clear hk); (try clear hi); (try clear ho0); obtain ⟨Ao85, co85, eo85⟩ := Kd.R_slice HO490.out; subst eo85; obtain ⟨Ao86, co86, eo86⟩ := Kd.R_slice HO493.out; subst eo86) | ((with_reducible refine gate_callee (f := 37) rfl ?_); refine goesL_ (some 48) rfl rfl Tryd.func37 (by kernel_rfl) rfl #[.slice Ao85 t488.length co85, .slice Ao86 t491.length co86] rfl (Qls) ?_; (with_reducible refine (width_Along.calls (hGL := (Qlg)) k _ _ t488 _ _ t491 t494 t495 _ ?side1 ?side2 ?side3 ?side4 A12.out).mono ?_); (case side1 => exact Qsc (Kd.R_reads' HO490.out).2.2); (case side2 => exact (Kd.R_reads' HO490.out).2.1); (case side3 => exact Qsc (Kd.R_reads' HO493.out).2.2); (case side4 => exact (Kd.R_reads' HO493.out).2.1); rintro e w87 ⟨rfl, hb⟩; refine ⟨_, rfl, ?_⟩; have n0_ := Aside0.mk (Kd.R_below (Qro HO472.out) hb); have n1_ := Aside0.mk (Kd.R_below (Qro HO477.out) hb); have n2_ := Aside0.mk (Kd.R_below (Qro HO481.out) hb); have n3_ := Aside0.mk (Kd.R_below (Qro HO485.out) hb); have n4_ := Aside0.mk (Kd.R_below (Qro HO490.out) hb); have n5_ := Aside0.mk (Kd.R_below (Qro HO493.out) hb); have n6_ := Aside0.mk (below_step (Qaw) hb); clear HO472; clear HO477; clear HO481; clear HO485; clear HO490; clear HO493; clear HB; have HO472 := n0_; have HO477 := n1_; have HO481 := n2_; have HO485 := n3_; have HO490 := n4_; have HO493 := n5_; have HB := n6_; clear n0_ n1_ n2_ n3_ n4_ n5_ n6_; (try clear hb); (try clear hb2); (try clear hk); (try clear hi)) | (go_at_call 49; (with_reducible refine (slices_Compare_int_int.calls k _ _ t478 _ _ l1 t497 _ ?side1 ?side2 ?side3 ?side4 A36.out).mono ?_); (case side1 => exact Qsc (Kd.R_reads' HO481.out).2.2); (case side2 => exact (Kd.R_reads' HO481.out).2.1); (case side3 => exact Qsc (Kd.C_below HR1.out HB.out)); (case side4 => exact HC1.out); rintro e w' ⟨rfl, ⟨nd, rfl⟩⟩))
          go_ret
          exact ⟨by first | rfl | (simp [errW_none, errW_some] <;> rfl) | (simp [*, errW_none, errW_some] <;> rfl), by repeat (first | (with_reducible first | exact HB.out | apply below_alloc | apply pw_below_drewN | apply below_drew1) | exact HB.out)⟩
       ·rw [if_neg c35] at H
        have c35b0 : decide (t473 ≤ t494) = false := decide_eq_false c35
        clear c35
        by_cases c88 : t494 > t473
        ·rw [if_pos c88] at H
         have c88b0 : decide (t473 < t494) = true := decide_eq_true c88
         clear c88
         replace H := Option.bind_eq_some_iff.mp H
         obtain ⟨t500, A890, H⟩ := H
         replace H : (some t500) = some r := H
         have A89 := Aside0.mk A890
         clear A890
         obtain rfl := Option.some.inj H
         go_enter Tryd.func10, Tryd.ntmps10
         go_wp2_with (first | ((with_reducible refine gate_callee (f := 19) rfl ?_); refine goesL_ (some 15) rfl rfl Tryd.func19 (by kernel_rfl) rfl #[.slice A0 l0.length c0] rfl (Qls) ?_; (with_reducible refine (lampblacklaw02_Few.calls _ _ l0 t470 _ ?side1 ?side2 A3.out).mono ?_); (case side1 => exact Qsc HR0.out); (case side2 => exact HC0.out); rintro e w90 ⟨v471, rfl, ho0, hb⟩; refine ⟨_, rfl, ?_⟩; have n0_ := Aside0.mk (Kd.R_lower ho0 (below_size (Qaw))); have n1_ := Aside0.mk (below_step (Qaw) hb); clear HB; have HO472 := n0_; have HB := n1_; clear n0_ n1_; (try clear hb); (try clear hb2); (try clear hk); (try clear hi); (try clear ho0); obtain ⟨Ao91, co91, eo91⟩ := Kd.R_slice HO472.out; subst eo91) | ((with_reducible refine gate_callee (f := 18) rfl ?_); refine goesL_ (some 16) rfl rfl Tryd.func18 (by kernel_rfl) rfl #[.slice Ao91 t470.length co91] rfl (Qls) ?_; (with_reducible refine (width_Width.calls (hGL := (Qlg)) k _ _ t470 t473 t474 _ ?side1 ?side2 A4.out).mono ?_); (case side1 => exact Qsc (Kd.R_reads' HO472.out).2.2); (case side2 => exact (Kd.R_reads' HO472.out).2.1); rintro e w92 ⟨rfl, hb⟩; refine ⟨_, rfl, ?_⟩; have n0_ := Aside0.mk (Kd.R_below (Qro HO472.out) hb); have n1_ := Aside0.mk (below_step (Qaw) hb); clear HO472; clear HB; have HO472 := n0_; have HB := n1_; clear n0_ n1_; (try clear hb); (try clear hb2); (try clear hk); (try clear hi)) | ((with_reducible refine gate_callee (f := 19) rfl ?_); refine goesL_ (some 21) rfl rfl Tryd.func19 (by kernel_rfl) rfl #[.slice A0 l0.length c0] rfl (Qls) ?_; (with_reducible refine (lampblacklaw02_Few.calls _ _ l0 t475 _ ?side1 ?side2 A5.out).mono ?_); (case side1 => exact Qsc (Kd.C_below HR0.out HB.out)); (case side2 => exact HC0.out); rintro e w93 ⟨v476, rfl, ho0, hb⟩; refine ⟨_, rfl, ?_⟩; have n0_ := Aside0.mk (Kd.R_elder' (Qro HO472.out) (Kd.R_base ho0) hb); have n1_ := Aside0.mk (Kd.R_lower (Kd.R_new' ho0 (Kd.R_lt (Qro HO472.out))) (below_size (Qaw))); have n2_ := Aside0.mk (below_step (Qaw) hb); clear HO472; clear HB; have HO472 := n0_; have HO477 := n1_; have HB := n2_; clear n0_ n1_ n2_; (try clear hb); (try clear hb2); (try clear hk); (try clear hi); (try clear ho0); obtain ⟨Ao94, co94, eo94⟩ := Kd.R_slice HO477.out; subst eo94) | ((with_reducible refine gate_callee (f := 36) rfl ?_); refine goesL_ (some 22) rfl rfl Tryd.func36 (by kernel_rfl) rfl #[.slice Ao94 t475.length co94] rfl (Qls) ?_; (with_reducible refine (width_Order.calls (hGL := (Qlg)) k _ _ t475 t478 t479 _ ?side1 ?side2 A6.out).mono ?_); (case side1 => exact Qsc (Kd.R_reads' HO477.out).2.2); (case side2 => exact (Kd.R_reads' HO477.out).2.1); rintro e w95 ⟨v480, rfl, ho0, hb⟩; refine ⟨_, rfl, ?_⟩; have n0_ := Aside0.mk (Kd.R_elder' (Qro HO472.out) (Kd.R_base ho0) hb); have n1_ := Aside0.mk (Kd.R_elder' (Qro HO477.out) (Kd.R_base ho0) hb); have n2_ := Aside0.mk (Kd.R_lower (Kd.R_new' (Kd.R_new' ho0 (Kd.R_lt (Qro HO472.out))) (Kd.R_lt (Qro HO477.out))) (below_size (Qaw))); have n3_ := Aside0.mk (below_step (Qaw) hb); clear HO472; clear HO477; clear HB; have HO472 := n0_; have HO477 := n1_; have HO481 := n2_; have HB := n3_; clear n0_ n1_ n2_ n3_; (try clear hb); (try clear hb2); (try clear hk); (try clear hi); (try clear ho0)) | ((with_reducible refine gate_callee (f := 19) rfl ?_); refine goesL_ (some 38) rfl rfl Tryd.func19 (by kernel_rfl) rfl #[.slice A0 l0.length c0] rfl (Qls) ?_; (with_reducible refine (lampblacklaw02_Few.calls _ _ l0 t483 _ ?side1 ?side2 A8.out).mono ?_); (case side1 => exact Qsc (Kd.C_below HR0.out HB.out)); (case side2 => exact HC0.out); rintro e w96 ⟨v484, rfl, ho0, hb⟩; refine ⟨_, rfl, ?_⟩; have n0_ := Aside0.mk (Kd.R_elder' (Qro HO472.out) (Kd.R_base ho0) hb); have n1_ := Aside0.mk (Kd.R_elder' (Qro HO477.out) (Kd.R_base ho0) hb); have n2_ := Aside0.mk (Kd.R_elder' (Qro HO481.out) (Kd.R_base ho0) hb); have n3_ := Aside0.mk (Kd.R_lower (Kd.R_new' (Kd.R_new' (Kd.R_new' ho0 (Kd.R_lt (Qro HO472.out))) (Kd.R_lt (Qro HO477.out))) (Kd.R_lt (Qro HO481.out))) (below_size (Qaw))); have n4_ := Aside0.mk (below_step (Qaw) hb); clear HO472; clear HO477; clear HO481; clear HB; have HO472 := n0_; have HO477 := n1_; have HO481 := n2_; have HO485 := n3_; have HB := n4_; clear n0_ n1_ n2_ n3_ n4_; (try clear hb); (try clear hb2); (try clear hk); (try clear hi); (try clear ho0); obtain ⟨Ao97, co97, eo97⟩ := Kd.R_slice HO485.out; subst eo97; obtain ⟨Ao98, co98, eo98⟩ := Kd.R_slice HO481.out; subst eo98) | ((with_reducible refine gate_callee (f := 37) rfl ?_); refine goesL_ (some 40) rfl rfl Tryd.func37 (by kernel_rfl) rfl #[.slice Ao97 t483.length co97, .slice Ao98 t478.length co98] rfl (Qls) ?_; (with_reducible refine (width_Along.calls (hGL := (Qlg)) k _ _ t483 _ _ t478 t486 t487 _ ?side1 ?side2 ?side3 ?side4 A9.out).mono ?_); (case side1 => exact Qsc (Kd.R_reads' HO485.out).2.2); (case side2 => exact (Kd.R_reads' HO485.out).2.1); (case side3 => exact Qsc (Kd.R_reads' HO481.out).2.2); (case side4 => exact (Kd.R_reads' HO481.out).2.1); rintro e w99 ⟨rfl, hb⟩; refine ⟨_, rfl, ?_⟩; have n0_ := Aside0.mk (Kd.R_below (Qro HO472.out) hb); have n1_ := Aside0.mk (Kd.R_below (Qro HO477.out) hb); have n2_ := Aside0.mk (Kd.R_below (Qro HO481.out) hb); have n3_ := Aside0.mk (Kd.R_below (Qro HO485.out) hb); have n4_ := Aside0.mk (below_step (Qaw) hb); clear HO472; clear HO477; clear HO481; clear HO485; clear HB; have HO472 := n0_; have HO477 := n1_; have HO481 := n2_; have HO485 := n3_; have HB := n4_; clear n0_ n1_ n2_ n3_ n4_; (try clear hb); (try clear hb2); (try clear hk); (try clear hi)) | ((with_reducible refine gate_callee (f := 19) rfl ?_); refine goesL_ (some 45) rfl rfl Tryd.func19 (by kernel_rfl) rfl #[.slice A0 l0.length c0] rfl (Qls) ?_; (with_reducible refine (lampblacklaw02_Few.calls _ _ l0 t488 _ ?side1 ?side2 A10.out).mono ?_); (case side1 => exact Qsc (Kd.C_below HR0.out HB.out)); (case side2 => exact HC0.out); rintro e w100 ⟨v489, rfl, ho0, hb⟩; refine ⟨_, rfl, ?_⟩; have n0_ := Aside0.mk (Kd.R_elder' (Qro HO472.out) (Kd.R_base ho0) hb); have n1_ := Aside0.mk (Kd.R_elder' (Qro HO477.out) (Kd.R_base ho0) hb); have n2_ := Aside0.mk (Kd.R_elder' (Qro HO481.out) (Kd.R_base ho0) hb); have n3_ := Aside0.mk (Kd.R_elder' (Qro HO485.out) (Kd.R_base ho0) hb); have n4_ := Aside0.mk (Kd.R_lower (Kd.R_new' (Kd.R_new' (Kd.R_new' (Kd.R_new' ho0 (Kd.R_lt (Qro HO472.out))) (Kd.R_lt (Qro HO477.out))) (Kd.R_lt (Qro HO481.out))) (Kd.R_lt (Qro HO485.out))) (below_size (Qaw))); have n5_ := Aside0.mk (below_step (Qaw) hb); clear HO472; clear HO477; clear HO481; clear HO485; clear HB; have HO472 := n0_; have HO477 := n1_; have HO481 := n2_; have HO485 := n3_; have HO490 := n4_; have HB := n5_; clear n0_ n1_ n2_ n3_ n4_ n5_; (try clear hb); (try clear hb2); (try clear hk); (try clear hi); (try clear ho0)) | ((with_reducible refine gate_callee (f := 31) rfl ?_); refine goesL_ (some 47) rfl rfl Tryd.func31 (by kernel_rfl) rfl #[.slice A1 l1.length c1] rfl (Qls) ?_; (with_reducible refine (lampblacklaw02_list.calls _ _ l1 t491 _ ?side1 ?side2 A11.out).mono ?_); (case side1 => exact Qsc (Kd.C_below HR1.out HB.out)); (case side2 => exact HC1.out); rintro e w101 ⟨v492, rfl, ho0, hb⟩; refine ⟨_, rfl, ?_⟩; have n0_ := Aside0.mk (Kd.R_elder' (Qro HO472.out) (Kd.R_base ho0) hb); have n1_ := Aside0.mk (Kd.R_elder' (Qro HO477.out) (Kd.R_base ho0) hb); have n2_ := Aside0.mk (Kd.R_elder' (Qro HO481.out) (Kd.R_base ho0) hb); have n3_ := Aside0.mk (Kd.R_elder' (Qro HO485.out) (Kd.R_base ho0) hb); have n4_ := Aside0.mk (Kd.R_elder' (Qro HO490.out) (Kd.R_base ho0) hb); have n5_ := Aside0.mk (Kd.R_lower (Kd.R_new' (Kd.R_new' (Kd.R_new' (Kd.R_new' (Kd.R_new' ho0 (Kd.R_lt (Qro HO472.out))) (Kd.R_lt (Qro HO477.out))) (Kd.R_lt (Qro HO481.out))) (Kd.R_lt (Qro HO485.out))) (Kd.R_lt (Qro HO490.out))) (below_size (Qaw))); have n6_ := Aside0.mk (below_step (Qaw) hb); clear HO472; clear HO477; clear HO481; clear HO485; clear HO490; clear HB; have HO472 := n0_; have HO477 := n1_; have HO481 := n2_; have HO485 := n3_; have HO490 := n4_; have HO493 := n5_; have HB := n6_; clear n0_ n1_ n2_ n3_ n4_ n5_ n6_; (try clear hb); (try clear hb2); (try clear hk); (try clear hi); (try clear ho0); obtain ⟨Ao102, co102, eo102⟩ := Kd.R_slice HO490.out; subst eo102; obtain ⟨Ao103, co103, eo103⟩ := Kd.R_slice HO493.out; subst eo103) | ((with_reducible refine gate_callee (f := 37) rfl ?_); refine goesL_ (some 48) rfl rfl Tryd.func37 (by kernel_rfl) rfl #[.slice Ao102 t488.length co102, .slice Ao103 t491.length co103] rfl (Qls) ?_; (with_reducible refine (width_Along.calls (hGL := (Qlg)) k _ _ t488 _ _ t491 t494 t495 _ ?side1 ?side2 ?side3 ?side4 A12.out).mono ?_); (case side1 => exact Qsc (Kd.R_reads' HO490.out).2.2); (case side2 => exact (Kd.R_reads' HO490.out).2.1); (case side3 => exact Qsc (Kd.R_reads' HO493.out).2.2); (case side4 => exact (Kd.R_reads' HO493.out).2.1); rintro e w104 ⟨rfl, hb⟩; refine ⟨_, rfl, ?_⟩; have n0_ := Aside0.mk (Kd.R_below (Qro HO472.out) hb); have n1_ := Aside0.mk (Kd.R_below (Qro HO477.out) hb); have n2_ := Aside0.mk (Kd.R_below (Qro HO481.out) hb); have n3_ := Aside0.mk (Kd.R_below (Qro HO485.out) hb); have n4_ := Aside0.mk (Kd.R_below (Qro HO490.out) hb); have n5_ := Aside0.mk (Kd.R_below (Qro HO493.out) hb); have n6_ := Aside0.mk (below_step (Qaw) hb); clear HO472; clear HO477; clear HO481; clear HO485; clear HO490; clear HO493; clear HB; have HO472 := n0_; have HO477 := n1_; have HO481 := n2_; have HO485 := n3_; have HO490 := n4_; have HO493 := n5_; have HB := n6_; clear n0_ n1_ n2_ n3_ n4_ n5_ n6_; (try clear hb); (try clear hb2); (try clear hk); (try clear hi)) | (go_at_call 20; (with_reducible refine (lampblacklaw02_awake.calls (hGL := (Qlg)) k  t500 _ A89.out).mono ?_); rintro e w105 ⟨rfl, hb⟩; have n0_ := Aside0.mk (Kd.R_below (Qro HO472.out) hb); have n1_ := Aside0.mk (Kd.R_below (Qro HO477.out) hb); have n2_ := Aside0.mk (Kd.R_below (Qro HO481.out) hb); have n3_ := Aside0.mk (Kd.R_below (Qro HO485.out) hb); have n4_ := Aside0.mk (Kd.R_below (Qro HO490.out) hb); have n5_ := Aside0.mk (Kd.R_below (Qro HO493.out) hb); have n6_ := Aside0.mk (below_step (Qaw) hb); clear HO472; clear HO477; clear HO481; clear HO485; clear HO490; clear HO493; clear HB; have HO472 := n0_; have HO477 := n1_; have HO481 := n2_; have HO485 := n3_; have HO490 := n4_; have HO493 := n5_; have HB := n6_; clear n0_ n1_ n2_ n3_ n4_ n5_ n6_; (try clear hb); (try clear hb2); (try clear hk); (try clear hi)))
         go_ret
         exact ⟨by first | rfl | (simp [errW_none, errW_some] <;> rfl) | (simp [*, errW_none, errW_some] <;> rfl), by repeat (first | (with_reducible first | exact HB.out | apply below_alloc | apply pw_below_drewN | apply below_drew1) | exact HB.out)⟩
        ·rw [if_neg c88] at H
         have c88b0 : decide (t473 < t494) = false := decide_eq_false c88
         clear c88
         obtain rfl := Option.some.inj H
         go_enter Tryd.func10, Tryd.ntmps10
         go_wp2_with (first | ((with_reducible refine gate_callee (f := 19) rfl ?_); refine goesL_ (some 15) rfl rfl Tryd.func19 (by kernel_rfl) rfl #[.slice A0 l0.length c0] rfl (Qls) ?_; (with_reducible refine (lampblacklaw02_Few.calls _ _ l0 t470 _ ?side1 ?side2 A3.out).mono ?_); (case side1 => exact Qsc HR0.out); (case side2 => exact HC0.out); rintro e w106 ⟨v471, rfl, ho0, hb⟩; refine ⟨_, rfl, ?_⟩; have n0_ := Aside0.mk (Kd.R_lower ho0 (below_size (Qaw))); have n1_ := Aside0.mk (below_step (Qaw) hb); clear HB; have HO472 := n0_; have HB := n1_; clear n0_ n1_; (try clear hb); (try clear hb2); (try clear hk); (try clear hi); (try clear ho0); obtain ⟨Ao107, co107, eo107⟩ := Kd.R_slice HO472.out; subst eo107) | ((with_reducible refine gate_callee (f := 18) rfl ?_); refine goesL_ (some 16) rfl rfl Tryd.func18 (by kernel_rfl) rfl #[.slice Ao107 t470.length co107] rfl (Qls) ?_; (with_reducible refine (width_Width.calls (hGL := (Qlg)) k _ _ t470 t473 t474 _ ?side1 ?side2 A4.out).mono ?_); (case side1 => exact Qsc (Kd.R_reads' HO472.out).2.2); (case side2 => exact (Kd.R_reads' HO472.out).2.1); rintro e w108 ⟨rfl, hb⟩; refine ⟨_, rfl, ?_⟩; have n0_ := Aside0.mk (Kd.R_below (Qro HO472.out) hb); have n1_ := Aside0.mk (below_step (Qaw) hb); clear HO472; clear HB; have HO472 := n0_; have HB := n1_; clear n0_ n1_; (try clear hb); (try clear hb2); (try clear hk); (try clear hi)) | ((with_reducible refine gate_callee (f := 19) rfl ?_); refine goesL_ (some 21) rfl rfl Tryd.func19 (by kernel_rfl) rfl #[.slice A0 l0.length c0] rfl (Qls) ?_; (with_reducible refine (lampblacklaw02_Few.calls _ _ l0 t475 _ ?side1 ?side2 A5.out).mono ?_); (case side1 => exact Qsc (Kd.C_below HR0.out HB.out)); (case side2 => exact HC0.out); rintro e w109 ⟨v476, rfl, ho0, hb⟩; refine ⟨_, rfl, ?_⟩; have n0_ := Aside0.mk (Kd.R_elder' (Qro HO472.out) (Kd.R_base ho0) hb); have n1_ := Aside0.mk (Kd.R_lower (Kd.R_new' ho0 (Kd.R_lt (Qro HO472.out))) (below_size (Qaw))); have n2_ := Aside0.mk (below_step (Qaw) hb); clear HO472; clear HB; have HO472 := n0_; have HO477 := n1_; have HB := n2_; clear n0_ n1_ n2_; (try clear hb); (try clear hb2); (try clear hk); (try clear hi); (try clear ho0); obtain ⟨Ao110, co110, eo110⟩ := Kd.R_slice HO477.out; subst eo110) | ((with_reducible refine gate_callee (f := 36) rfl ?_); refine goesL_ (some 22) rfl rfl Tryd.func36 (by kernel_rfl) rfl #[.slice Ao110 t475.length co110] rfl (Qls) ?_; (with_reducible refine (width_Order.calls (hGL := (Qlg)) k _ _ t475 t478 t479 _ ?side1 ?side2 A6.out).mono ?_); (case side1 => exact Qsc (Kd.R_reads' HO477.out).2.2); (case side2 => exact (Kd.R_reads' HO477.out).2.1); rintro e w111 ⟨v480, rfl, ho0, hb⟩; refine ⟨_, rfl, ?_⟩; have n0_ := Aside0.mk (Kd.R_elder' (Qro HO472.out) (Kd.R_base ho0) hb); have n1_ := Aside0.mk (Kd.R_elder' (Qro HO477.out) (Kd.R_base ho0) hb); have n2_ := Aside0.mk (Kd.R_lower (Kd.R_new' (Kd.R_new' ho0 (Kd.R_lt (Qro HO472.out))) (Kd.R_lt (Qro HO477.out))) (below_size (Qaw))); have n3_ := Aside0.mk (below_step (Qaw) hb); clear HO472; clear HO477; clear HB; have HO472 := n0_; have HO477 := n1_; have HO481 := n2_; have HB := n3_; clear n0_ n1_ n2_ n3_; (try clear hb); (try clear hb2); (try clear hk); (try clear hi); (try clear ho0)) | ((with_reducible refine gate_callee (f := 19) rfl ?_); refine goesL_ (some 38) rfl rfl Tryd.func19 (by kernel_rfl) rfl #[.slice A0 l0.length c0] rfl (Qls) ?_; (with_reducible refine (lampblacklaw02_Few.calls _ _ l0 t483 _ ?side1 ?side2 A8.out).mono ?_); (case side1 => exact Qsc (Kd.C_below HR0.out HB.out)); (case side2 => exact HC0.out); rintro e w112 ⟨v484, rfl, ho0, hb⟩; refine ⟨_, rfl, ?_⟩; have n0_ := Aside0.mk (Kd.R_elder' (Qro HO472.out) (Kd.R_base ho0) hb); have n1_ := Aside0.mk (Kd.R_elder' (Qro HO477.out) (Kd.R_base ho0) hb); have n2_ := Aside0.mk (Kd.R_elder' (Qro HO481.out) (Kd.R_base ho0) hb); have n3_ := Aside0.mk (Kd.R_lower (Kd.R_new' (Kd.R_new' (Kd.R_new' ho0 (Kd.R_lt (Qro HO472.out))) (Kd.R_lt (Qro HO477.out))) (Kd.R_lt (Qro HO481.out))) (below_size (Qaw))); have n4_ := Aside0.mk (below_step (Qaw) hb); clear HO472; clear HO477; clear HO481; clear HB; have HO472 := n0_; have HO477 := n1_; have HO481 := n2_; have HO485 := n3_; have HB := n4_; clear n0_ n1_ n2_ n3_ n4_; (try clear hb); (try clear hb2); (try clear hk); (try clear hi); (try clear ho0); obtain ⟨Ao113, co113, eo113⟩ := Kd.R_slice HO485.out; subst eo113; obtain ⟨Ao114, co114, eo114⟩ := Kd.R_slice HO481.out; subst eo114) | ((with_reducible refine gate_callee (f := 37) rfl ?_); refine goesL_ (some 40) rfl rfl Tryd.func37 (by kernel_rfl) rfl #[.slice Ao113 t483.length co113, .slice Ao114 t478.length co114] rfl (Qls) ?_; (with_reducible refine (width_Along.calls (hGL := (Qlg)) k _ _ t483 _ _ t478 t486 t487 _ ?side1 ?side2 ?side3 ?side4 A9.out).mono ?_); (case side1 => exact Qsc (Kd.R_reads' HO485.out).2.2); (case side2 => exact (Kd.R_reads' HO485.out).2.1); (case side3 => exact Qsc (Kd.R_reads' HO481.out).2.2); (case side4 => exact (Kd.R_reads' HO481.out).2.1); rintro e w115 ⟨rfl, hb⟩; refine ⟨_, rfl, ?_⟩; have n0_ := Aside0.mk (Kd.R_below (Qro HO472.out) hb); have n1_ := Aside0.mk (Kd.R_below (Qro HO477.out) hb); have n2_ := Aside0.mk (Kd.R_below (Qro HO481.out) hb); have n3_ := Aside0.mk (Kd.R_below (Qro HO485.out) hb); have n4_ := Aside0.mk (below_step (Qaw) hb); clear HO472; clear HO477; clear HO481; clear HO485; clear HB; have HO472 := n0_; have HO477 := n1_; have HO481 := n2_; have HO485 := n3_; have HB := n4_; clear n0_ n1_ n2_ n3_ n4_; (try clear hb); (try clear hb2); (try clear hk); (try clear hi)) | ((with_reducible refine gate_callee (f := 19) rfl ?_); refine goesL_ (some 45) rfl rfl Tryd.func19 (by kernel_rfl) rfl #[.slice A0 l0.length c0] rfl (Qls) ?_; (with_reducible refine (lampblacklaw02_Few.calls _ _ l0 t488 _ ?side1 ?side2 A10.out).mono ?_); (case side1 => exact Qsc (Kd.C_below HR0.out HB.out)); (case side2 => exact HC0.out); rintro e w116 ⟨v489, rfl, ho0, hb⟩; refine ⟨_, rfl, ?_⟩; have n0_ := Aside0.mk (Kd.R_elder' (Qro HO472.out) (Kd.R_base ho0) hb); have n1_ := Aside0.mk (Kd.R_elder' (Qro HO477.out) (Kd.R_base ho0) hb); have n2_ := Aside0.mk (Kd.R_elder' (Qro HO481.out) (Kd.R_base ho0) hb); have n3_ := Aside0.mk (Kd.R_elder' (Qro HO485.out) (Kd.R_base ho0) hb); have n4_ := Aside0.mk (Kd.R_lower (Kd.R_new' (Kd.R_new' (Kd.R_new' (Kd.R_new' ho0 (Kd.R_lt (Qro HO472.out))) (Kd.R_lt (Qro HO477.out))) (Kd.R_lt (Qro HO481.out))) (Kd.R_lt (Qro HO485.out))) (below_size (Qaw))); have n5_ := Aside0.mk (below_step (Qaw) hb); clear HO472; clear HO477; clear HO481; clear HO485; clear HB; have HO472 := n0_; have HO477 := n1_; have HO481 := n2_; have HO485 := n3_; have HO490 := n4_; have HB := n5_; clear n0_ n1_ n2_ n3_ n4_ n5_; (try clear hb); (try clear hb2); (try clear hk); (try clear hi); (try clear ho0)) | ((with_reducible refine gate_callee (f := 31) rfl ?_); refine goesL_ (some 47) rfl rfl Tryd.func31 (by kernel_rfl) rfl #[.slice A1 l1.length c1] rfl (Qls) ?_; (with_reducible refine (lampblacklaw02_list.calls _ _ l1 t491 _ ?side1 ?side2 A11.out).mono ?_); (case side1 => exact Qsc (Kd.C_below HR1.out HB.out)); (case side2 => exact HC1.out); rintro e w117 ⟨v492, rfl, ho0, hb⟩; refine ⟨_, rfl, ?_⟩; have n0_ := Aside0.mk (Kd.R_elder' (Qro HO472.out) (Kd.R_base ho0) hb); have n1_ := Aside0.mk (Kd.R_elder' (Qro HO477.out) (Kd.R_base ho0) hb); have n2_ := Aside0.mk (Kd.R_elder' (Qro HO481.out) (Kd.R_base ho0) hb); have n3_ := Aside0.mk (Kd.R_elder' (Qro HO485.out) (Kd.R_base ho0) hb); have n4_ := Aside0.mk (Kd.R_elder' (Qro HO490.out) (Kd.R_base ho0) hb); have n5_ := Aside0.mk (Kd.R_lower (Kd.R_new' (Kd.R_new' (Kd.R_new' (Kd.R_new' (Kd.R_new' ho0 (Kd.R_lt (Qro HO472.out))) (Kd.R_lt (Qro HO477.out))) (Kd.R_lt (Qro HO481.out))) (Kd.R_lt (Qro HO485.out))) (Kd.R_lt (Qro HO490.out))) (below_size (Qaw))); have n6_ := Aside0.mk (below_step (Qaw) hb); clear HO472; clear HO477; clear HO481; clear HO485; clear HO490; clear HB; have HO472 := n0_; have HO477 := n1_; have HO481 := n2_; have HO485 := n3_; have HO490 := n4_; have HO493 := n5_; have HB := n6_; clear n0_ n1_ n2_ n3_ n4_ n5_ n6_; (try clear hb); (try clear hb2); (try clear hk); (try clear hi); (try clear ho0); obtain ⟨Ao118, co118, eo118⟩ := Kd.R_slice HO490.out; subst eo118; obtain ⟨Ao119, co119, eo119⟩ := Kd.R_slice HO493.out; subst eo119) | ((with_reducible refine gate_callee (f := 37) rfl ?_); refine goesL_ (some 48) rfl rfl Tryd.func37 (by kernel_rfl) rfl #[.slice Ao118 t488.length co118, .slice Ao119 t491.length co119] rfl (Qls) ?_; (with_reducible refine (width_Along.calls (hGL := (Qlg)) k _ _ t488 _ _ t491 t494 t495 _ ?side1 ?side2 ?side3 ?side4 A12.out).mono ?_); (case side1 => exact Qsc (Kd.R_reads' HO490.out).2.2); (case side2 => exact (Kd.R_reads' HO490.out).2.1); (case side3 => exact Qsc (Kd.R_reads' HO493.out).2.2); (case side4 => exact (Kd.R_reads' HO493.out).2.1); rintro e w120 ⟨rfl, hb⟩; refine ⟨_, rfl, ?_⟩; have n0_ := Aside0.mk (Kd.R_below (Qro HO472.out) hb); have n1_ := Aside0.mk (Kd.R_below (Qro HO477.out) hb); have n2_ := Aside0.mk (Kd.R_below (Qro HO481.out) hb); have n3_ := Aside0.mk (Kd.R_below (Qro HO485.out) hb); have n4_ := Aside0.mk (Kd.R_below (Qro HO490.out) hb); have n5_ := Aside0.mk (Kd.R_below (Qro HO493.out) hb); have n6_ := Aside0.mk (below_step (Qaw) hb); clear HO472; clear HO477; clear HO481; clear HO485; clear HO490; clear HO493; clear HB; have HO472 := n0_; have HO477 := n1_; have HO481 := n2_; have HO485 := n3_; have HO490 := n4_; have HO493 := n5_; have HB := n6_; clear n0_ n1_ n2_ n3_ n4_ n5_ n6_; (try clear hb); (try clear hb2); (try clear hk); (try clear hi)))
         go_ret
         exact ⟨by first | rfl | (simp [errW_none, errW_some] <;> rfl) | (simp [*, errW_none, errW_some] <;> rfl), by repeat (first | (with_reducible first | exact HB.out | apply below_alloc | apply pw_below_drewN | apply below_drew1) | exact HB.out)⟩
      ·rw [if_neg c34] at H
       have c34b0 : (t495 == 0) = false := beq_eq_false_iff_ne.mpr c34
       have c34b1 : (t495 != 0) = true := bne_iff_ne.mpr c34
       by_cases c121 : t494 > t473
       ·rw [if_pos c121] at H
        have c121b0 : decide (t473 < t494) = true := decide_eq_true c121
        clear c121
        replace H := Option.bind_eq_some_iff.mp H
        obtain ⟨t501, A1220, H⟩ := H
        replace H : (some t501) = some r := H
        have A122 := Aside0.mk A1220
        clear A1220
        obtain rfl := Option.some.inj H
        go_enter Tryd.func10, Tryd.ntmps10
        go_wp2_with (first | ((with_reducible refine gate_callee (f := 19) rfl ?_); refine goesL_ (some 15) rfl rfl Tryd.func19 (by kernel_rfl) rfl #[.slice A0 l0.length c0] rfl (Qls) ?_; (with_reducible refine (lampblacklaw02_Few.calls _ _ l0 t470 _ ?side1 ?side2 A3.out).mono ?_); (case side1 => exact Qsc HR0.out); (case side2 => exact HC0.out); rintro e w123 ⟨v471, rfl, ho0, hb⟩; refine ⟨_, rfl, ?_⟩; have n0_ := Aside0.mk (Kd.R_lower ho0 (below_size (Qaw))); have n1_ := Aside0.mk (below_step (Qaw) hb); clear HB; have HO472 := n0_; have HB := n1_; clear n0_ n1_; (try clear hb); (try clear hb2); (try clear hk); (try clear hi); (try clear ho0); obtain ⟨Ao124, co124, eo124⟩ := Kd.R_slice HO472.out; subst eo124) | ((with_reducible refine gate_callee (f := 18) rfl ?_); refine goesL_ (some 16) rfl rfl Tryd.func18 (by kernel_rfl) rfl #[.slice Ao124 t470.length co124] rfl (Qls) ?_; (with_reducible refine (width_Width.calls (hGL := (Qlg)) k _ _ t470 t473 t474 _ ?side1 ?side2 A4.out).mono ?_); (case side1 => exact Qsc (Kd.R_reads' HO472.out).2.2); (case side2 => exact (Kd.R_reads' HO472.out).2.1); rintro e w125 ⟨rfl, hb⟩; refine ⟨_, rfl, ?_⟩; have n0_ := Aside0.mk (Kd.R_below (Qro HO472.out) hb); have n1_ := Aside0.mk (below_step (Qaw) hb); clear HO472; clear HB; have HO472 := n0_; have HB := n1_; clear n0_ n1_; (try clear hb); (try clear hb2); (try clear hk); (try clear hi)) | ((with_reducible refine gate_callee (f := 19) rfl ?_); refine goesL_ (some 21) rfl rfl Tryd.func19 (by kernel_rfl) rfl #[.slice A0 l0.length c0] rfl (Qls) ?_; (with_reducible refine (lampblacklaw02_Few.calls _ _ l0 t475 _ ?side1 ?side2 A5.out).mono ?_); (case side1 => exact Qsc (Kd.C_below HR0.out HB.out)); (case side2 => exact HC0.out); rintro e w126 ⟨v476, rfl, ho0, hb⟩; refine ⟨_, rfl, ?_⟩; have n0_ := Aside0.mk (Kd.R_elder' (Qro HO472.out) (Kd.R_base ho0) hb); have n1_ := Aside0.mk (Kd.R_lower (Kd.R_new' ho0 (Kd.R_lt (Qro HO472.out))) (below_size (Qaw))); have n2_ := Aside0.mk (below_step (Qaw) hb); clear HO472; clear HB; have HO472 := n0_; have HO477 := n1_; have HB := n2_; clear n0_ n1_ n2_; (try clear hb); (try clear hb2); (try clear hk); (try clear hi); (try clear ho0); obtain ⟨Ao127, co127, eo127⟩ := Kd.R_slice HO477.out; subst eo127) | ((with_reducible refine gate_callee (f := 36) rfl ?_); refine goesL_ (some 22) rfl rfl Tryd.func36 (by kernel_rfl) rfl #[.slice Ao127 t475.length co127] rfl (Qls) ?_; (with_reducible refine (width_Order.calls (hGL := (Qlg)) k _ _ t475 t478 t479 _ ?side1 ?side2 A6.out).mono ?_); (case side1 => exact Qsc (Kd.R_reads' HO477.out).2.2); (case side2 => exact (Kd.R_reads' HO477.out).2.1); rintro e w128 ⟨v480, rfl, ho0, hb⟩; refine ⟨_, rfl, ?_⟩; have n0_ := Aside0.mk (Kd.R_elder' (Qro HO472.out) (Kd.R_base ho0) hb); have n1_ := Aside0.mk (Kd.R_elder' (Qro HO477.out) (Kd.R_base ho0) hb); have n2_ := Aside0.mk (Kd.R_lower (Kd.R_new' (Kd.R_new' ho0 (Kd.R_lt (Qro HO472.out))) (Kd.R_lt (Qro HO477.out))) (below_size (Qaw))); have n3_ := Aside0.mk (below_step (Qaw) hb); clear HO472; clear HO477; clear HB; have HO472 := n0_; have HO477 := n1_; have HO481 := n2_; have HB := n3_; clear n0_ n1_ n2_ n3_; (try clear hb); (try clear hb2); (try clear hk); (try clear hi); (try clear ho0)) | ((with_reducible refine gate_callee (f := 19) rfl ?_); refine goesL_ (some 38) rfl rfl Tryd.func19 (by kernel_rfl) rfl #[.slice A0 l0.length c0] rfl (Qls) ?_; (with_reducible refine (lampblacklaw02_Few.calls _ _ l0 t483 _ ?side1 ?side2 A8.out).mono ?_); (case side1 => exact Qsc (Kd.C_below HR0.out HB.out)); (case side2 => exact HC0.out); rintro e w129 ⟨v484, rfl, ho0, hb⟩; refine ⟨_, rfl, ?_⟩; have n0_ := Aside0.mk (Kd.R_elder' (Qro HO472.out) (Kd.R_base ho0) hb); have n1_ := Aside0.mk (Kd.R_elder' (Qro HO477.out) (Kd.R_base ho0) hb); have n2_ := Aside0.mk (Kd.R_elder' (Qro HO481.out) (Kd.R_base ho0) hb); have n3_ := Aside0.mk (Kd.R_lower (Kd.R_new' (Kd.R_new' (Kd.R_new' ho0 (Kd.R_lt (Qro HO472.out))) (Kd.R_lt (Qro HO477.out))) (Kd.R_lt (Qro HO481.out))) (below_size (Qaw))); have n4_ := Aside0.mk (below_step (Qaw) hb); clear HO472; clear HO477; clear HO481; clear HB; have HO472 := n0_; have HO477 := n1_; have HO481 := n2_; have HO485 := n3_; have HB := n4_; clear n0_ n1_ n2_ n3_ n4_; (try clear hb); (try clear hb2); (try clear hk); (try clear hi); (try clear ho0); obtain ⟨Ao130, co130, eo130⟩ := Kd.R_slice HO485.out; subst eo130; obtain ⟨Ao131, co131, eo131⟩ := Kd.R_slice HO481.out; subst eo131) | ((with_reducible refine gate_callee (f := 37) rfl ?_); refine goesL_ (some 40) rfl rfl Tryd.func37 (by kernel_rfl) rfl #[.slice Ao130 t483.length co130, .slice Ao131 t478.length co131] rfl (Qls) ?_; (with_reducible refine (width_Along.calls (hGL := (Qlg)) k _ _ t483 _ _ t478 t486 t487 _ ?side1 ?side2 ?side3 ?side4 A9.out).mono ?_); (case side1 => exact Qsc (Kd.R_reads' HO485.out).2.2); (case side2 => exact (Kd.R_reads' HO485.out).2.1); (case side3 => exact Qsc (Kd.R_reads' HO481.out).2.2); (case side4 => exact (Kd.R_reads' HO481.out).2.1); rintro e w132 ⟨rfl, hb⟩; refine ⟨_, rfl, ?_⟩; have n0_ := Aside0.mk (Kd.R_below (Qro HO472.out) hb); have n1_ := Aside0.mk (Kd.R_below (Qro HO477.out) hb); have n2_ := Aside0.mk (Kd.R_below (Qro HO481.out) hb); have n3_ := Aside0.mk (Kd.R_below (Qro HO485.out) hb); have n4_ := Aside0.mk (below_step (Qaw) hb); clear HO472; clear HO477; clear HO481; clear HO485; clear HB; have HO472 := n0_; have HO477 := n1_; have HO481 := n2_; have HO485 := n3_; have HB := n4_; clear n0_ n1_ n2_ n3_ n4_; (try clear hb); (try clear hb2); (try clear hk); (try clear hi)) | ((with_reducible refine gate_callee (f := 19) rfl ?_); refine goesL_ (some 45) rfl rfl Tryd.func19 (by kernel_rfl) rfl #[.slice A0 l0.length c0] rfl (Qls) ?_; (with_reducible refine (lampblacklaw02_Few.calls _ _ l0 t488 _ ?side1 ?side2 A10.out).mono ?_); (case side1 => exact Qsc (Kd.C_below HR0.out HB.out)); (case side2 => exact HC0.out); rintro e w133 ⟨v489, rfl, ho0, hb⟩; refine ⟨_, rfl, ?_⟩; have n0_ := Aside0.mk (Kd.R_elder' (Qro HO472.out) (Kd.R_base ho0) hb); have n1_ := Aside0.mk (Kd.R_elder' (Qro HO477.out) (Kd.R_base ho0) hb); have n2_ := Aside0.mk (Kd.R_elder' (Qro HO481.out) (Kd.R_base ho0) hb); have n3_ := Aside0.mk (Kd.R_elder' (Qro HO485.out) (Kd.R_base ho0) hb); have n4_ := Aside0.mk (Kd.R_lower (Kd.R_new' (Kd.R_new' (Kd.R_new' (Kd.R_new' ho0 (Kd.R_lt (Qro HO472.out))) (Kd.R_lt (Qro HO477.out))) (Kd.R_lt (Qro HO481.out))) (Kd.R_lt (Qro HO485.out))) (below_size (Qaw))); have n5_ := Aside0.mk (below_step (Qaw) hb); clear HO472; clear HO477; clear HO481; clear HO485; clear HB; have HO472 := n0_; have HO477 := n1_; have HO481 := n2_; have HO485 := n3_; have HO490 := n4_; have HB := n5_; clear n0_ n1_ n2_ n3_ n4_ n5_; (try clear hb); (try clear hb2); (try clear hk); (try clear hi); (try clear ho0)) | ((with_reducible refine gate_callee (f := 31) rfl ?_); refine goesL_ (some 47) rfl rfl Tryd.func31 (by kernel_rfl) rfl #[.slice A1 l1.length c1] rfl (Qls) ?_; (with_reducible refine (lampblacklaw02_list.calls _ _ l1 t491 _ ?side1 ?side2 A11.out).mono ?_); (case side1 => exact Qsc (Kd.C_below HR1.out HB.out)); (case side2 => exact HC1.out); rintro e w134 ⟨v492, rfl, ho0, hb⟩; refine ⟨_, rfl, ?_⟩; have n0_ := Aside0.mk (Kd.R_elder' (Qro HO472.out) (Kd.R_base ho0) hb); have n1_ := Aside0.mk (Kd.R_elder' (Qro HO477.out) (Kd.R_base ho0) hb); have n2_ := Aside0.mk (Kd.R_elder' (Qro HO481.out) (Kd.R_base ho0) hb); have n3_ := Aside0.mk (Kd.R_elder' (Qro HO485.out) (Kd.R_base ho0) hb); have n4_ := Aside0.mk (Kd.R_elder' (Qro HO490.out) (Kd.R_base ho0) hb); have n5_ := Aside0.mk (Kd.R_lower (Kd.R_new' (Kd.R_new' (Kd.R_new' (Kd.R_new' (Kd.R_new' ho0 (Kd.R_lt (Qro HO472.out))) (Kd.R_lt (Qro HO477.out))) (Kd.R_lt (Qro HO481.out))) (Kd.R_lt (Qro HO485.out))) (Kd.R_lt (Qro HO490.out))) (below_size (Qaw))); have n6_ := Aside0.mk (below_step (Qaw) hb); clear HO472; clear HO477; clear HO481; clear HO485; clear HO490; clear HB; have HO472 := n0_; have HO477 := n1_; have HO481 := n2_; have HO485 := n3_; have HO490 := n4_; have HO493 := n5_; have HB := n6_; clear n0_ n1_ n2_ n3_ n4_ n5_ n6_; (try clear hb); (try clear hb2); (try clear hk); (try clear hi); (try clear ho0); obtain ⟨Ao135, co135, eo135⟩ := Kd.R_slice HO490.out; subst eo135; obtain ⟨Ao136, co136, eo136⟩ := Kd.R_slice HO493.out; subst eo136) | ((with_reducible refine gate_callee (f := 37) rfl ?_); refine goesL_ (some 48) rfl rfl Tryd.func37 (by kernel_rfl) rfl #[.slice Ao135 t488.length co135, .slice Ao136 t491.length co136] rfl (Qls) ?_; (with_reducible refine (width_Along.calls (hGL := (Qlg)) k _ _ t488 _ _ t491 t494 t495 _ ?side1 ?side2 ?side3 ?side4 A12.out).mono ?_); (case side1 => exact Qsc (Kd.R_reads' HO490.out).2.2); (case side2 => exact (Kd.R_reads' HO490.out).2.1); (case side3 => exact Qsc (Kd.R_reads' HO493.out).2.2); (case side4 => exact (Kd.R_reads' HO493.out).2.1); rintro e w137 ⟨rfl, hb⟩; refine ⟨_, rfl, ?_⟩; have n0_ := Aside0.mk (Kd.R_below (Qro HO472.out) hb); have n1_ := Aside0.mk (Kd.R_below (Qro HO477.out) hb); have n2_ := Aside0.mk (Kd.R_below (Qro HO481.out) hb); have n3_ := Aside0.mk (Kd.R_below (Qro HO485.out) hb); have n4_ := Aside0.mk (Kd.R_below (Qro HO490.out) hb); have n5_ := Aside0.mk (Kd.R_below (Qro HO493.out) hb); have n6_ := Aside0.mk (below_step (Qaw) hb); clear HO472; clear HO477; clear HO481; clear HO485; clear HO490; clear HO493; clear HB; have HO472 := n0_; have HO477 := n1_; have HO481 := n2_; have HO485 := n3_; have HO490 := n4_; have HO493 := n5_; have HB := n6_; clear n0_ n1_ n2_ n3_ n4_ n5_ n6_; (try clear hb); (try clear hb2); (try clear hk); (try clear hi)) | (go_at_call 20; (with_reducible refine (lampblacklaw02_awake.calls (hGL := (Qlg)) k  t501 _ A122.out).mono ?_); rintro e w138 ⟨rfl, hb⟩; have n0_ := Aside0.mk (Kd.R_below (Qro HO472.out) hb); have n1_ := Aside0.mk (Kd.R_below (Qro HO477.out) hb); have n2_ := Aside0.mk (Kd.R_below (Qro HO481.out) hb); have n3_ := Aside0.mk (Kd.R_below (Qro HO485.out) hb); have n4_ := Aside0.mk (Kd.R_below (Qro HO490.out) hb); have n5_ := Aside0.mk (Kd.R_below (Qro HO493.out) hb); have n6_ := Aside0.mk (below_step (Qaw) hb); clear HO472; clear HO477; clear HO481; clear HO485; clear HO490; clear HO493; clear HB; have HO472 := n0_; have HO477 := n1_; have HO481 := n2_; have HO485 := n3_; have HO490 := n4_; have HO493 := n5_; have HB := n6_; clear n0_ n1_ n2_ n3_ n4_ n5_ n6_; (try clear hb); (try clear hb2); (try clear hk); (try clear hi)))
        go_ret
        exact ⟨by first | rfl | (simp [errW_none, errW_some] <;> rfl) | (simp [*, errW_none, errW_some] <;> rfl), by repeat (first | (with_reducible first | exact HB.out | apply below_alloc | apply pw_below_drewN | apply below_drew1) | exact HB.out)⟩
       ·rw [if_neg c121] at H
        have c121b0 : decide (t473 < t494) = false := decide_eq_false c121
        clear c121
        obtain rfl := Option.some.inj H
        go_enter Tryd.func10, Tryd.ntmps10
        go_wp2_with (first | ((with_reducible refine gate_callee (f := 19) rfl ?_); refine goesL_ (some 15) rfl rfl Tryd.func19 (by kernel_rfl) rfl #[.slice A0 l0.length c0] rfl (Qls) ?_; (with_reducible refine (lampblacklaw02_Few.calls _ _ l0 t470 _ ?side1 ?side2 A3.out).mono ?_); (case side1 => exact Qsc HR0.out); (case side2 => exact HC0.out); rintro e w139 ⟨v471, rfl, ho0, hb⟩; refine ⟨_, rfl, ?_⟩; have n0_ := Aside0.mk (Kd.R_lower ho0 (below_size (Qaw))); have n1_ := Aside0.mk (below_step (Qaw) hb); clear HB; have HO472 := n0_; have HB := n1_; clear n0_ n1_; (try clear hb); (try clear hb2); (try clear hk); (try clear hi); (try clear ho0); obtain ⟨Ao140, co140, eo140⟩ := Kd.R_slice HO472.out; subst eo140) | ((with_reducible refine gate_callee (f := 18) rfl ?_); refine goesL_ (some 16) rfl rfl Tryd.func18 (by kernel_rfl) rfl #[.slice Ao140 t470.length co140] rfl (Qls) ?_; (with_reducible refine (width_Width.calls (hGL := (Qlg)) k _ _ t470 t473 t474 _ ?side1 ?side2 A4.out).mono ?_); (case side1 => exact Qsc (Kd.R_reads' HO472.out).2.2); (case side2 => exact (Kd.R_reads' HO472.out).2.1); rintro e w141 ⟨rfl, hb⟩; refine ⟨_, rfl, ?_⟩; have n0_ := Aside0.mk (Kd.R_below (Qro HO472.out) hb); have n1_ := Aside0.mk (below_step (Qaw) hb); clear HO472; clear HB; have HO472 := n0_; have HB := n1_; clear n0_ n1_; (try clear hb); (try clear hb2); (try clear hk); (try clear hi)) | ((with_reducible refine gate_callee (f := 19) rfl ?_); refine goesL_ (some 21) rfl rfl Tryd.func19 (by kernel_rfl) rfl #[.slice A0 l0.length c0] rfl (Qls) ?_; (with_reducible refine (lampblacklaw02_Few.calls _ _ l0 t475 _ ?side1 ?side2 A5.out).mono ?_); (case side1 => exact Qsc (Kd.C_below HR0.out HB.out)); (case side2 => exact HC0.out); rintro e w142 ⟨v476, rfl, ho0, hb⟩; refine ⟨_, rfl, ?_⟩; have n0_ := Aside0.mk (Kd.R_elder' (Qro HO472.out) (Kd.R_base ho0) hb); have n1_ := Aside0.mk (Kd.R_lower (Kd.R_new' ho0 (Kd.R_lt (Qro HO472.out))) (below_size (Qaw))); have n2_ := Aside0.mk (below_step (Qaw) hb); clear HO472; clear HB; have HO472 := n0_; have HO477 := n1_; have HB := n2_; clear n0_ n1_ n2_; (try clear hb); (try clear hb2); (try clear hk); (try clear hi); (try clear ho0); obtain ⟨Ao143, co143, eo143⟩ := Kd.R_slice HO477.out; subst eo143) | ((with_reducible refine gate_callee (f := 36) rfl ?_); refine goesL_ (some 22) rfl rfl Tryd.func36 (by kernel_rfl) rfl #[.slice Ao143 t475.length co143] rfl (Qls) ?_; (with_reducible refine (width_Order.calls (hGL := (Qlg)) k _ _ t475 t478 t479 _ ?side1 ?side2 A6.out).mono ?_); (case side1 => exact Qsc (Kd.R_reads' HO477.out).2.2); (case side2 => exact (Kd.R_reads' HO477.out).2.1); rintro e w144 ⟨v480, rfl, ho0, hb⟩; refine ⟨_, rfl, ?_⟩; have n0_ := Aside0.mk (Kd.R_elder' (Qro HO472.out) (Kd.R_base ho0) hb); have n1_ := Aside0.mk (Kd.R_elder' (Qro HO477.out) (Kd.R_base ho0) hb); have n2_ := Aside0.mk (Kd.R_lower (Kd.R_new' (Kd.R_new' ho0 (Kd.R_lt (Qro HO472.out))) (Kd.R_lt (Qro HO477.out))) (below_size (Qaw))); have n3_ := Aside0.mk (below_step (Qaw) hb); clear HO472; clear HO477; clear HB; have HO472 := n0_; have HO477 := n1_; have HO481 := n2_; have HB := n3_; clear n0_ n1_ n2_ n3_; (try clear hb); (try clear hb2); (try clear hk); (try clear hi); (try clear ho0)) | ((with_reducible refine gate_callee (f := 19) rfl ?_); refine goesL_ (some 38) rfl rfl Tryd.func19 (by kernel_rfl) rfl #[.slice A0 l0.length c0] rfl (Qls) ?_; (with_reducible refine (lampblacklaw02_Few.calls _ _ l0 t483 _ ?side1 ?side2 A8.out).mono ?_); (case side1 => exact Qsc (Kd.C_below HR0.out HB.out)); (case side2 => exact HC0.out); rintro e w145 ⟨v484, rfl, ho0, hb⟩; refine ⟨_, rfl, ?_⟩; have n0_ := Aside0.mk (Kd.R_elder' (Qro HO472.out) (Kd.R_base ho0) hb); have n1_ := Aside0.mk (Kd.R_elder' (Qro HO477.out) (Kd.R_base ho0) hb); have n2_ := Aside0.mk (Kd.R_elder' (Qro HO481.out) (Kd.R_base ho0) hb); have n3_ := Aside0.mk (Kd.R_lower (Kd.R_new' (Kd.R_new' (Kd.R_new' ho0 (Kd.R_lt (Qro HO472.out))) (Kd.R_lt (Qro HO477.out))) (Kd.R_lt (Qro HO481.out))) (below_size (Qaw))); have n4_ := Aside0.mk (below_step (Qaw) hb); clear HO472; clear HO477; clear HO481; clear HB; have HO472 := n0_; have HO477 := n1_; have HO481 := n2_; have HO485 := n3_; have HB := n4_; clear n0_ n1_ n2_ n3_ n4_; (try clear hb); (try clear hb2); (try clear hk); (try clear hi); (try clear ho0); obtain ⟨Ao146, co146, eo146⟩ := Kd.R_slice HO485.out; subst eo146; obtain ⟨Ao147, co147, eo147⟩ := Kd.R_slice HO481.out; subst eo147) | ((with_reducible refine gate_callee (f := 37) rfl ?_); refine goesL_ (some 40) rfl rfl Tryd.func37 (by kernel_rfl) rfl #[.slice Ao146 t483.length co146, .slice Ao147 t478.length co147] rfl (Qls) ?_; (with_reducible refine (width_Along.calls (hGL := (Qlg)) k _ _ t483 _ _ t478 t486 t487 _ ?side1 ?side2 ?side3 ?side4 A9.out).mono ?_); (case side1 => exact Qsc (Kd.R_reads' HO485.out).2.2); (case side2 => exact (Kd.R_reads' HO485.out).2.1); (case side3 => exact Qsc (Kd.R_reads' HO481.out).2.2); (case side4 => exact (Kd.R_reads' HO481.out).2.1); rintro e w148 ⟨rfl, hb⟩; refine ⟨_, rfl, ?_⟩; have n0_ := Aside0.mk (Kd.R_below (Qro HO472.out) hb); have n1_ := Aside0.mk (Kd.R_below (Qro HO477.out) hb); have n2_ := Aside0.mk (Kd.R_below (Qro HO481.out) hb); have n3_ := Aside0.mk (Kd.R_below (Qro HO485.out) hb); have n4_ := Aside0.mk (below_step (Qaw) hb); clear HO472; clear HO477; clear HO481; clear HO485; clear HB; have HO472 := n0_; have HO477 := n1_; have HO481 := n2_; have HO485 := n3_; have HB := n4_; clear n0_ n1_ n2_ n3_ n4_; (try clear hb); (try clear hb2); (try clear hk); (try clear hi)) | ((with_reducible refine gate_callee (f := 19) rfl ?_); refine goesL_ (some 45) rfl rfl Tryd.func19 (by kernel_rfl) rfl #[.slice A0 l0.length c0] rfl (Qls) ?_; (with_reducible refine (lampblacklaw02_Few.calls _ _ l0 t488 _ ?side1 ?side2 A10.out).mono ?_); (case side1 => exact Qsc (Kd.C_below HR0.out HB.out)); (case side2 => exact HC0.out); rintro e w149 ⟨v489, rfl, ho0, hb⟩; refine ⟨_, rfl, ?_⟩; have n0_ := Aside0.mk (Kd.R_elder' (Qro HO472.out) (Kd.R_base ho0) hb); have n1_ := Aside0.mk (Kd.R_elder' (Qro HO477.out) (Kd.R_base ho0) hb); have n2_ := Aside0.mk (Kd.R_elder' (Qro HO481.out) (Kd.R_base ho0) hb); have n3_ := Aside0.mk (Kd.R_elder' (Qro HO485.out) (Kd.R_base ho0) hb); have n4_ := Aside0.mk (Kd.R_lower (Kd.R_new' (Kd.R_new' (Kd.R_new' (Kd.R_new' ho0 (Kd.R_lt (Qro HO472.out))) (Kd.R_lt (Qro HO477.out))) (Kd.R_lt (Qro HO481.out))) (Kd.R_lt (Qro HO485.out))) (below_size (Qaw))); have n5_ := Aside0.mk (below_step (Qaw) hb); clear HO472; clear HO477; clear HO481; clear HO485; clear HB; have HO472 := n0_; have HO477 := n1_; have HO481 := n2_; have HO485 := n3_; have HO490 := n4_; have HB := n5_; clear n0_ n1_ n2_ n3_ n4_ n5_; (try clear hb); (try clear hb2); (try clear hk); (try clear hi); (try clear ho0)) | ((with_reducible refine gate_callee (f := 31) rfl ?_); refine goesL_ (some 47) rfl rfl Tryd.func31 (by kernel_rfl) rfl #[.slice A1 l1.length c1] rfl (Qls) ?_; (with_reducible refine (lampblacklaw02_list.calls _ _ l1 t491 _ ?side1 ?side2 A11.out).mono ?_); (case side1 => exact Qsc (Kd.C_below HR1.out HB.out)); (case side2 => exact HC1.out); rintro e w150 ⟨v492, rfl, ho0, hb⟩; refine ⟨_, rfl, ?_⟩; have n0_ := Aside0.mk (Kd.R_elder' (Qro HO472.out) (Kd.R_base ho0) hb); have n1_ := Aside0.mk (Kd.R_elder' (Qro HO477.out) (Kd.R_base ho0) hb); have n2_ := Aside0.mk (Kd.R_elder' (Qro HO481.out) (Kd.R_base ho0) hb); have n3_ := Aside0.mk (Kd.R_elder' (Qro HO485.out) (Kd.R_base ho0) hb); have n4_ := Aside0.mk (Kd.R_elder' (Qro HO490.out) (Kd.R_base ho0) hb); have n5_ := Aside0.mk (Kd.R_lower (Kd.R_new' (Kd.R_new' (Kd.R_new' (Kd.R_new' (Kd.R_new' ho0 (Kd.R_lt (Qro HO472.out))) (Kd.R_lt (Qro HO477.out))) (Kd.R_lt (Qro HO481.out))) (Kd.R_lt (Qro HO485.out))) (Kd.R_lt (Qro HO490.out))) (below_size (Qaw))); have n6_ := Aside0.mk (below_step (Qaw) hb); clear HO472; clear HO477; clear HO481; clear HO485; clear HO490; clear HB; have HO472 := n0_; have HO477 := n1_; have HO481 := n2_; have HO485 := n3_; have HO490 := n4_; have HO493 := n5_; have HB := n6_; clear n0_ n1_ n2_ n3_ n4_ n5_ n6_; (try clear hb); (try clear hb2); (try clear hk); (try clear hi); (try clear ho0); obtain ⟨Ao151, co151, eo151⟩ := Kd.R_slice HO490.out; subst eo151; obtain ⟨Ao152, co152, eo152⟩ := Kd.R_slice HO493.out; subst eo152) | ((with_reducible refine gate_callee (f := 37) rfl ?_); refine goesL_ (some 48) rfl rfl Tryd.func37 (by kernel_rfl) rfl #[.slice Ao151 t488.length co151, .slice Ao152 t491.length co152] rfl (Qls) ?_; (with_reducible refine (width_Along.calls (hGL := (Qlg)) k _ _ t488 _ _ t491 t494 t495 _ ?side1 ?side2 ?side3 ?side4 A12.out).mono ?_); (case side1 => exact Qsc (Kd.R_reads' HO490.out).2.2); (case side2 => exact (Kd.R_reads' HO490.out).2.1); (case side3 => exact Qsc (Kd.R_reads' HO493.out).2.2); (case side4 => exact (Kd.R_reads' HO493.out).2.1); rintro e w153 ⟨rfl, hb⟩; refine ⟨_, rfl, ?_⟩; have n0_ := Aside0.mk (Kd.R_below (Qro HO472.out) hb); have n1_ := Aside0.mk (Kd.R_below (Qro HO477.out) hb); have n2_ := Aside0.mk (Kd.R_below (Qro HO481.out) hb); have n3_ := Aside0.mk (Kd.R_below (Qro HO485.out) hb); have n4_ := Aside0.mk (Kd.R_below (Qro HO490.out) hb); have n5_ := Aside0.mk (Kd.R_below (Qro HO493.out) hb); have n6_ := Aside0.mk (below_step (Qaw) hb); clear HO472; clear HO477; clear HO481; clear HO485; clear HO490; clear HO493; clear HB; have HO472 := n0_; have HO477 := n1_; have HO481 := n2_; have HO485 := n3_; have HO490 := n4_; have HO493 := n5_; have HB := n6_; clear n0_ n1_ n2_ n3_ n4_ n5_ n6_; (try clear hb); (try clear hb2); (try clear hk); (try clear hi)))
        go_ret
        exact ⟨by first | rfl | (simp [errW_none, errW_some] <;> rfl) | (simp [*, errW_none, errW_some] <;> rfl), by repeat (first | (with_reducible first | exact HB.out | apply below_alloc | apply pw_below_drewN | apply below_drew1) | exact HB.out)⟩
    ·rw [if_neg c15] at H
     have c15b0 : (t486 == t473) = false := beq_eq_false_iff_ne.mpr c15
     have c15b1 : (t486 != t473) = true := bne_iff_ne.mpr c15
     obtain rfl := Option.some.inj H
     go_enter Tryd.func10, Tryd.ntmps10
     go_wp2_with (first | ((with_reducible refine gate_callee (f := 19) rfl ?_); refine goesL_ (some 15) rfl rfl Tryd.func19 (by kernel_rfl) rfl #[.slice A0 l0.length c0] rfl (Qls) ?_; (with_reducible refine (lampblacklaw02_Few.calls _ _ l0 t470 _ ?side1 ?side2 A3.out).mono ?_); (case side1 => exact Qsc HR0.out); (case side2 => exact HC0.out); rintro e w154 ⟨v471, rfl, ho0, hb⟩; refine ⟨_, rfl, ?_⟩; have n0_ := Aside0.mk (Kd.R_lower ho0 (below_size (Qaw))); have n1_ := Aside0.mk (below_step (Qaw) hb); clear HB; have HO472 := n0_; have HB := n1_; clear n0_ n1_; (try clear hb); (try clear hb2); (try clear hk); (try clear hi); (try clear ho0); obtain ⟨Ao155, co155, eo155⟩ := Kd.R_slice HO472.out; subst eo155) | ((with_reducible refine gate_callee (f := 18) rfl ?_); refine goesL_ (some 16) rfl rfl Tryd.func18 (by kernel_rfl) rfl #[.slice Ao155 t470.length co155] rfl (Qls) ?_; (with_reducible refine (width_Width.calls (hGL := (Qlg)) k _ _ t470 t473 t474 _ ?side1 ?side2 A4.out).mono ?_); (case side1 => exact Qsc (Kd.R_reads' HO472.out).2.2); (case side2 => exact (Kd.R_reads' HO472.out).2.1); rintro e w156 ⟨rfl, hb⟩; refine ⟨_, rfl, ?_⟩; have n0_ := Aside0.mk (Kd.R_below (Qro HO472.out) hb); have n1_ := Aside0.mk (below_step (Qaw) hb); clear HO472; clear HB; have HO472 := n0_; have HB := n1_; clear n0_ n1_; (try clear hb); (try clear hb2); (try clear hk); (try clear hi)) | ((with_reducible refine gate_callee (f := 19) rfl ?_); refine goesL_ (some 21) rfl rfl Tryd.func19 (by kernel_rfl) rfl #[.slice A0 l0.length c0] rfl (Qls) ?_; (with_reducible refine (lampblacklaw02_Few.calls _ _ l0 t475 _ ?side1 ?side2 A5.out).mono ?_); (case side1 => exact Qsc (Kd.C_below HR0.out HB.out)); (case side2 => exact HC0.out); rintro e w157 ⟨v476, rfl, ho0, hb⟩; refine ⟨_, rfl, ?_⟩; have n0_ := Aside0.mk (Kd.R_elder' (Qro HO472.out) (Kd.R_base ho0) hb); have n1_ := Aside0.mk (Kd.R_lower (Kd.R_new' ho0 (Kd.R_lt (Qro HO472.out))) (below_size (Qaw))); have n2_ := Aside0.mk (below_step (Qaw) hb); clear HO472; clear HB; have HO472 := n0_; have HO477 := n1_; have HB := n2_; clear n0_ n1_ n2_; (try clear hb); (try clear hb2); (try clear hk); (try clear hi); (try clear ho0); obtain ⟨Ao158, co158, eo158⟩ := Kd.R_slice HO477.out; subst eo158) | ((with_reducible refine gate_callee (f := 36) rfl ?_); refine goesL_ (some 22) rfl rfl Tryd.func36 (by kernel_rfl) rfl #[.slice Ao158 t475.length co158] rfl (Qls) ?_; (with_reducible refine (width_Order.calls (hGL := (Qlg)) k _ _ t475 t478 t479 _ ?side1 ?side2 A6.out).mono ?_); (case side1 => exact Qsc (Kd.R_reads' HO477.out).2.2); (case side2 => exact (Kd.R_reads' HO477.out).2.1); rintro e w159 ⟨v480, rfl, ho0, hb⟩; refine ⟨_, rfl, ?_⟩; have n0_ := Aside0.mk (Kd.R_elder' (Qro HO472.out) (Kd.R_base ho0) hb); have n1_ := Aside0.mk (Kd.R_elder' (Qro HO477.out) (Kd.R_base ho0) hb); have n2_ := Aside0.mk (Kd.R_lower (Kd.R_new' (Kd.R_new' ho0 (Kd.R_lt (Qro HO472.out))) (Kd.R_lt (Qro HO477.out))) (below_size (Qaw))); have n3_ := Aside0.mk (below_step (Qaw) hb); clear HO472; clear HO477; clear HB; have HO472 := n0_; have HO477 := n1_; have HO481 := n2_; have HB := n3_; clear n0_ n1_ n2_ n3_; (try clear hb); (try clear hb2); (try clear hk); (try clear hi); (try clear ho0)) | ((with_reducible refine gate_callee (f := 19) rfl ?_); refine goesL_ (some 38) rfl rfl Tryd.func19 (by kernel_rfl) rfl #[.slice A0 l0.length c0] rfl (Qls) ?_; (with_reducible refine (lampblacklaw02_Few.calls _ _ l0 t483 _ ?side1 ?side2 A8.out).mono ?_); (case side1 => exact Qsc (Kd.C_below HR0.out HB.out)); (case side2 => exact HC0.out); rintro e w160 ⟨v484, rfl, ho0, hb⟩; refine ⟨_, rfl, ?_⟩; have n0_ := Aside0.mk (Kd.R_elder' (Qro HO472.out) (Kd.R_base ho0) hb); have n1_ := Aside0.mk (Kd.R_elder' (Qro HO477.out) (Kd.R_base ho0) hb); have n2_ := Aside0.mk (Kd.R_elder' (Qro HO481.out) (Kd.R_base ho0) hb); have n3_ := Aside0.mk (Kd.R_lower (Kd.R_new' (Kd.R_new' (Kd.R_new' ho0 (Kd.R_lt (Qro HO472.out))) (Kd.R_lt (Qro HO477.out))) (Kd.R_lt (Qro HO481.out))) (below_size (Qaw))); have n4_ := Aside0.mk (below_step (Qaw) hb); clear HO472; clear HO477; clear HO481; clear HB; have HO472 := n0_; have HO477 := n1_; have HO481 := n2_; have HO485 := n3_; have HB := n4_; clear n0_ n1_ n2_ n3_ n4_; (try clear hb); (try clear hb2); (try clear hk); (try clear hi); (try clear ho0); obtain ⟨Ao161, co161, eo161⟩ := Kd.R_slice HO485.out; subst eo161; obtain ⟨Ao162, co162, eo162⟩ := Kd.R_slice HO481.out; subst eo162) | ((with_reducible refine gate_callee (f := 37) rfl ?_); refine goesL_ (some 40) rfl rfl Tryd.func37 (by kernel_rfl) rfl #[.slice Ao161 t483.length co161, .slice Ao162 t478.length co162] rfl (Qls) ?_; (with_reducible refine (width_Along.calls (hGL := (Qlg)) k _ _ t483 _ _ t478 t486 t487 _ ?side1 ?side2 ?side3 ?side4 A9.out).mono ?_); (case side1 => exact Qsc (Kd.R_reads' HO485.out).2.2); (case side2 => exact (Kd.R_reads' HO485.out).2.1); (case side3 => exact Qsc (Kd.R_reads' HO481.out).2.2); (case side4 => exact (Kd.R_reads' HO481.out).2.1); rintro e w163 ⟨rfl, hb⟩; refine ⟨_, rfl, ?_⟩; have n0_ := Aside0.mk (Kd.R_below (Qro HO472.out) hb); have n1_ := Aside0.mk (Kd.R_below (Qro HO477.out) hb); have n2_ := Aside0.mk (Kd.R_below (Qro HO481.out) hb); have n3_ := Aside0.mk (Kd.R_below (Qro HO485.out) hb); have n4_ := Aside0.mk (below_step (Qaw) hb); clear HO472; clear HO477; clear HO481; clear HO485; clear HB; have HO472 := n0_; have HO477 := n1_; have HO481 := n2_; have HO485 := n3_; have HB := n4_; clear n0_ n1_ n2_ n3_ n4_; (try clear hb); (try clear hb2); (try clear hk); (try clear hi)) | ((with_reducible refine gate_callee (f := 19) rfl ?_); refine goesL_ (some 45) rfl rfl Tryd.func19 (by kernel_rfl) rfl #[.slice A0 l0.length c0] rfl (Qls) ?_; (with_reducible refine (lampblacklaw02_Few.calls _ _ l0 t488 _ ?side1 ?side2 A10.out).mono ?_); (case side1 => exact Qsc (Kd.C_below HR0.out HB.out)); (case side2 => exact HC0.out); rintro e w164 ⟨v489, rfl, ho0, hb⟩; refine ⟨_, rfl, ?_⟩; have n0_ := Aside0.mk (Kd.R_elder' (Qro HO472.out) (Kd.R_base ho0) hb); have n1_ := Aside0.mk (Kd.R_elder' (Qro HO477.out) (Kd.R_base ho0) hb); have n2_ := Aside0.mk (Kd.R_elder' (Qro HO481.out) (Kd.R_base ho0) hb); have n3_ := Aside0.mk (Kd.R_elder' (Qro HO485.out) (Kd.R_base ho0) hb); have n4_ := Aside0.mk (Kd.R_lower (Kd.R_new' (Kd.R_new' (Kd.R_new' (Kd.R_new' ho0 (Kd.R_lt (Qro HO472.out))) (Kd.R_lt (Qro HO477.out))) (Kd.R_lt (Qro HO481.out))) (Kd.R_lt (Qro HO485.out))) (below_size (Qaw))); have n5_ := Aside0.mk (below_step (Qaw) hb); clear HO472; clear HO477; clear HO481; clear HO485; clear HB; have HO472 := n0_; have HO477 := n1_; have HO481 := n2_; have HO485 := n3_; have HO490 := n4_; have HB := n5_; clear n0_ n1_ n2_ n3_ n4_ n5_; (try clear hb); (try clear hb2); (try clear hk); (try clear hi); (try clear ho0)) | ((with_reducible refine gate_callee (f := 31) rfl ?_); refine goesL_ (some 47) rfl rfl Tryd.func31 (by kernel_rfl) rfl #[.slice A1 l1.length c1] rfl (Qls) ?_; (with_reducible refine (lampblacklaw02_list.calls _ _ l1 t491 _ ?side1 ?side2 A11.out).mono ?_); (case side1 => exact Qsc (Kd.C_below HR1.out HB.out)); (case side2 => exact HC1.out); rintro e w165 ⟨v492, rfl, ho0, hb⟩; refine ⟨_, rfl, ?_⟩; have n0_ := Aside0.mk (Kd.R_elder' (Qro HO472.out) (Kd.R_base ho0) hb); have n1_ := Aside0.mk (Kd.R_elder' (Qro HO477.out) (Kd.R_base ho0) hb); have n2_ := Aside0.mk (Kd.R_elder' (Qro HO481.out) (Kd.R_base ho0) hb); have n3_ := Aside0.mk (Kd.R_elder' (Qro HO485.out) (Kd.R_base ho0) hb); have n4_ := Aside0.mk (Kd.R_elder' (Qro HO490.out) (Kd.R_base ho0) hb); have n5_ := Aside0.mk (Kd.R_lower (Kd.R_new' (Kd.R_new' (Kd.R_new' (Kd.R_new' (Kd.R_new' ho0 (Kd.R_lt (Qro HO472.out))) (Kd.R_lt (Qro HO477.out))) (Kd.R_lt (Qro HO481.out))) (Kd.R_lt (Qro HO485.out))) (Kd.R_lt (Qro HO490.out))) (below_size (Qaw))); have n6_ := Aside0.mk (below_step (Qaw) hb); clear HO472; clear HO477; clear HO481; clear HO485; clear HO490; clear HB; have HO472 := n0_; have HO477 := n1_; have HO481 := n2_; have HO485 := n3_; have HO490 := n4_; have HO493 := n5_; have HB := n6_; clear n0_ n1_ n2_ n3_ n4_ n5_ n6_; (try clear hb); (try clear hb2); (try clear hk); (try clear hi); (try clear ho0); obtain ⟨Ao166, co166, eo166⟩ := Kd.R_slice HO490.out; subst eo166; obtain ⟨Ao167, co167, eo167⟩ := Kd.R_slice HO493.out; subst eo167) | ((with_reducible refine gate_callee (f := 37) rfl ?_); refine goesL_ (some 48) rfl rfl Tryd.func37 (by kernel_rfl) rfl #[.slice Ao166 t488.length co166, .slice Ao167 t491.length co167] rfl (Qls) ?_; (with_reducible refine (width_Along.calls (hGL := (Qlg)) k _ _ t488 _ _ t491 t494 t495 _ ?side1 ?side2 ?side3 ?side4 A12.out).mono ?_); (case side1 => exact Qsc (Kd.R_reads' HO490.out).2.2); (case side2 => exact (Kd.R_reads' HO490.out).2.1); (case side3 => exact Qsc (Kd.R_reads' HO493.out).2.2); (case side4 => exact (Kd.R_reads' HO493.out).2.1); rintro e w168 ⟨rfl, hb⟩; refine ⟨_, rfl, ?_⟩; have n0_ := Aside0.mk (Kd.R_below (Qro HO472.out) hb); have n1_ := Aside0.mk (Kd.R_below (Qro HO477.out) hb); have n2_ := Aside0.mk (Kd.R_below (Qro HO481.out) hb); have n3_ := Aside0.mk (Kd.R_below (Qro HO485.out) hb); have n4_ := Aside0.mk (Kd.R_below (Qro HO490.out) hb); have n5_ := Aside0.mk (Kd.R_below (Qro HO493.out) hb); have n6_ := Aside0.mk (below_step (Qaw) hb); clear HO472; clear HO477; clear HO481; clear HO485; clear HO490; clear HO493; clear HB; have HO472 := n0_; have HO477 := n1_; have HO481 := n2_; have HO485 := n3_; have HO490 := n4_; have HO493 := n5_; have HB := n6_; clear n0_ n1_ n2_ n3_ n4_ n5_ n6_; (try clear hb); (try clear hb2); (try clear hk); (try clear hi)))
     go_ret
     exact ⟨by first | rfl | (simp [errW_none, errW_some] <;> rfl) | (simp [*, errW_none, errW_some] <;> rfl), by repeat (first | (with_reducible first | exact HB.out | apply below_alloc | apply pw_below_drewN | apply below_drew1) | exact HB.out)⟩
   ·rw [if_neg c14] at H
    have c14b0 : (t487 == 0) = false := beq_eq_false_iff_ne.mpr c14
    have c14b1 : (t487 != 0) = true := bne_iff_ne.mpr c14
    obtain rfl := Option.some.inj H
    go_enter Tryd.func10, Tryd.ntmps10
    go_wp2_with (first | ((with_reducible refine gate_callee (f := 19) rfl ?_); refine goesL_ (some 15) rfl rfl Tryd.func19 (by kernel_rfl) rfl #[.slice A0 l0.length c0] rfl (Qls) ?_; (with_reducible refine (lampblacklaw02_Few.calls _ _ l0 t470 _ ?side1 ?side2 A3.out).mono ?_); (case side1 => exact Qsc HR0.out); (case side2 => exact HC0.out); rintro e w169 ⟨v471, rfl, ho0, hb⟩; refine ⟨_, rfl, ?_⟩; have n0_ := Aside0.mk (Kd.R_lower ho0 (below_size (Qaw))); have n1_ := Aside0.mk (below_step (Qaw) hb); clear HB; have HO472 := n0_; have HB := n1_; clear n0_ n1_; (try clear hb); (try clear hb2); (try clear hk); (try clear hi); (try clear ho0); obtain ⟨Ao170, co170, eo170⟩ := Kd.R_slice HO472.out; subst eo170) | ((with_reducible refine gate_callee (f := 18) rfl ?_); refine goesL_ (some 16) rfl rfl Tryd.func18 (by kernel_rfl) rfl #[.slice Ao170 t470.length co170] rfl (Qls) ?_; (with_reducible refine (width_Width.calls (hGL := (Qlg)) k _ _ t470 t473 t474 _ ?side1 ?side2 A4.out).mono ?_); (case side1 => exact Qsc (Kd.R_reads' HO472.out).2.2); (case side2 => exact (Kd.R_reads' HO472.out).2.1); rintro e w171 ⟨rfl, hb⟩; refine ⟨_, rfl, ?_⟩; have n0_ := Aside0.mk (Kd.R_below (Qro HO472.out) hb); have n1_ := Aside0.mk (below_step (Qaw) hb); clear HO472; clear HB; have HO472 := n0_; have HB := n1_; clear n0_ n1_; (try clear hb); (try clear hb2); (try clear hk); (try clear hi)) | ((with_reducible refine gate_callee (f := 19) rfl ?_); refine goesL_ (some 21) rfl rfl Tryd.func19 (by kernel_rfl) rfl #[.slice A0 l0.length c0] rfl (Qls) ?_; (with_reducible refine (lampblacklaw02_Few.calls _ _ l0 t475 _ ?side1 ?side2 A5.out).mono ?_); (case side1 => exact Qsc (Kd.C_below HR0.out HB.out)); (case side2 => exact HC0.out); rintro e w172 ⟨v476, rfl, ho0, hb⟩; refine ⟨_, rfl, ?_⟩; have n0_ := Aside0.mk (Kd.R_elder' (Qro HO472.out) (Kd.R_base ho0) hb); have n1_ := Aside0.mk (Kd.R_lower (Kd.R_new' ho0 (Kd.R_lt (Qro HO472.out))) (below_size (Qaw))); have n2_ := Aside0.mk (below_step (Qaw) hb); clear HO472; clear HB; have HO472 := n0_; have HO477 := n1_; have HB := n2_; clear n0_ n1_ n2_; (try clear hb); (try clear hb2); (try clear hk); (try clear hi); (try clear ho0); obtain ⟨Ao173, co173, eo173⟩ := Kd.R_slice HO477.out; subst eo173) | ((with_reducible refine gate_callee (f := 36) rfl ?_); refine goesL_ (some 22) rfl rfl Tryd.func36 (by kernel_rfl) rfl #[.slice Ao173 t475.length co173] rfl (Qls) ?_; (with_reducible refine (width_Order.calls (hGL := (Qlg)) k _ _ t475 t478 t479 _ ?side1 ?side2 A6.out).mono ?_); (case side1 => exact Qsc (Kd.R_reads' HO477.out).2.2); (case side2 => exact (Kd.R_reads' HO477.out).2.1); rintro e w174 ⟨v480, rfl, ho0, hb⟩; refine ⟨_, rfl, ?_⟩; have n0_ := Aside0.mk (Kd.R_elder' (Qro HO472.out) (Kd.R_base ho0) hb); have n1_ := Aside0.mk (Kd.R_elder' (Qro HO477.out) (Kd.R_base ho0) hb); have n2_ := Aside0.mk (Kd.R_lower (Kd.R_new' (Kd.R_new' ho0 (Kd.R_lt (Qro HO472.out))) (Kd.R_lt (Qro HO477.out))) (below_size (Qaw))); have n3_ := Aside0.mk (below_step (Qaw) hb); clear HO472; clear HO477; clear HB; have HO472 := n0_; have HO477 := n1_; have HO481 := n2_; have HB := n3_; clear n0_ n1_ n2_ n3_; (try clear hb); (try clear hb2); (try clear hk); (try clear hi); (try clear ho0)) | ((with_reducible refine gate_callee (f := 19) rfl ?_); refine goesL_ (some 38) rfl rfl Tryd.func19 (by kernel_rfl) rfl #[.slice A0 l0.length c0] rfl (Qls) ?_; (with_reducible refine (lampblacklaw02_Few.calls _ _ l0 t483 _ ?side1 ?side2 A8.out).mono ?_); (case side1 => exact Qsc (Kd.C_below HR0.out HB.out)); (case side2 => exact HC0.out); rintro e w175 ⟨v484, rfl, ho0, hb⟩; refine ⟨_, rfl, ?_⟩; have n0_ := Aside0.mk (Kd.R_elder' (Qro HO472.out) (Kd.R_base ho0) hb); have n1_ := Aside0.mk (Kd.R_elder' (Qro HO477.out) (Kd.R_base ho0) hb); have n2_ := Aside0.mk (Kd.R_elder' (Qro HO481.out) (Kd.R_base ho0) hb); have n3_ := Aside0.mk (Kd.R_lower (Kd.R_new' (Kd.R_new' (Kd.R_new' ho0 (Kd.R_lt (Qro HO472.out))) (Kd.R_lt (Qro HO477.out))) (Kd.R_lt (Qro HO481.out))) (below_size (Qaw))); have n4_ := Aside0.mk (below_step (Qaw) hb); clear HO472; clear HO477; clear HO481; clear HB; have HO472 := n0_; have HO477 := n1_; have HO481 := n2_; have HO485 := n3_; have HB := n4_; clear n0_ n1_ n2_ n3_ n4_; (try clear hb); (try clear hb2); (try clear hk); (try clear hi); (try clear ho0); obtain ⟨Ao176, co176, eo176⟩ := Kd.R_slice HO485.out; subst eo176; obtain ⟨Ao177, co177, eo177⟩ := Kd.R_slice HO481.out; subst eo177) | ((with_reducible refine gate_callee (f := 37) rfl ?_); refine goesL_ (some 40) rfl rfl Tryd.func37 (by kernel_rfl) rfl #[.slice Ao176 t483.length co176, .slice Ao177 t478.length co177] rfl (Qls) ?_; (with_reducible refine (width_Along.calls (hGL := (Qlg)) k _ _ t483 _ _ t478 t486 t487 _ ?side1 ?side2 ?side3 ?side4 A9.out).mono ?_); (case side1 => exact Qsc (Kd.R_reads' HO485.out).2.2); (case side2 => exact (Kd.R_reads' HO485.out).2.1); (case side3 => exact Qsc (Kd.R_reads' HO481.out).2.2); (case side4 => exact (Kd.R_reads' HO481.out).2.1); rintro e w178 ⟨rfl, hb⟩; refine ⟨_, rfl, ?_⟩; have n0_ := Aside0.mk (Kd.R_below (Qro HO472.out) hb); have n1_ := Aside0.mk (Kd.R_below (Qro HO477.out) hb); have n2_ := Aside0.mk (Kd.R_below (Qro HO481.out) hb); have n3_ := Aside0.mk (Kd.R_below (Qro HO485.out) hb); have n4_ := Aside0.mk (below_step (Qaw) hb); clear HO472; clear HO477; clear HO481; clear HO485; clear HB; have HO472 := n0_; have HO477 := n1_; have HO481 := n2_; have HO485 := n3_; have HB := n4_; clear n0_ n1_ n2_ n3_ n4_; (try clear hb); (try clear hb2); (try clear hk); (try clear hi)) | ((with_reducible refine gate_callee (f := 19) rfl ?_); refine goesL_ (some 45) rfl rfl Tryd.func19 (by kernel_rfl) rfl #[.slice A0 l0.length c0] rfl (Qls) ?_; (with_reducible refine (lampblacklaw02_Few.calls _ _ l0 t488 _ ?side1 ?side2 A10.out).mono ?_); (case side1 => exact Qsc (Kd.C_below HR0.out HB.out)); (case side2 => exact HC0.out); rintro e w179 ⟨v489, rfl, ho0, hb⟩; refine ⟨_, rfl, ?_⟩; have n0_ := Aside0.mk (Kd.R_elder' (Qro HO472.out) (Kd.R_base ho0) hb); have n1_ := Aside0.mk (Kd.R_elder' (Qro HO477.out) (Kd.R_base ho0) hb); have n2_ := Aside0.mk (Kd.R_elder' (Qro HO481.out) (Kd.R_base ho0) hb); have n3_ := Aside0.mk (Kd.R_elder' (Qro HO485.out) (Kd.R_base ho0) hb); have n4_ := Aside0.mk (Kd.R_lower (Kd.R_new' (Kd.R_new' (Kd.R_new' (Kd.R_new' ho0 (Kd.R_lt (Qro HO472.out))) (Kd.R_lt (Qro HO477.out))) (Kd.R_lt (Qro HO481.out))) (Kd.R_lt (Qro HO485.out))) (below_size (Qaw))); have n5_ := Aside0.mk (below_step (Qaw) hb); clear HO472; clear HO477; clear HO481; clear HO485; clear HB; have HO472 := n0_; have HO477 := n1_; have HO481 := n2_; have HO485 := n3_; have HO490 := n4_; have HB := n5_; clear n0_ n1_ n2_ n3_ n4_ n5_; (try clear hb); (try clear hb2); (try clear hk); (try clear hi); (try clear ho0)) | ((with_reducible refine gate_callee (f := 31) rfl ?_); refine goesL_ (some 47) rfl rfl Tryd.func31 (by kernel_rfl) rfl #[.slice A1 l1.length c1] rfl (Qls) ?_; (with_reducible refine (lampblacklaw02_list.calls _ _ l1 t491 _ ?side1 ?side2 A11.out).mono ?_); (case side1 => exact Qsc (Kd.C_below HR1.out HB.out)); (case side2 => exact HC1.out); rintro e w180 ⟨v492, rfl, ho0, hb⟩; refine ⟨_, rfl, ?_⟩; have n0_ := Aside0.mk (Kd.R_elder' (Qro HO472.out) (Kd.R_base ho0) hb); have n1_ := Aside0.mk (Kd.R_elder' (Qro HO477.out) (Kd.R_base ho0) hb); have n2_ := Aside0.mk (Kd.R_elder' (Qro HO481.out) (Kd.R_base ho0) hb); have n3_ := Aside0.mk (Kd.R_elder' (Qro HO485.out) (Kd.R_base ho0) hb); have n4_ := Aside0.mk (Kd.R_elder' (Qro HO490.out) (Kd.R_base ho0) hb); have n5_ := Aside0.mk (Kd.R_lower (Kd.R_new' (Kd.R_new' (Kd.R_new' (Kd.R_new' (Kd.R_new' ho0 (Kd.R_lt (Qro HO472.out))) (Kd.R_lt (Qro HO477.out))) (Kd.R_lt (Qro HO481.out))) (Kd.R_lt (Qro HO485.out))) (Kd.R_lt (Qro HO490.out))) (below_size (Qaw))); have n6_ := Aside0.mk (below_step (Qaw) hb); clear HO472; clear HO477; clear HO481; clear HO485; clear HO490; clear HB; have HO472 := n0_; have HO477 := n1_; have HO481 := n2_; have HO485 := n3_; have HO490 := n4_; have HO493 := n5_; have HB := n6_; clear n0_ n1_ n2_ n3_ n4_ n5_ n6_; (try clear hb); (try clear hb2); (try clear hk); (try clear hi); (try clear ho0); obtain ⟨Ao181, co181, eo181⟩ := Kd.R_slice HO490.out; subst eo181; obtain ⟨Ao182, co182, eo182⟩ := Kd.R_slice HO493.out; subst eo182) | ((with_reducible refine gate_callee (f := 37) rfl ?_); refine goesL_ (some 48) rfl rfl Tryd.func37 (by kernel_rfl) rfl #[.slice Ao181 t488.length co181, .slice Ao182 t491.length co182] rfl (Qls) ?_; (with_reducible refine (width_Along.calls (hGL := (Qlg)) k _ _ t488 _ _ t491 t494 t495 _ ?side1 ?side2 ?side3 ?side4 A12.out).mono ?_); (case side1 => exact Qsc (Kd.R_reads' HO490.out).2.2); (case side2 => exact (Kd.R_reads' HO490.out).2.1); (case side3 => exact Qsc (Kd.R_reads' HO493.out).2.2); (case side4 => exact (Kd.R_reads' HO493.out).2.1); rintro e w183 ⟨rfl, hb⟩; refine ⟨_, rfl, ?_⟩; have n0_ := Aside0.mk (Kd.R_below (Qro HO472.out) hb); have n1_ := Aside0.mk (Kd.R_below (Qro HO477.out) hb); have n2_ := Aside0.mk (Kd.R_below (Qro HO481.out) hb); have n3_ := Aside0.mk (Kd.R_below (Qro HO485.out) hb); have n4_ := Aside0.mk (Kd.R_below (Qro HO490.out) hb); have n5_ := Aside0.mk (Kd.R_below (Qro HO493.out) hb); have n6_ := Aside0.mk (below_step (Qaw) hb); clear HO472; clear HO477; clear HO481; clear HO485; clear HO490; clear HO493; clear HB; have HO472 := n0_; have HO477 := n1_; have HO481 := n2_; have HO485 := n3_; have HO490 := n4_; have HO493 := n5_; have HB := n6_; clear n0_ n1_ n2_ n3_ n4_ n5_ n6_; (try clear hb); (try clear hb2); (try clear hk); (try clear hi)))
    go_ret
    exact ⟨by first | rfl | (simp [errW_none, errW_some] <;> rfl) | (simp [*, errW_none, errW_some] <;> rfl), by repeat (first | (with_reducible first | exact HB.out | apply below_alloc | apply pw_below_drewN | apply below_drew1) | exact HB.out)⟩
  ·rw [if_neg c13] at H
   have c13b0 : (t479 == 0) = false := beq_eq_false_iff_ne.mpr c13
   have c13b1 : (t479 != 0) = true := bne_iff_ne.mpr c13
   obtain rfl := Option.some.inj H
   go_enter Tryd.func10, Tryd.ntmps10
   go_wp2_with (first | ((with_reducible refine gate_callee (f := 19) rfl ?_); refine goesL_ (some 15) rfl rfl Tryd.func19 (by kernel_rfl) rfl #[.slice A0 l0.length c0] rfl (Qls) ?_; (with_reducible refine (lampblacklaw02_Few.calls _ _ l0 t470 _ ?side1 ?side2 A3.out).mono ?_); (case side1 => exact Qsc HR0.out); (case side2 => exact HC0.out); rintro e w184 ⟨v471, rfl, ho0, hb⟩; refine ⟨_, rfl, ?_⟩; have n0_ := Aside0.mk (Kd.R_lower ho0 (below_size (Qaw))); have n1_ := Aside0.mk (below_step (Qaw) hb); clear HB; have HO472 := n0_; have HB := n1_; clear n0_ n1_; (try clear hb); (try clear hb2); (try clear hk); (try clear hi); (try clear ho0); obtain ⟨Ao185, co185, eo185⟩ := Kd.R_slice HO472.out; subst eo185) | ((with_reducible refine gate_callee (f := 18) rfl ?_); refine goesL_ (some 16) rfl rfl Tryd.func18 (by kernel_rfl) rfl #[.slice Ao185 t470.length co185] rfl (Qls) ?_; (with_reducible refine (width_Width.calls (hGL := (Qlg)) k _ _ t470 t473 t474 _ ?side1 ?side2 A4.out).mono ?_); (case side1 => exact Qsc (Kd.R_reads' HO472.out).2.2); (case side2 => exact (Kd.R_reads' HO472.out).2.1); rintro e w186 ⟨rfl, hb⟩; refine ⟨_, rfl, ?_⟩; have n0_ := Aside0.mk (Kd.R_below (Qro HO472.out) hb); have n1_ := Aside0.mk (below_step (Qaw) hb); clear HO472; clear HB; have HO472 := n0_; have HB := n1_; clear n0_ n1_; (try clear hb); (try clear hb2); (try clear hk); (try clear hi)) | ((with_reducible refine gate_callee (f := 19) rfl ?_); refine goesL_ (some 21) rfl rfl Tryd.func19 (by kernel_rfl) rfl #[.slice A0 l0.length c0] rfl (Qls) ?_; (with_reducible refine (lampblacklaw02_Few.calls _ _ l0 t475 _ ?side1 ?side2 A5.out).mono ?_); (case side1 => exact Qsc (Kd.C_below HR0.out HB.out)); (case side2 => exact HC0.out); rintro e w187 ⟨v476, rfl, ho0, hb⟩; refine ⟨_, rfl, ?_⟩; have n0_ := Aside0.mk (Kd.R_elder' (Qro HO472.out) (Kd.R_base ho0) hb); have n1_ := Aside0.mk (Kd.R_lower (Kd.R_new' ho0 (Kd.R_lt (Qro HO472.out))) (below_size (Qaw))); have n2_ := Aside0.mk (below_step (Qaw) hb); clear HO472; clear HB; have HO472 := n0_; have HO477 := n1_; have HB := n2_; clear n0_ n1_ n2_; (try clear hb); (try clear hb2); (try clear hk); (try clear hi); (try clear ho0); obtain ⟨Ao188, co188, eo188⟩ := Kd.R_slice HO477.out; subst eo188) | ((with_reducible refine gate_callee (f := 36) rfl ?_); refine goesL_ (some 22) rfl rfl Tryd.func36 (by kernel_rfl) rfl #[.slice Ao188 t475.length co188] rfl (Qls) ?_; (with_reducible refine (width_Order.calls (hGL := (Qlg)) k _ _ t475 t478 t479 _ ?side1 ?side2 A6.out).mono ?_); (case side1 => exact Qsc (Kd.R_reads' HO477.out).2.2); (case side2 => exact (Kd.R_reads' HO477.out).2.1); rintro e w189 ⟨v480, rfl, ho0, hb⟩; refine ⟨_, rfl, ?_⟩; have n0_ := Aside0.mk (Kd.R_elder' (Qro HO472.out) (Kd.R_base ho0) hb); have n1_ := Aside0.mk (Kd.R_elder' (Qro HO477.out) (Kd.R_base ho0) hb); have n2_ := Aside0.mk (Kd.R_lower (Kd.R_new' (Kd.R_new' ho0 (Kd.R_lt (Qro HO472.out))) (Kd.R_lt (Qro HO477.out))) (below_size (Qaw))); have n3_ := Aside0.mk (below_step (Qaw) hb); clear HO472; clear HO477; clear HB; have HO472 := n0_; have HO477 := n1_; have HO481 := n2_; have HB := n3_; clear n0_ n1_ n2_ n3_; (try clear hb); (try clear hb2); (try clear hk); (try clear hi); (try clear ho0)) | ((with_reducible refine gate_callee (f := 19) rfl ?_); refine goesL_ (some 38) rfl rfl Tryd.func19 (by kernel_rfl) rfl #[.slice A0 l0.length c0] rfl (Qls) ?_; (with_reducible refine (lampblacklaw02_Few.calls _ _ l0 t483 _ ?side1 ?side2 A8.out).mono ?_); (case side1 => exact Qsc (Kd.C_below HR0.out HB.out)); (case side2 => exact HC0.out); rintro e w190 ⟨v484, rfl, ho0, hb⟩; refine ⟨_, rfl, ?_⟩; have n0_ := Aside0.mk (Kd.R_elder' (Qro HO472.out) (Kd.R_base ho0) hb); have n1_ := Aside0.mk (Kd.R_elder' (Qro HO477.out) (Kd.R_base ho0) hb); have n2_ := Aside0.mk (Kd.R_elder' (Qro HO481.out) (Kd.R_base ho0) hb); have n3_ := Aside0.mk (Kd.R_lower (Kd.R_new' (Kd.R_new' (Kd.R_new' ho0 (Kd.R_lt (Qro HO472.out))) (Kd.R_lt (Qro HO477.out))) (Kd.R_lt (Qro HO481.out))) (below_size (Qaw))); have n4_ := Aside0.mk (below_step (Qaw) hb); clear HO472; clear HO477; clear HO481; clear HB; have HO472 := n0_; have HO477 := n1_; have HO481 := n2_; have HO485 := n3_; have HB := n4_; clear n0_ n1_ n2_ n3_ n4_; (try clear hb); (try clear hb2); (try clear hk); (try clear hi); (try clear ho0); obtain ⟨Ao191, co191, eo191⟩ := Kd.R_slice HO485.out; subst eo191; obtain ⟨Ao192, co192, eo192⟩ := Kd.R_slice HO481.out; subst eo192) | ((with_reducible refine gate_callee (f := 37) rfl ?_); refine goesL_ (some 40) rfl rfl Tryd.func37 (by kernel_rfl) rfl #[.slice Ao191 t483.length co191, .slice Ao192 t478.length co192] rfl (Qls) ?_; (with_reducible refine (width_Along.calls (hGL := (Qlg)) k _ _ t483 _ _ t478 t486 t487 _ ?side1 ?side2 ?side3 ?side4 A9.out).mono ?_); (case side1 => exact Qsc (Kd.R_reads' HO485.out).2.2); (case side2 => exact (Kd.R_reads' HO485.out).2.1); (case side3 => exact Qsc (Kd.R_reads' HO481.out).2.2); (case side4 => exact (Kd.R_reads' HO481.out).2.1); rintro e w193 ⟨rfl, hb⟩; refine ⟨_, rfl, ?_⟩; have n0_ := Aside0.mk (Kd.R_below (Qro HO472.out) hb); have n1_ := Aside0.mk (Kd.R_below (Qro HO477.out) hb); have n2_ := Aside0.mk (Kd.R_below (Qro HO481.out) hb); have n3_ := Aside0.mk (Kd.R_below (Qro HO485.out) hb); have n4_ := Aside0.mk (below_step (Qaw) hb); clear HO472; clear HO477; clear HO481; clear HO485; clear HB; have HO472 := n0_; have HO477 := n1_; have HO481 := n2_; have HO485 := n3_; have HB := n4_; clear n0_ n1_ n2_ n3_ n4_; (try clear hb); (try clear hb2); (try clear hk); (try clear hi)) | ((with_reducible refine gate_callee (f := 19) rfl ?_); refine goesL_ (some 45) rfl rfl Tryd.func19 (by kernel_rfl) rfl #[.slice A0 l0.length c0] rfl (Qls) ?_; (with_reducible refine (lampblacklaw02_Few.calls _ _ l0 t488 _ ?side1 ?side2 A10.out).mono ?_); (case side1 => exact Qsc (Kd.C_below HR0.out HB.out)); (case side2 => exact HC0.out); rintro e w194 ⟨v489, rfl, ho0, hb⟩; refine ⟨_, rfl, ?_⟩; have n0_ := Aside0.mk (Kd.R_elder' (Qro HO472.out) (Kd.R_base ho0) hb); have n1_ := Aside0.mk (Kd.R_elder' (Qro HO477.out) (Kd.R_base ho0) hb); have n2_ := Aside0.mk (Kd.R_elder' (Qro HO481.out) (Kd.R_base ho0) hb); have n3_ := Aside0.mk (Kd.R_elder' (Qro HO485.out) (Kd.R_base ho0) hb); have n4_ := Aside0.mk (Kd.R_lower (Kd.R_new' (Kd.R_new' (Kd.R_new' (Kd.R_new' ho0 (Kd.R_lt (Qro HO472.out))) (Kd.R_lt (Qro HO477.out))) (Kd.R_lt (Qro HO481.out))) (Kd.R_lt (Qro HO485.out))) (below_size (Qaw))); have n5_ := Aside0.mk (below_step (Qaw) hb); clear HO472; clear HO477; clear HO481; clear HO485; clear HB; have HO472 := n0_; have HO477 := n1_; have HO481 := n2_; have HO485 := n3_; have HO490 := n4_; have HB := n5_; clear n0_ n1_ n2_ n3_ n4_ n5_; (try clear hb); (try clear hb2); (try clear hk); (try clear hi); (try clear ho0)) | ((with_reducible refine gate_callee (f := 31) rfl ?_); refine goesL_ (some 47) rfl rfl Tryd.func31 (by kernel_rfl) rfl #[.slice A1 l1.length c1] rfl (Qls) ?_; (with_reducible refine (lampblacklaw02_list.calls _ _ l1 t491 _ ?side1 ?side2 A11.out).mono ?_); (case side1 => exact Qsc (Kd.C_below HR1.out HB.out)); (case side2 => exact HC1.out); rintro e w195 ⟨v492, rfl, ho0, hb⟩; refine ⟨_, rfl, ?_⟩; have n0_ := Aside0.mk (Kd.R_elder' (Qro HO472.out) (Kd.R_base ho0) hb); have n1_ := Aside0.mk (Kd.R_elder' (Qro HO477.out) (Kd.R_base ho0) hb); have n2_ := Aside0.mk (Kd.R_elder' (Qro HO481.out) (Kd.R_base ho0) hb); have n3_ := Aside0.mk (Kd.R_elder' (Qro HO485.out) (Kd.R_base ho0) hb); have n4_ := Aside0.mk (Kd.R_elder' (Qro HO490.out) (Kd.R_base ho0) hb); have n5_ := Aside0.mk (Kd.R_lower (Kd.R_new' (Kd.R_new' (Kd.R_new' (Kd.R_new' (Kd.R_new' ho0 (Kd.R_lt (Qro HO472.out))) (Kd.R_lt (Qro HO477.out))) (Kd.R_lt (Qro HO481.out))) (Kd.R_lt (Qro HO485.out))) (Kd.R_lt (Qro HO490.out))) (below_size (Qaw))); have n6_ := Aside0.mk (below_step (Qaw) hb); clear HO472; clear HO477; clear HO481; clear HO485; clear HO490; clear HB; have HO472 := n0_; have HO477 := n1_; have HO481 := n2_; have HO485 := n3_; have HO490 := n4_; have HO493 := n5_; have HB := n6_; clear n0_ n1_ n2_ n3_ n4_ n5_ n6_; (try clear hb); (try clear hb2); (try clear hk); (try clear hi); (try clear ho0); obtain ⟨Ao196, co196, eo196⟩ := Kd.R_slice HO490.out; subst eo196; obtain ⟨Ao197, co197, eo197⟩ := Kd.R_slice HO493.out; subst eo197) | ((with_reducible refine gate_callee (f := 37) rfl ?_); refine goesL_ (some 48) rfl rfl Tryd.func37 (by kernel_rfl) rfl #[.slice Ao196 t488.length co196, .slice Ao197 t491.length co197] rfl (Qls) ?_; (with_reducible refine (width_Along.calls (hGL := (Qlg)) k _ _ t488 _ _ t491 t494 t495 _ ?side1 ?side2 ?side3 ?side4 A12.out).mono ?_); (case side1 => exact Qsc (Kd.R_reads' HO490.out).2.2); (case side2 => exact (Kd.R_reads' HO490.out).2.1); (case side3 => exact Qsc (Kd.R_reads' HO493.out).2.2); (case side4 => exact (Kd.R_reads' HO493.out).2.1); rintro e w198 ⟨rfl, hb⟩; refine ⟨_, rfl, ?_⟩; have n0_ := Aside0.mk (Kd.R_below (Qro HO472.out) hb); have n1_ := Aside0.mk (Kd.R_below (Qro HO477.out) hb); have n2_ := Aside0.mk (Kd.R_below (Qro HO481.out) hb); have n3_ := Aside0.mk (Kd.R_below (Qro HO485.out) hb); have n4_ := Aside0.mk (Kd.R_below (Qro HO490.out) hb); have n5_ := Aside0.mk (Kd.R_below (Qro HO493.out) hb); have n6_ := Aside0.mk (below_step (Qaw) hb); clear HO472; clear HO477; clear HO481; clear HO485; clear HO490; clear HO493; clear HB; have HO472 := n0_; have HO477 := n1_; have HO481 := n2_; have HO485 := n3_; have HO490 := n4_; have HO493 := n5_; have HB := n6_; clear n0_ n1_ n2_ n3_ n4_ n5_ n6_; (try clear hb); (try clear hb2); (try clear hk); (try clear hi)))
   go_ret
   exact ⟨by first | rfl | (simp [errW_none, errW_some] <;> rfl) | (simp [*, errW_none, errW_some] <;> rfl), by repeat (first | (with_reducible first | exact HB.out | apply below_alloc | apply pw_below_drewN | apply below_drew1) | exact HB.out)⟩
 ·rw [if_neg c7] at H
  have c7b0 : (t474 == 0) = false := beq_eq_false_iff_ne.mpr c7
  have c7b1 : (t474 != 0) = true := bne_iff_ne.mpr c7
  by_cases c199 : t474 = 2
  ·rw [if_pos c199] at H
   have c199b0 : (t474 == 2) = true := beq_iff_eq.mpr c199
   have c199b1 : (t474 != 2) = false := bne_eq_false_iff_eq.mpr c199
   clear c199
   by_cases c200 : t479 = 2
   ·rw [if_pos c200] at H
    have c200b0 : (t479 == 2) = true := beq_iff_eq.mpr c200
    have c200b1 : (t479 != 2) = false := bne_eq_false_iff_eq.mpr c200
    clear c200
    replace H := Option.bind_eq_some_iff.mp H
    obtain ⟨t482, A2010, H⟩ := H
    replace H : (some t482) = some r := H
    have A201 := Aside0.mk A2010
    clear A2010
    obtain rfl := Option.some.inj H
    go_enter Tryd.func10, Tryd.ntmps10
    go_wp2_with (first | ((with_reducible refine gate_callee (f := 19) rfl ?_); refine goesL_ (some 15) rfl rfl Tryd.func19 (by kernel_rfl) rfl #[.slice A0 l0.length c0] rfl (Qls) ?_; (with_reducible refine (lampblacklaw02_Few.calls _ _ l0 t470 _ ?side1 ?side2 A3.out).mono ?_); (case side1 => exact Qsc HR0.out); (case side2 => exact HC0.out); rintro e w202 ⟨v471, rfl, ho0, hb⟩; refine ⟨_, rfl, ?_⟩; have n0_ := Aside0.mk (Kd.R_lower ho0 (below_size (Qaw))); have n1_ := Aside0.mk (below_step (Qaw) hb); clear HB; have HO472 := n0_; have HB := n1_; clear n0_ n1_; (try clear hb); (try clear hb2); (try clear hk); (try clear hi); (try clear ho0); obtain ⟨Ao203, co203, eo203⟩ := Kd.R_slice HO472.out; subst eo203) | ((with_reducible refine gate_callee (f := 18) rfl ?_); refine goesL_ (some 16) rfl rfl Tryd.func18 (by kernel_rfl) rfl #[.slice Ao203 t470.length co203] rfl (Qls) ?_; (with_reducible refine (width_Width.calls (hGL := (Qlg)) k _ _ t470 t473 t474 _ ?side1 ?side2 A4.out).mono ?_); (case side1 => exact Qsc (Kd.R_reads' HO472.out).2.2); (case side2 => exact (Kd.R_reads' HO472.out).2.1); rintro e w204 ⟨rfl, hb⟩; refine ⟨_, rfl, ?_⟩; have n0_ := Aside0.mk (Kd.R_below (Qro HO472.out) hb); have n1_ := Aside0.mk (below_step (Qaw) hb); clear HO472; clear HB; have HO472 := n0_; have HB := n1_; clear n0_ n1_; (try clear hb); (try clear hb2); (try clear hk); (try clear hi)) | ((with_reducible refine gate_callee (f := 19) rfl ?_); refine goesL_ (some 21) rfl rfl Tryd.func19 (by kernel_rfl) rfl #[.slice A0 l0.length c0] rfl (Qls) ?_; (with_reducible refine (lampblacklaw02_Few.calls _ _ l0 t475 _ ?side1 ?side2 A5.out).mono ?_); (case side1 => exact Qsc (Kd.C_below HR0.out HB.out)); (case side2 => exact HC0.out); rintro e w205 ⟨v476, rfl, ho0, hb⟩; refine ⟨_, rfl, ?_⟩; have n0_ := Aside0.mk (Kd.R_elder' (Qro HO472.out) (Kd.R_base ho0) hb); have n1_ := Aside0.mk (Kd.R_lower (Kd.R_new' ho0 (Kd.R_lt (Qro HO472.out))) (below_size (Qaw))); have n2_ := Aside0.mk (below_step (Qaw) hb); clear HO472; clear HB; have HO472 := n0_; have HO477 := n1_; have HB := n2_; clear n0_ n1_ n2_; (try clear hb); (try clear hb2); (try clear hk); (try clear hi); (try clear ho0); obtain ⟨Ao206, co206, eo206⟩ := Kd.R_slice HO477.out; subst eo206) | ((with_reducible refine gate_callee (f := 36) rfl ?_); refine goesL_ (some 22) rfl rfl Tryd.func36 (by kernel_rfl) rfl #[.slice Ao206 t475.length co206] rfl (Qls) ?_; (with_reducible refine (width_Order.calls (hGL := (Qlg)) k _ _ t475 t478 t479 _ ?side1 ?side2 A6.out).mono ?_); (case side1 => exact Qsc (Kd.R_reads' HO477.out).2.2); (case side2 => exact (Kd.R_reads' HO477.out).2.1); rintro e w207 ⟨v480, rfl, ho0, hb⟩; refine ⟨_, rfl, ?_⟩; have n0_ := Aside0.mk (Kd.R_elder' (Qro HO472.out) (Kd.R_base ho0) hb); have n1_ := Aside0.mk (Kd.R_elder' (Qro HO477.out) (Kd.R_base ho0) hb); have n2_ := Aside0.mk (Kd.R_lower (Kd.R_new' (Kd.R_new' ho0 (Kd.R_lt (Qro HO472.out))) (Kd.R_lt (Qro HO477.out))) (below_size (Qaw))); have n3_ := Aside0.mk (below_step (Qaw) hb); clear HO472; clear HO477; clear HB; have HO472 := n0_; have HO477 := n1_; have HO481 := n2_; have HB := n3_; clear n0_ n1_ n2_ n3_; (try clear hb); (try clear hb2); (try clear hk); (try clear hi); (try clear ho0)) | (go_at_call 20; (with_reducible refine (lampblacklaw02_awake.calls (hGL := (Qlg)) k  t482 _ A201.out).mono ?_); rintro e w208 ⟨rfl, hb⟩; have n0_ := Aside0.mk (Kd.R_below (Qro HO472.out) hb); have n1_ := Aside0.mk (Kd.R_below (Qro HO477.out) hb); have n2_ := Aside0.mk (Kd.R_below (Qro HO481.out) hb); have n3_ := Aside0.mk (below_step (Qaw) hb); clear HO472; clear HO477; clear HO481; clear HB; have HO472 := n0_; have HO477 := n1_; have HO481 := n2_; have HB := n3_; clear n0_ n1_ n2_ n3_; (try clear hb); (try clear hb2); (try clear hk); (try clear hi)))
    go_ret
    exact ⟨by first | rfl | (simp [errW_none, errW_some] <;> rfl) | (simp [*, errW_none, errW_some] <;> rfl), by repeat (first | (with_reducible first | exact HB.out | apply below_alloc | apply pw_below_drewN | apply below_drew1) | exact HB.out)⟩
   ·rw [if_neg c200] at H
    have c200b0 : (t479 == 2) = false := beq_eq_false_iff_ne.mpr c200
    have c200b1 : (t479 != 2) = true := bne_iff_ne.mpr c200
    obtain rfl := Option.some.inj H
    go_enter Tryd.func10, Tryd.ntmps10
    go_wp2_with (first | ((with_reducible refine gate_callee (f := 19) rfl ?_); refine goesL_ (some 15) rfl rfl Tryd.func19 (by kernel_rfl) rfl #[.slice A0 l0.length c0] rfl (Qls) ?_; (with_reducible refine (lampblacklaw02_Few.calls _ _ l0 t470 _ ?side1 ?side2 A3.out).mono ?_); (case side1 => exact Qsc HR0.out); (case side2 => exact HC0.out); rintro e w209 ⟨v471, rfl, ho0, hb⟩; refine ⟨_, rfl, ?_⟩; have n0_ := Aside0.mk (Kd.R_lower ho0 (below_size (Qaw))); have n1_ := Aside0.mk (below_step (Qaw) hb); clear HB; have HO472 := n0_; have HB := n1_; clear n0_ n1_; (try clear hb); (try clear hb2); (try clear hk); (try clear hi); (try clear ho0); obtain ⟨Ao210, co210, eo210⟩ := Kd.R_slice HO472.out; subst eo210) | ((with_reducible refine gate_callee (f := 18) rfl ?_); refine goesL_ (some 16) rfl rfl Tryd.func18 (by kernel_rfl) rfl #[.slice Ao210 t470.length co210] rfl (Qls) ?_; (with_reducible refine (width_Width.calls (hGL := (Qlg)) k _ _ t470 t473 t474 _ ?side1 ?side2 A4.out).mono ?_); (case side1 => exact Qsc (Kd.R_reads' HO472.out).2.2); (case side2 => exact (Kd.R_reads' HO472.out).2.1); rintro e w211 ⟨rfl, hb⟩; refine ⟨_, rfl, ?_⟩; have n0_ := Aside0.mk (Kd.R_below (Qro HO472.out) hb); have n1_ := Aside0.mk (below_step (Qaw) hb); clear HO472; clear HB; have HO472 := n0_; have HB := n1_; clear n0_ n1_; (try clear hb); (try clear hb2); (try clear hk); (try clear hi)) | ((with_reducible refine gate_callee (f := 19) rfl ?_); refine goesL_ (some 21) rfl rfl Tryd.func19 (by kernel_rfl) rfl #[.slice A0 l0.length c0] rfl (Qls) ?_; (with_reducible refine (lampblacklaw02_Few.calls _ _ l0 t475 _ ?side1 ?side2 A5.out).mono ?_); (case side1 => exact Qsc (Kd.C_below HR0.out HB.out)); (case side2 => exact HC0.out); rintro e w212 ⟨v476, rfl, ho0, hb⟩; refine ⟨_, rfl, ?_⟩; have n0_ := Aside0.mk (Kd.R_elder' (Qro HO472.out) (Kd.R_base ho0) hb); have n1_ := Aside0.mk (Kd.R_lower (Kd.R_new' ho0 (Kd.R_lt (Qro HO472.out))) (below_size (Qaw))); have n2_ := Aside0.mk (below_step (Qaw) hb); clear HO472; clear HB; have HO472 := n0_; have HO477 := n1_; have HB := n2_; clear n0_ n1_ n2_; (try clear hb); (try clear hb2); (try clear hk); (try clear hi); (try clear ho0); obtain ⟨Ao213, co213, eo213⟩ := Kd.R_slice HO477.out; subst eo213) | ((with_reducible refine gate_callee (f := 36) rfl ?_); refine goesL_ (some 22) rfl rfl Tryd.func36 (by kernel_rfl) rfl #[.slice Ao213 t475.length co213] rfl (Qls) ?_; (with_reducible refine (width_Order.calls (hGL := (Qlg)) k _ _ t475 t478 t479 _ ?side1 ?side2 A6.out).mono ?_); (case side1 => exact Qsc (Kd.R_reads' HO477.out).2.2); (case side2 => exact (Kd.R_reads' HO477.out).2.1); rintro e w214 ⟨v480, rfl, ho0, hb⟩; refine ⟨_, rfl, ?_⟩; have n0_ := Aside0.mk (Kd.R_elder' (Qro HO472.out) (Kd.R_base ho0) hb); have n1_ := Aside0.mk (Kd.R_elder' (Qro HO477.out) (Kd.R_base ho0) hb); have n2_ := Aside0.mk (Kd.R_lower (Kd.R_new' (Kd.R_new' ho0 (Kd.R_lt (Qro HO472.out))) (Kd.R_lt (Qro HO477.out))) (below_size (Qaw))); have n3_ := Aside0.mk (below_step (Qaw) hb); clear HO472; clear HO477; clear HB; have HO472 := n0_; have HO477 := n1_; have HO481 := n2_; have HB := n3_; clear n0_ n1_ n2_ n3_; (try clear hb); (try clear hb2); (try clear hk); (try clear hi); (try clear ho0)))
    go_ret
    exact ⟨by first | rfl | (simp [errW_none, errW_some] <;> rfl) | (simp [*, errW_none, errW_some] <;> rfl), by repeat (first | (with_reducible first | exact HB.out | apply below_alloc | apply pw_below_drewN | apply below_drew1) | exact HB.out)⟩
  ·rw [if_neg c199] at H
   have c199b0 : (t474 == 2) = false := beq_eq_false_iff_ne.mpr c199
   have c199b1 : (t474 != 2) = true := bne_iff_ne.mpr c199
   obtain rfl := Option.some.inj H
   go_enter Tryd.func10, Tryd.ntmps10
   go_wp2_with (first | ((with_reducible refine gate_callee (f := 19) rfl ?_); refine goesL_ (some 15) rfl rfl Tryd.func19 (by kernel_rfl) rfl #[.slice A0 l0.length c0] rfl (Qls) ?_; (with_reducible refine (lampblacklaw02_Few.calls _ _ l0 t470 _ ?side1 ?side2 A3.out).mono ?_); (case side1 => exact Qsc HR0.out); (case side2 => exact HC0.out); rintro e w215 ⟨v471, rfl, ho0, hb⟩; refine ⟨_, rfl, ?_⟩; have n0_ := Aside0.mk (Kd.R_lower ho0 (below_size (Qaw))); have n1_ := Aside0.mk (below_step (Qaw) hb); clear HB; have HO472 := n0_; have HB := n1_; clear n0_ n1_; (try clear hb); (try clear hb2); (try clear hk); (try clear hi); (try clear ho0); obtain ⟨Ao216, co216, eo216⟩ := Kd.R_slice HO472.out; subst eo216) | ((with_reducible refine gate_callee (f := 18) rfl ?_); refine goesL_ (some 16) rfl rfl Tryd.func18 (by kernel_rfl) rfl #[.slice Ao216 t470.length co216] rfl (Qls) ?_; (with_reducible refine (width_Width.calls (hGL := (Qlg)) k _ _ t470 t473 t474 _ ?side1 ?side2 A4.out).mono ?_); (case side1 => exact Qsc (Kd.R_reads' HO472.out).2.2); (case side2 => exact (Kd.R_reads' HO472.out).2.1); rintro e w217 ⟨rfl, hb⟩; refine ⟨_, rfl, ?_⟩; have n0_ := Aside0.mk (Kd.R_below (Qro HO472.out) hb); have n1_ := Aside0.mk (below_step (Qaw) hb); clear HO472; clear HB; have HO472 := n0_; have HB := n1_; clear n0_ n1_; (try clear hb); (try clear hb2); (try clear hk); (try clear hi)) | ((with_reducible refine gate_callee (f := 19) rfl ?_); refine goesL_ (some 21) rfl rfl Tryd.func19 (by kernel_rfl) rfl #[.slice A0 l0.length c0] rfl (Qls) ?_; (with_reducible refine (lampblacklaw02_Few.calls _ _ l0 t475 _ ?side1 ?side2 A5.out).mono ?_); (case side1 => exact Qsc (Kd.C_below HR0.out HB.out)); (case side2 => exact HC0.out); rintro e w218 ⟨v476, rfl, ho0, hb⟩; refine ⟨_, rfl, ?_⟩; have n0_ := Aside0.mk (Kd.R_elder' (Qro HO472.out) (Kd.R_base ho0) hb); have n1_ := Aside0.mk (Kd.R_lower (Kd.R_new' ho0 (Kd.R_lt (Qro HO472.out))) (below_size (Qaw))); have n2_ := Aside0.mk (below_step (Qaw) hb); clear HO472; clear HB; have HO472 := n0_; have HO477 := n1_; have HB := n2_; clear n0_ n1_ n2_; (try clear hb); (try clear hb2); (try clear hk); (try clear hi); (try clear ho0); obtain ⟨Ao219, co219, eo219⟩ := Kd.R_slice HO477.out; subst eo219) | ((with_reducible refine gate_callee (f := 36) rfl ?_); refine goesL_ (some 22) rfl rfl Tryd.func36 (by kernel_rfl) rfl #[.slice Ao219 t475.length co219] rfl (Qls) ?_; (with_reducible refine (width_Order.calls (hGL := (Qlg)) k _ _ t475 t478 t479 _ ?side1 ?side2 A6.out).mono ?_); (case side1 => exact Qsc (Kd.R_reads' HO477.out).2.2); (case side2 => exact (Kd.R_reads' HO477.out).2.1); rintro e w220 ⟨v480, rfl, ho0, hb⟩; refine ⟨_, rfl, ?_⟩; have n0_ := Aside0.mk (Kd.R_elder' (Qro HO472.out) (Kd.R_base ho0) hb); have n1_ := Aside0.mk (Kd.R_elder' (Qro HO477.out) (Kd.R_base ho0) hb); have n2_ := Aside0.mk (Kd.R_lower (Kd.R_new' (Kd.R_new' ho0 (Kd.R_lt (Qro HO472.out))) (Kd.R_lt (Qro HO477.out))) (below_size (Qaw))); have n3_ := Aside0.mk (below_step (Qaw) hb); clear HO472; clear HO477; clear HB; have HO472 := n0_; have HO477 := n1_; have HO481 := n2_; have HB := n3_; clear n0_ n1_ n2_ n3_; (try clear hb); (try clear hb2); (try clear hk); (try clear hi); (try clear ho0)))
   go_ret
   exact ⟨by first | rfl | (simp [errW_none, errW_some] <;> rfl) | (simp [*, errW_none, errW_some] <;> rfl), by repeat (first | (with_reducible first | exact HB.out | apply below_alloc | apply pw_below_drewN | apply below_drew1) | exact HB.out)⟩
end
end Go.Proofs.YtoffehihicabcaaDoor.X
end
section
namespace Go.Proofs.YtoffehihicabcaaDoor.X
open Go.RowKit YtoffehihicabcaaDoorW.PrintWords YtoffehihicabcaaDoorW.PrintLast YtoffehihicabcaaDoorW.PrintMore
attribute [local go_sem] max2_int min2_int max_two min_two max_three min_three max_four min_four
noncomputable section
/-! ### lampblackref01_IsGraph: function 65 -/
mutual
def lampblackref01_IsGraph.l0 : Nat → List Int → Int → List Int → Int → Int → Option (Bool)
 | 0, _, _, _, _, _ => none
 | k + 1, x0, x1, x8, x9, x10 => if x10 < x9 then (if 0 ≤ x10 then (if x10 < (x8.length : Int) then (if (x0.length : Int) > x1 then (lampblackref01_IsGraph.j1 k x0 x1 x10 (rd x8 x10) x8 x9 x10 true) else (if (rd x8 x10) < 0 then (lampblackref01_IsGraph.j1 k x0 x1 x10 (rd x8 x10) x8 x9 x10 true) else (if (rd x8 x10) ≥ (shl .i64 1 (x0.length : Int)) then (lampblackref01_IsGraph.j1 k x0 x1 x10 (rd x8 x10) x8 x9 x10 true) else (lampblackref01_IsGraph.j1 k x0 x1 x10 (rd x8 x10) x8 x9 x10 ((Go.bits .and .i64 (shr .i64 (rd x8 x10) x10) 1) == 1))))) else (none)) else (none)) else (if (x0.length : Int) ≥ 1 then (some (decide ((x0.length : Int) ≤ x1))) else (some false))
def lampblackref01_IsGraph.j1 : Nat → List Int → Int → Int → Int → List Int → Int → Int → Bool → Option (Bool)
 | 0, _, _, _, _, _, _, _, _ => none
 | k + 1, x0, x1, x5, x6, x8, x9, x10, x36 => if x36 = true then (some false) else (lampblackref01_IsGraph.l1 k x0 x1 x5 x6 x8 x9 x10 (x0.length : Int) 0)
def lampblackref01_IsGraph.l1 : Nat → List Int → Int → Int → Int → List Int → Int → Int → Int → Int → Option (Bool)
 | 0, _, _, _, _, _, _, _, _, _ => none
 | k + 1, x0, x1, x5, x6, x8, x9, x10, x38, x39 => if x39 < x38 then (if 0 ≤ x39 then (if x39 < (x0.length : Int) then (if 0 ≤ x5 then (if (Go.bits .and .i64 (shr .i64 x6 x39) 1) = (Go.bits .and .i64 (shr .i64 (rd x0 x39) x5) 1) then (lampblackref01_IsGraph.l1 k x0 x1 x5 x6 x8 x9 x10 x38 (wrap64 (x39 + 1))) else (some false)) else (none)) else (none)) else (none)) else (lampblackref01_IsGraph.l0 k x0 x1 x8 x9 (wrap64 (x10 + 1)))
end
end
end Go.Proofs.YtoffehihicabcaaDoor.X
end
section
namespace Go.Proofs.YtoffehihicabcaaDoor.X
open Go.RowKit YtoffehihicabcaaDoorW.PrintWords YtoffehihicabcaaDoorW.PrintLast YtoffehihicabcaaDoorW.PrintMore
attribute [local go_sem] max2_int min2_int max_two min_two max_three min_three max_four min_four
noncomputable section
/-! ### lampblackref01_Reached: function 29 -/
mutual
def lampblackref01_Reached.l0 : Nat → List Int → Int → Int → Int → Int → Option (Int)
 | 0, _, _, _, _, _ => none
 | k + 1, x0, x1, x7, x12, x13 => if x13 < x12 then (lampblackref01_Reached.l1 k x0 x1 x7 x12 x13 (x0.length : Int) 0) else (some x7)
def lampblackref01_Reached.l1 : Nat → List Int → Int → Int → Int → Int → Int → Int → Option (Int)
 | 0, _, _, _, _, _, _, _ => none
 | k + 1, x0, x1, x7, x12, x13, x16, x17 => if x17 < x16 then (if 0 ≤ x17 then (if (Go.bits .and .i64 (shr .i64 x7 x17) 1) = 1 then (if x17 < (x0.length : Int) then (lampblackref01_Reached.l1 k x0 x1 (Go.bits .or .i64 x7 (Go.bits .and .i64 (rd x0 x17) x1)) x12 x13 x16 (wrap64 (x17 + 1))) else (none)) else (lampblackref01_Reached.l1 k x0 x1 x7 x12 x13 x16 (wrap64 (x17 + 1)))) else (none)) else (lampblackref01_Reached.l0 k x0 x1 x7 x12 (wrap64 (x13 + 1)))
end
def lampblackref01_Reached.f (k : Nat) (l0 : List Int) (a1 : Int) (a2 : Int) : Option (Int) := if 0 ≤ a2 then (lampblackref01_Reached.l0 k l0 a1 (shl .i64 1 a2) (l0.length : Int) 0) else (none)
end
end Go.Proofs.YtoffehihicabcaaDoor.X
end
section
namespace Go.Proofs.YtoffehihicabcaaDoor.X
open Go.RowKit YtoffehihicabcaaDoorW.PrintWords YtoffehihicabcaaDoorW.PrintLast YtoffehihicabcaaDoorW.PrintMore
attribute [local go_sem] max2_int min2_int max_two min_two max_three min_three max_four min_four
noncomputable section
/-! ### lampblackref02_Connected: function 24 -/
mutual
def lampblackref02_Connected.j0 : Nat → List Int → Int → Bool → Option (Bool)
 | 0, _, _, _ => none
 | k + 1, x0, x1, x14 => if x14 = true then (some false) else (lampblackref02_Connected.l0 k x0 x1 0)
def lampblackref02_Connected.l0 : Nat → List Int → Int → Int → Option (Bool)
 | 0, _, _, _ => none
 | k + 1, x0, x1, x5 => if 0 ≤ x5 then (if (Go.bits .and .i64 (shr .i64 x1 x5) 1) = 0 then (lampblackref02_Connected.l0 k x0 x1 (wrap64 (x5 + 1))) else ((lampblackref01_Reached.f k x0 x1 x5).bind fun t219 => (some (t219 == x1)))) else (none)
end
def lampblackref02_Connected.f (k : Nat) (l0 : List Int) (a1 : Int) : Option (Bool) := if a1 ≤ 0 then (lampblackref02_Connected.j0 k l0 a1 true) else (lampblackref02_Connected.j0 k l0 a1 (decide (a1 ≥ (shl .i64 1 (l0.length : Int)))))
end
end Go.Proofs.YtoffehihicabcaaDoor.X
end
section
namespace Go.Proofs.YtoffehihicabcaaDoor.X
open Go.RowKit YtoffehihicabcaaDoorW.PrintWords YtoffehihicabcaaDoorW.PrintLast YtoffehihicabcaaDoorW.PrintMore
attribute [local go_sem] max2_int min2_int max_two min_two max_three min_three max_four min_four
noncomputable section
/-! ### lampblackref02_Around: function 66 -/
def lampblackref02_Around.l0 : Nat → List Int → Int → Int → Int → Int → Option (Int)
 | 0, _, _, _, _, _ => none
 | k + 1, x0, x1, x5, x8, x9 => if x9 < x8 then (if 0 ≤ x9 then (if (Go.bits .and .i64 (shr .i64 x1 x9) 1) = 1 then (if x9 < (x0.length : Int) then (lampblackref02_Around.l0 k x0 x1 (Go.bits .or .i64 x5 (rd x0 x9)) x8 (wrap64 (x9 + 1))) else (none)) else (lampblackref02_Around.l0 k x0 x1 x5 x8 (wrap64 (x9 + 1)))) else (none)) else (some x5)
def lampblackref02_Around.f (k : Nat) (l0 : List Int) (a1 : Int) : Option (Int) := lampblackref02_Around.l0 k l0 a1 0 (l0.length : Int) 0
end
end Go.Proofs.YtoffehihicabcaaDoor.X
end
section
namespace Go.Proofs.YtoffehihicabcaaDoor.X
open Go.RowKit YtoffehihicabcaaDoorW.PrintWords YtoffehihicabcaaDoorW.PrintLast YtoffehihicabcaaDoorW.PrintMore
attribute [local go_sem] max2_int min2_int max_two min_two max_three min_three max_four min_four
noncomputable section
/-! ### lampblackref02_Touch: function 25 -/
def lampblackref02_Touch.f (k : Nat) (l0 : List Int) (a1 : Int) (a2 : Int) : Option (Bool) := (lampblackref02_Around.f k l0 a1).bind fun t221 => (some ((Go.bits .and .i64 (Go.bits .or .i64 a1 t221) a2) != 0))
end
end Go.Proofs.YtoffehihicabcaaDoor.X
end
section
namespace Go.Proofs.YtoffehihicabcaaDoor.X
open Go.RowKit YtoffehihicabcaaDoorW.PrintWords YtoffehihicabcaaDoorW.PrintLast YtoffehihicabcaaDoorW.PrintMore
attribute [local go_sem] max2_int min2_int max_two min_two max_three min_three max_four min_four
noncomputable section
/-! ### lampblackref02_Valid: function 23 -/
end
end Go.Proofs.YtoffehihicabcaaDoor.X
end
section
namespace Go.Proofs.YtoffehihicabcaaDoor.X
open Go.RowKit YtoffehihicabcaaDoorW.PrintWords YtoffehihicabcaaDoorW.PrintLast YtoffehihicabcaaDoorW.PrintMore
attribute [local go_sem] max2_int min2_int max_two min_two max_three min_three max_four min_four
noncomputable section
/-! ### lampblackref02_Size: function 35 -/
def lampblackref02_Size.l0 : Nat → Int → Int → Option (Int)
 | 0, _, _ => none
 | k + 1, x0, x3 => if x0 > 0 then (lampblackref02_Size.l0 k (Go.bits .and .i64 x0 (wrap64 (x0 - 1))) (wrap64 (x3 + 1))) else (some x3)
def lampblackref02_Size.f (k : Nat) (a0 : Int) : Option (Int) := lampblackref02_Size.l0 k a0 0
end
end Go.Proofs.YtoffehihicabcaaDoor.X
end
section
namespace Go.Proofs.YtoffehihicabcaaDoor.X
open Go.RowKit YtoffehihicabcaaDoorW.PrintWords YtoffehihicabcaaDoorW.PrintLast YtoffehihicabcaaDoorW.PrintMore
attribute [local go_sem] max2_int min2_int max_two min_two max_three min_three max_four min_four
noncomputable section
/-! ### width_Touch: function 22 -/
end
end Go.Proofs.YtoffehihicabcaaDoor.X
end
section
/- Connected sets, and whether two sets touch: the program's word and the reference's are one. -/
namespace Go.Proofs.YtoffehihicabcaaDoor.X
open Go.RowKit YtoffehihicabcaaDoorW.PrintWords YtoffehihicabcaaDoorW.PrintLast YtoffehihicabcaaDoorW.PrintMore YtoffehihicabcaaDoor.T
def low (a : Nat) : Nat := (els a 9).headD 0
theorem few_eq (g : List Int) (hg : g.length < 2 ^ 44) : ∃ h, lampblacklaw02_Few.f g = some h ∧ (chk 9 g = true → h = g) ∧ (chk 9 g = false → chk 9 h = false) ∧ h.length ≤ 13 := by
 have hm : mn (g.length : Int) 13 = ((min g.length 13 : Nat) : Int) := mn_nat g.length 13
 refine ⟨g.take (min g.length 13), ?_, ?_, ?_, ?_⟩
 ·unfold lampblacklaw02_Few.f slices_Clone_Graph.f
  simp only [hm, Int.toNat_natCast]
  rw [if_pos (by omega), if_pos (by omega)]
  simp only [Option.bind_some, List.length_nil, List.nil_append]
  rw [if_pos (by rw [List.length_take]; omega)]
  rfl
 ·intro h
  simp only [chk, Bool.and_eq_true, decide_eq_true_eq] at h
  exact List.take_of_length_le (by omega)
 ·intro h
  by_cases hl : g.length ≤ 13
  ·rw [List.take_of_length_le (by omega)]; exact h
  ·unfold chk
   have : ¬ (List.take (min g.length 13) g).length ≤ 9 := by rw [List.length_take]; omega
   rw [decide_eq_false this, Bool.and_false, Bool.false_and]
 ·rw [List.length_take]; omega
end Go.Proofs.YtoffehihicabcaaDoor.X
end
section
namespace Go.Proofs.YtoffehihicabcaaDoor.X
open Go.RowKit YtoffehihicabcaaDoorW.PrintWords YtoffehihicabcaaDoorW.PrintLast YtoffehihicabcaaDoorW.PrintMore
attribute [local go_sem] max2_int min2_int max_two min_two max_three min_three max_four min_four
noncomputable section
/-! ### lampblackref02_turn: function 77 -/
def lampblackref02_turn.f (k : Nat) (l0 : List Int) (a1 : Int) (a2 : Int) : Option (Int) := if 0 ≤ a2 then ((lampblackref01_Reached.f k l0 (Go.bits .or .i64 a1 (shl .i64 1 a2)) a2).bind fun t343 => ((lampblackref02_Around.f k l0 t343).bind fun t344 => ((lampblackref02_Size.f k (Go.bits .andNot .i64 (Go.bits .andNot .i64 t344 a1) (shl .i64 1 a2))).bind fun t345 => (some t345)))) else (none)
end
end Go.Proofs.YtoffehihicabcaaDoor.X
end
section
namespace Go.Proofs.YtoffehihicabcaaDoor.X
open Go.RowKit YtoffehihicabcaaDoorW.PrintWords YtoffehihicabcaaDoorW.PrintLast YtoffehihicabcaaDoorW.PrintMore
attribute [local go_sem] max2_int min2_int max_two min_two max_three min_three max_four min_four
noncomputable section
/-! ### lampblackref02_rest: function 76 -/
mutual
def lampblackref02_rest.l0 : Nat → List Int → Int → List Int → Int → Option (List Int)
 | 0, _, _, _, _ => none
 | k + 1, x0, x3, x4, x5 => if x5 ≥ 0 then (if 0 ≤ x5 then (if x5 < (x4.length : Int) then (lampblackref02_rest.l1 k x0 x3 (x4.set (x5 : Int).toNat x3) x5 (x0.length : Int) 0) else (none)) else (none)) else (some x4)
def lampblackref02_rest.l1 : Nat → List Int → Int → List Int → Int → Int → Int → Option (List Int)
 | 0, _, _, _, _, _, _ => none
 | k + 1, x0, x3, x4, x5, x24, x25 => if x25 < x24 then (if 0 ≤ x25 then (if (Go.bits .and .i64 (shr .i64 x5 x25) 1) = 0 then (if 0 ≤ x5 then (if x5 < (x4.length : Int) then ((lampblackref02_turn.f k x0 x5 x25).bind fun t351 => (if 0 ≤ (Go.bits .or .i64 x5 (shl .i64 1 x25)) then (if (Go.bits .or .i64 x5 (shl .i64 1 x25)) < (x4.length : Int) then (lampblackref02_rest.l1 k x0 x3 (x4.set (x5 : Int).toNat (mn (rd x4 x5) (mx t351 (rd x4 (Go.bits .or .i64 x5 (shl .i64 1 x25)))))) x5 x24 (wrap64 (x25 + 1))) else (none)) else (none))) else (none)) else (none)) else (lampblackref02_rest.l1 k x0 x3 x4 x5 x24 (wrap64 (x25 + 1)))) else (none)) else (lampblackref02_rest.l0 k x0 x3 x4 (wrap64 (x5 - 1)))
end
end
end Go.Proofs.YtoffehihicabcaaDoor.X
end
section
namespace Go.Proofs.YtoffehihicabcaaDoor.X
open Go.RowKit YtoffehihicabcaaDoorW.PrintWords YtoffehihicabcaaDoorW.PrintLast YtoffehihicabcaaDoorW.PrintMore
attribute [local go_sem] max2_int min2_int max_two min_two max_three min_three max_four min_four
noncomputable section
/-! ### lampblackref02_Order: function 40 -/
mutual
def lampblackref02_Order.l0 : Nat → List Int → List Int → List Int → Int → Int → Int → Option (List Int)
 | 0, _, _, _, _, _, _ => none
 | k + 1, x0, x3, x4, x5, x10, x11 => if x11 < x10 then (lampblackref02_Order.l1 k x0 x3 x4 x5 x10 x11 (x0.length : Int) 0) else (some x4)
def lampblackref02_Order.l1 : Nat → List Int → List Int → List Int → Int → Int → Int → Int → Int → Option (List Int)
 | 0, _, _, _, _, _, _, _, _ => none
 | k + 1, x0, x3, x4, x5, x10, x11, x14, x15 => if x15 < x14 then (if 0 ≤ x15 then (if (Go.bits .and .i64 (shr .i64 x5 x15) 1) = 0 then ((lampblackref02_turn.f k x0 x5 x15).bind fun t363 => (if 0 ≤ (Go.bits .or .i64 x5 (shl .i64 1 x15)) then (if (Go.bits .or .i64 x5 (shl .i64 1 x15)) < (x3.length : Int) then (if 0 < (x3.length : Int) then (if (mx t363 (rd x3 (Go.bits .or .i64 x5 (shl .i64 1 x15)))) ≤ (rd x3 0) then (if x4.length < 17592186044416 then (lampblackref02_Order.l0 k x0 x3 (x4 ++ [x15]) (Go.bits .or .i64 x5 (shl .i64 1 x15)) x10 (wrap64 (x11 + 1))) else (none)) else (lampblackref02_Order.l1 k x0 x3 x4 x5 x10 x11 x14 (wrap64 (x15 + 1)))) else (none)) else (none)) else (none))) else (lampblackref02_Order.l1 k x0 x3 x4 x5 x10 x11 x14 (wrap64 (x15 + 1)))) else (none)) else (lampblackref02_Order.l0 k x0 x3 x4 x5 x10 (wrap64 (x11 + 1)))
end
end
end Go.Proofs.YtoffehihicabcaaDoor.X
end
section
namespace Go.Proofs.YtoffehihicabcaaDoor.X
open Go.RowKit YtoffehihicabcaaDoorW.PrintWords YtoffehihicabcaaDoorW.PrintLast YtoffehihicabcaaDoorW.PrintMore
attribute [local go_sem] max2_int min2_int max_two min_two max_three min_three max_four min_four
noncomputable section
/-! ### lampblackref02_Width: function 38 -/
end
end Go.Proofs.YtoffehihicabcaaDoor.X
end
section
namespace Go.Proofs.YtoffehihicabcaaDoor.X
open Go.RowKit YtoffehihicabcaaDoorW.PrintWords YtoffehihicabcaaDoorW.PrintLast YtoffehihicabcaaDoorW.PrintMore
attribute [local go_sem] max2_int min2_int max_two min_two max_three min_three max_four min_four
noncomputable section
/-! ### lampblackref02_Along: function 42 -/
def lampblackref02_Along.l0 : Nat → List Int → Int → Int → List Int → Int → Int → Option (Int)
 | 0, _, _, _, _, _, _ => none
 | k + 1, x0, x5, x6, x9, x10, x11 => if x11 < x10 then (if 0 ≤ x11 then (if x11 < (x9.length : Int) then ((lampblackref02_turn.f k x0 x6 (rd x9 x11)).bind fun t371 => (if 0 ≤ (rd x9 x11) then (lampblackref02_Along.l0 k x0 (mx x5 t371) (Go.bits .or .i64 x6 (shl .i64 1 (rd x9 x11))) x9 x10 (wrap64 (x11 + 1))) else (none))) else (none)) else (none)) else (some x5)
end
end Go.Proofs.YtoffehihicabcaaDoor.X
end
section
namespace Go.Proofs.YtoffehihicabcaaDoor.X
open Go.RowKit YtoffehihicabcaaDoorW.PrintWords YtoffehihicabcaaDoorW.PrintLast YtoffehihicabcaaDoorW.PrintMore
attribute [local go_sem] max2_int min2_int max_two min_two max_three min_three max_four min_four
noncomputable section
/-! ### lampblackref02_IsOrder: function 41 -/
def lampblackref02_IsOrder.l0 : Nat → List Int → Int → Int → List Int → Int → Int → Option (Bool)
 | 0, _, _, _, _, _, _ => none
 | k + 1, x0, x1, x5, x8, x9, x10 => if x10 < x9 then (if 0 ≤ x10 then (if x10 < (x8.length : Int) then (if (rd x8 x10) < 0 then (some false) else (if (rd x8 x10) ≥ x1 then (some false) else (if 0 ≤ (rd x8 x10) then (if (Go.bits .and .i64 (shr .i64 x5 (rd x8 x10)) 1) = 1 then (some false) else (lampblackref02_IsOrder.l0 k x0 x1 (Go.bits .or .i64 x5 (shl .i64 1 (rd x8 x10))) x8 x9 (wrap64 (x10 + 1)))) else (none)))) else (none)) else (none)) else (some ((x0.length : Int) == x1))
end
end Go.Proofs.YtoffehihicabcaaDoor.X
end
