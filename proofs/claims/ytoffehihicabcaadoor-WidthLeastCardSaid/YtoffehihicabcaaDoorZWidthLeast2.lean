/- Part 2 of what WidthLeast rests on: contracts of the functions that it reaches, and what they compute, in plain words. -/
import Derived.Test.YtoffehihicabcaaDoorZWidthLeast1
import Derived.Test.YtoffehihicabcaaDoorZWidthLeast0
import Derived.Outline
set_option linter.unusedVariables false
set_option linter.unusedSimpArgs false
section
/- order, Along and the reference's Order, Along: what they compute. -/
namespace Go.Proofs.YtoffehihicabcaaDoor.X
open Go.RowKit YtoffehihicabcaaDoorW.PrintWords YtoffehihicabcaaDoorW.PrintLast YtoffehihicabcaaDoorW.PrintMore YtoffehihicabcaaDoor.T
/-! rest: behind each set, the least width of an order of the others. -/
/-! The reference's Order is the program's. -/
theorem next_find {G : List Nat} (hn : G.length ≤ 9) {k gone x : Nat} (hx : (els (lft G gone) 9).find? (nextP G k gone) = some x) :
  bset (lft G gone) x ∧ nextP G k gone x = true ∧ ∀ v, v < x → bset (lft G gone) v → nextP G k gone v = false := by
 refine ⟨(mem_els.1 (List.mem_of_find?_eq_some hx)).2, List.find?_some hx, fun v hv hb => ?_⟩
 obtain ⟨_, la, lb, h1, h2⟩ := List.find?_eq_some_iff_append.1 hx
 have hm : v ∈ els (lft G gone) 9 := mem_els.2 ⟨bit_lt (lft_small hn gone) hb, hb⟩
 have hs : (els (lft G gone) 9).Pairwise (· < ·) := List.Pairwise.filter _ List.pairwise_lt_range
 rw [h1] at hm hs
 rcases List.mem_append.1 hm with hm | hm
 ·simpa using h2 v hm
 ·rcases List.mem_cons.1 hm with rfl | hm
  ·omega
  ·have := (List.pairwise_append.1 hs).2.1
   have := (List.pairwise_cons.1 this).1 v hm
   omega
theorem lft_zero_pc {G : List Nat} (hn : G.length ≤ 9) : pc (lft G 0) 9 = G.length := by
 have e : lft G 0 = 2 ^ G.length - 1 := eq_bits fun j => by rw [lft_bit, all_bit]; simp [bset]
 rw [e]
 have : ∀ i : Fin 10, pc (2 ^ i.val - 1) 9 = i.val := by decide
 exact this ⟨G.length, by omega⟩
theorem Order_ev {G : List Nat} (hG : Gr 9 G) {W : Nat} (hW : IsWidth G W) : Ev (fun k => width_Order.f k (gi G)) (gi (ordL G W), 0) := by
 have h : Ev (fun k => width_read.f k (gi G)) (gi G, true) := by
  have h := read_ev (gi G) (by rw [gi_length]; have := hG.most; omega)
  rw [(chk_iff 9 (by omega) _).2 ⟨G, rfl, hG⟩] at h
  exact h
 unfold width_Order.f
 refine Ev.bind h (Ev.if_pos rfl (Ev.bind1 ?_ (Ev.some rfl)))
 unfold width_town_order.f
 rw [if_pos ((chk_iff 9 (by omega) _).2 ⟨G, rfl, hG⟩), gi_toNatO, (widthN_is hG).uniq hW]
theorem Order_bad (g : List Int) (hl : g.length < 2 ^ 60) (h : chk 9 g = false) : Ev (fun k => width_Order.f k g) ([], 2) := by
 have h1 := read_ev g hl
 rw [h] at h1
 unfold width_Order.f
 exact Ev.bind h1 (Ev.if_neg (by simp) (Ev.some rfl))
/-! Along. -/
noncomputable def alongN (G : List Nat) : List Nat → Nat → Nat → Nat
 | [], _, o => o
 | v :: l, gone, o => alongN G l (gone ||| 2 ^ v) (max o (dg G gone v))
theorem along_l0 {G : List Nat} (hG : Gr 9 G) (P : List Nat) (hP : ∀ v ∈ P, v < G.length) (hPl : P.length ≤ 1000) : ∀ d i gone o, i + d = P.length → gone < 2 ^ G.length → Ev (fun k => width_Along.l0 k (gi G) (gone : Nat) (o : Nat) (gi P) (P.length : Int) (i : Int)) (((alongN G (P.drop i) gone o : Nat) : Int), 0) := by
 have hn := hG.most
 have h29 : 2 ^ G.length ≤ 2 ^ 9 := Nat.pow_le_pow_right (by omega) hn
 have hgl := gi_length P
 intro d
 induction d with
 | zero =>
  intro i gone o hi hg
  rw [List.drop_eq_nil_of_le (by omega)]
  exact Ev.step (f := fun _ => some (((o : Nat) : Int), 0)) (fun k => by rw [width_Along.l0, if_neg (by omega)]) (Ev.some rfl)
 | succ d ih =>
  intro i gone o hi hg
  have hil : i < P.length := by omega
  have hv := hP P[i] (List.getElem_mem hil)
  have hr : rd (gi P) (i : Int) = ((P[i] : Nat) : Int) := by rw [rd_gi, List.getD_eq_getElem?_getD, List.getElem?_eq_getElem hil]; rfl
  rw [List.drop_eq_getElem_cons hil, alongN]
  generalize P[i] = v at *
  have hp : 2 ^ v < 2 ^ G.length := Nat.pow_lt_pow_right (by omega) hv
  have next := ih (i + 1) (gone ||| 2 ^ v) (max o (dg G gone v)) (by omega) (Nat.or_lt_two_pow hg hp)
  refine Ev.step (f := fun k => (width_town_degree.f k (gi G) (v : Int) (gone : Int)).bind fun t => if 0 ≤ (v : Int) then width_Along.l0 k (gi G) ((gone ||| 2 ^ v : Nat) : Int) (mx (o : Int) t) (gi P) (P.length : Int) ((i + 1 : Nat) : Int) else none) (fun k => ?_) (Ev.bind (degree_ev G hG gone v hg hv) (Ev.if_pos (by omega) ?_))
  ·rw [width_Along.l0, if_pos (by omega), if_pos (by omega), if_pos (by omega), hr, s_one v (by omega), b_or gone (2 ^ v) (by omega) (by omega), wrap_succ i (by omega)]
  ·rw [mx_nat]; exact next
theorem isOrd2_l0 {G : List Nat} (hG : Gr 9 G) (l : List Int) (hl : l.length < 2 ^ 60) : ∀ (d i : Nat) (P : List Nat), i + d = l.length → l.take i = gi P → (∀ v ∈ P, v < G.length) →
  ∃ r, Ev (fun k => width_town_isOrder.l0 k (gi G) l ((lset P : Nat) : Int) l (l.length : Int) (i : Int)) r ∧ (r = true ↔ IsOrd G.length l) := by
 have hn := hG.most
 have hgl := gi_length G
 intro d
 induction d with
 | zero =>
  intro i P hi hP h2
  have e : l = gi P := by rw [← hP, List.take_of_length_le (by omega)]
  by_cases hlen : l.length = G.length
  ·refine ⟨((lset P : Nat) : Int) == ((2 ^ G.length - 1 : Nat) : Int), Ev.step (fun k => by rw [width_town_isOrder.l0, if_neg (by omega), if_pos (by omega)]) (Ev.bind1 (all_eq G hn) (Ev.some rfl)), ?_⟩
   have hPl : P.length = G.length := by rw [← hlen, e, gi_length]
   rw [beq_iff_eq]
   constructor
   ·intro h
    have h : lset P = 2 ^ G.length - 1 := by omega
    refine ⟨P, e, nodup_of_covers (n := G.length) (by omega) (fun j hj => (lset_bit P j).1 (by rw [h]; exact (all_bit _ j).2 hj)), h2, hPl⟩
   ·rintro ⟨Q, e2, q1, q2, q3⟩
    obtain rfl : P = Q := gi_inj (e.symm.trans e2)
    have : lset P = 2 ^ G.length - 1 := eq_bits fun j => by
     rw [lset_bit, all_bit]
     exact ⟨fun h => h2 j h, fun h => covers_of_nodup q3 q1 h2 j h⟩
    omega
  ·refine ⟨false, Ev.step (f := fun _ => some false) (fun k => by rw [width_town_isOrder.l0, if_neg (by omega), if_neg (by omega)]) (Ev.some rfl), ?_⟩
   simp only [Bool.false_eq_true, false_iff]
   exact fun h => hlen h.length
 | succ d ih =>
  intro i P hi hP h2
  have hil : i < l.length := by omega
  have hP62 : lset P < 2 ^ 62 := Nat.lt_of_lt_of_le (lset_lt h2) (Nat.pow_le_pow_right (by omega) (by omega))
  by_cases h3 : rd l (i : Int) < 0
  ·refine ⟨false, Ev.step (f := fun _ => some false) (fun k => by rw [width_town_isOrder.l0, if_pos (by omega), if_pos (by omega), if_pos (by omega), if_pos h3]) (Ev.some rfl), ?_⟩
   simp only [Bool.false_eq_true, false_iff]
   intro h
   obtain ⟨v, hv, _⟩ := h.get i hil
   omega
  ·by_cases h4 : rd l (i : Int) ≥ (G.length : Int)
   ·refine ⟨false, Ev.step (f := fun _ => some false) (fun k => by rw [width_town_isOrder.l0, if_pos (by omega), if_pos (by omega), if_pos (by omega), if_neg h3, if_pos (by omega)]) (Ev.some rfl), ?_⟩
    simp only [Bool.false_eq_true, false_iff]
    intro h
    obtain ⟨v, hv, hv2⟩ := h.get i hil
    omega
   ·obtain ⟨v, hv⟩ : ∃ v : Nat, rd l (i : Int) = (v : Int) := ⟨(rd l (i : Int)).toNat, by omega⟩
    have hvn : v < G.length := by omega
    obtain ⟨r, h6, h7⟩ := ih (i + 1) (P ++ [v]) (by omega) (take_snoc hP hil v hv) (by
     intro x hx
     rcases List.mem_append.1 hx with h | h
     ·exact h2 x h
     ·rw [List.mem_singleton.1 h]; exact hvn)
    refine ⟨r, Ev.step (fun k => ?_) h6, h7⟩
    have e2 : 2 ^ v < 2 ^ 62 := Nat.pow_lt_pow_right (by omega) (by omega)
    rw [width_town_isOrder.l0, if_pos (by omega), if_pos (by omega), if_pos (by omega), if_neg h3, if_neg (by omega), if_pos (by omega), hv, s_one v (by omega), b_or _ _ hP62 e2, wrap_succ i (by omega), lset_snoc]
theorem isOrd2_ev {G : List Nat} (hG : Gr 9 G) (l : List Int) (hl : l.length < 2 ^ 60) : ∃ r, Ev (fun k => width_town_isOrder.f k (gi G) l) r ∧ (r = true ↔ IsOrd G.length l) :=
 isOrd2_l0 hG l hl l.length 0 [] (by omega) (by simp [gi]) (by simp)
theorem Along_ev {G : List Nat} (hG : Gr 9 G) (P : List Nat) (h : IsOrd G.length (gi P)) : Ev (fun k => width_Along.f k (gi G) (gi P)) (((alongN G P 0 0 : Nat) : Int), 0) := by
 have hn := hG.most
 obtain ⟨Q, e, q1, q2, q3⟩ := id h
 obtain rfl : P = Q := gi_inj e
 have h1 := read_ev (gi G) (by rw [gi_length]; omega)
 rw [(chk_iff 9 (by omega) _).2 ⟨G, rfl, hG⟩] at h1
 obtain ⟨r, h2, h3⟩ := isOrd2_ev hG (gi P) (by rw [gi_length]; omega)
 rw [h3.2 h] at h2
 unfold width_Along.f
 refine Ev.bind h1 (Ev.if_pos rfl (Ev.bind h2 ?_))
 refine Ev.step (fun k => by rw [width_Along.j0, if_neg (by simp), gi_length]) ?_
 exact along_l0 hG P q2 (by omega) P.length 0 0 0 (by omega) (Nat.two_pow_pos _)
theorem Along_no {G : List Nat} (hG : Gr 9 G) (l : List Int) (hl : l.length < 2 ^ 60) (h : ¬ IsOrd G.length l) : Ev (fun k => width_Along.f k (gi G) l) (0, 2) := by
 have hn := hG.most
 have h1 := read_ev (gi G) (by rw [gi_length]; omega)
 rw [(chk_iff 9 (by omega) _).2 ⟨G, rfl, hG⟩] at h1
 obtain ⟨r, h2, h3⟩ := isOrd2_ev hG l hl
 have hr : r = false := by
  cases r
  ·rfl
  ·exact absurd (h3.1 rfl) h
 rw [hr] at h2
 unfold width_Along.f
 refine Ev.bind h1 (Ev.if_pos rfl (Ev.bind h2 ?_))
 exact Ev.step (f := fun _ => some (0, 2)) (fun k => by rw [width_Along.j0, if_pos (by simp)]) (Ev.some rfl)
end Go.Proofs.YtoffehihicabcaaDoor.X
end
section
namespace Go.Proofs.YtoffehihicabcaaDoor.X
open Go.RowKit YtoffehihicabcaaDoorW.PrintWords YtoffehihicabcaaDoorW.PrintLast YtoffehihicabcaaDoorW.PrintMore
attribute [local go_sem] max2_int min2_int max_two min_two max_three min_three max_four min_four
noncomputable section
/-! ### lampblackref02_IsBramble: function 33 -/
mutual
def lampblackref02_IsBramble.l0 : Nat → List Int → List Int → List Int → Int → Int → Option (Bool)
 | 0, _, _, _, _, _ => none
 | k + 1, x0, x1, x9, x10, x11 => if x11 < x10 then (if 0 ≤ x11 then (if x11 < (x9.length : Int) then (if x11 ≥ 200 then (lampblackref02_IsBramble.j1 k x0 x1 x11 (rd x9 x11) x9 x10 x11 true) else ((lampblackref02_Connected.f k x0 (rd x9 x11)).bind fun t296 => (lampblackref02_IsBramble.j1 k x0 x1 x11 (rd x9 x11) x9 x10 x11 (!t296)))) else (none)) else (none)) else (some (decide ((x1.length : Int) > 0)))
def lampblackref02_IsBramble.j1 : Nat → List Int → List Int → Int → Int → List Int → Int → Int → Bool → Option (Bool)
 | 0, _, _, _, _, _, _, _, _ => none
 | k + 1, x0, x1, x5, x6, x9, x10, x11, x23 => if x23 = true then (some false) else (if 0 ≤ x5 then (if x5 ≤ (x1.length : Int) then (lampblackref02_IsBramble.l1 k x0 x1 x6 x9 x10 x11 (x1.take (x5 : Int).toNat) ((x1.take (x5 : Int).toNat).length : Int) 0) else (none)) else (none))
def lampblackref02_IsBramble.l1 : Nat → List Int → List Int → Int → List Int → Int → Int → List Int → Int → Int → Option (Bool)
 | 0, _, _, _, _, _, _, _, _, _ => none
 | k + 1, x0, x1, x6, x9, x10, x11, x26, x27, x28 => if x28 < x27 then (if 0 ≤ x28 then (if x28 < (x26.length : Int) then ((lampblackref02_Touch.f k x0 x6 (rd x26 x28)).bind fun t299 => (if t299 = true then (lampblackref02_IsBramble.l1 k x0 x1 x6 x9 x10 x11 x26 x27 (wrap64 (x28 + 1))) else (some false))) else (none)) else (none)) else (lampblackref02_IsBramble.l0 k x0 x1 x9 x10 (wrap64 (x11 + 1)))
end
end
end Go.Proofs.YtoffehihicabcaaDoor.X
end
section
namespace Go.Proofs.YtoffehihicabcaaDoor.X
open Go.RowKit YtoffehihicabcaaDoorW.PrintWords YtoffehihicabcaaDoorW.PrintLast YtoffehihicabcaaDoorW.PrintMore
attribute [local go_sem] max2_int min2_int max_two min_two max_three min_three max_four min_four
noncomputable section
/-! ### lampblackref02_Cover: function 34 -/
mutual
def lampblackref02_Cover.l0 : Nat → List Int → Int → Int → Int → Option (Int)
 | 0, _, _, _, _ => none
 | k + 1, x1, x5, x16, x17 => if x17 < x16 then ((lampblackref02_Size.f k x17).bind fun t300 => ((lampblackref02_Size.f k x5).bind fun t301 => (lampblackref02_Cover.l1 k x1 x5 x17 (decide (t300 < t301)) x16 x17 x1 (x1.length : Int) 0))) else (some x5)
def lampblackref02_Cover.l1 : Nat → List Int → Int → Int → Bool → Int → Int → List Int → Int → Int → Option (Int)
 | 0, _, _, _, _, _, _, _, _, _ => none
 | k + 1, x1, x5, x6, x7, x16, x17, x25, x26, x27 => if x27 < x26 then (if 0 ≤ x27 then (if x27 < (x25.length : Int) then (if x7 = true then (lampblackref02_Cover.l1 k x1 x5 x6 ((Go.bits .and .i64 (rd x25 x27) x6) != 0) x16 x17 x25 x26 (wrap64 (x27 + 1))) else (lampblackref02_Cover.l1 k x1 x5 x6 false x16 x17 x25 x26 (wrap64 (x27 + 1)))) else (none)) else (none)) else (if x7 = true then (lampblackref02_Cover.l0 k x1 x6 x16 (wrap64 (x17 + 1))) else (lampblackref02_Cover.l0 k x1 x5 x16 (wrap64 (x17 + 1))))
end
end
end Go.Proofs.YtoffehihicabcaaDoor.X
end
section
namespace Go.Proofs.YtoffehihicabcaaDoor.X
open Go.RowKit YtoffehihicabcaaDoorW.PrintWords YtoffehihicabcaaDoorW.PrintLast YtoffehihicabcaaDoorW.PrintMore
attribute [local go_sem] max2_int min2_int max_two min_two max_three min_three max_four min_four
noncomputable section
/-! ### width_CheckBramble: function 30 -/
end
end Go.Proofs.YtoffehihicabcaaDoor.X
end
section
namespace Go.Proofs.YtoffehihicabcaaDoor.X
open Go.RowKit YtoffehihicabcaaDoorW.PrintWords YtoffehihicabcaaDoorW.PrintLast YtoffehihicabcaaDoorW.PrintMore
attribute [local go_sem] max2_int min2_int max_two min_two max_three min_three max_four min_four
noncomputable section
/-! ### width_Cover: function 32 -/
end
end Go.Proofs.YtoffehihicabcaaDoor.X
end
section
/- Brambles and their covers: the program's word and the reference's are one. -/
namespace Go.Proofs.YtoffehihicabcaaDoor.X
open Go.RowKit YtoffehihicabcaaDoorW.PrintWords YtoffehihicabcaaDoorW.PrintLast YtoffehihicabcaaDoorW.PrintMore YtoffehihicabcaaDoor.T
theorem list_eq (l : List Int) (hl : l.length < 2 ^ 44) : lampblacklaw02_list.f l = some (l.take 210) := by
 have hm : mn (l.length : Int) 210 = ((min l.length 210 : Nat) : Int) := mn_nat l.length 210
 have ht : l.take (min l.length 210) = l.take 210 := by
  by_cases h : l.length ≤ 210
  ·rw [List.take_of_length_le (by omega), List.take_of_length_le h]
  ·rw [show min l.length 210 = 210 by omega]
 unfold lampblacklaw02_list.f slices_Clone_int_int.f
 rw [hm, Int.toNat_natCast, if_pos (by omega), if_pos (by omega), ht]
 simp only [Option.bind_some, List.length_nil, List.nil_append]
 rw [if_pos (by rw [List.length_take]; omega)]
 rfl
end Go.Proofs.YtoffehihicabcaaDoor.X
end
section
/- WidthLeast, without Go and memory: Width is the width of Order, and no order has a lesser one. -/
namespace Go.Proofs.YtoffehihicabcaaDoor.Pure
open Go.RowKit YtoffehihicabcaaDoorW.PrintWords YtoffehihicabcaaDoorW.PrintLast YtoffehihicabcaaDoorW.PrintMore YtoffehihicabcaaDoor.T YtoffehihicabcaaDoor.X
theorem take_ord {n : Nat} (hn : n ≤ 9) (l : List Int) : IsOrd n (l.take 210) ↔ IsOrd n l := by
 by_cases h : l.length ≤ 210
 ·rw [List.take_of_length_le h]
 ·constructor
  ·intro h2; have := h2.length; rw [List.length_take] at this; omega
  ·intro h2; have := h2.length; omega
def RestL (G : List Nat) (gone : Nat) (l : List Nat) : Prop := l.Nodup ∧ ∀ u, u ∈ l ↔ bset (lft G gone) u
theorem RestL.tail {G : List Nat} {gone v : Nat} {l : List Nat} (h : RestL G gone (v :: l)) : RestL G (gone ||| 2 ^ v) l := by
 obtain ⟨h1, h2⟩ := h
 rw [List.nodup_cons] at h1
 refine ⟨h1.2, fun u => ?_⟩
 rw [lft_or, diff_bset, two_pow_bit, ← h2 u, List.mem_cons]
 constructor
 ·intro hu; exact ⟨.inr hu, fun e => h1.1 (e ▸ hu)⟩
 ·rintro ⟨rfl | hu, hne⟩
  ·exact absurd rfl hne
  ·exact hu
theorem alongN_ge (G : List Nat) : ∀ (l : List Nat) (gone o : Nat), o ≤ alongN G l gone o
 | [], gone, o => Nat.le_refl _
 | v :: l, gone, o => by
  rw [alongN]
  have := alongN_ge G l (gone ||| 2 ^ v) (max o (dg G gone v))
  omega
theorem alongN_up (G : List Nat) : ∀ (l : List Nat) (gone o o' : Nat), o ≤ o' → alongN G l gone o ≤ alongN G l gone o'
 | [], gone, o, o', h => h
 | v :: l, gone, o, o', h => by
  rw [alongN, alongN]
  exact alongN_up G l _ _ _ (by omega)
section
variable {G : List Nat} (hn : G.length ≤ 9)
include hn
theorem can_of_along {m : Nat} : ∀ (l : List Nat) (gone o : Nat), RestL G gone l → gone < 2 ^ G.length → alongN G l gone o ≤ m → canB G m gone = true
 | [], gone, o, h, hg, ha => by
  have : gone = 2 ^ G.length - 1 := Classical.byContradiction fun hne => by
   obtain ⟨v, hv⟩ := some_bit (lft_ne hg hne)
   have := (h.2 v).2 hv
   cases this
  rw [this]; exact canB_all m
 | v :: l, gone, o, h, hg, ha => by
  have hv := (h.2 v).1 List.mem_cons_self
  have hne : gone ≠ 2 ^ G.length - 1 := fun e => by rw [e, lft_all] at hv; simp [bset] at hv
  rw [alongN] at ha
  have h1 := alongN_ge G l (gone ||| 2 ^ v) (max o (dg G gone v))
  exact (canB_true hn hg hne).2 ⟨v, hv, by omega, can_of_along l _ _ h.tail (or_in hg hv) ha⟩
theorem find_next {k gone : Nat} (hg : gone < 2 ^ G.length) (hne : gone ≠ 2 ^ G.length - 1) (hc : canB G k gone = true) : ∃ x, (els (lft G gone) 9).find? (nextP G k gone) = some x := by
 obtain ⟨v, h1, h2, h3⟩ := (canB_true hn hg hne).1 hc
 have hm : v ∈ els (lft G gone) 9 := mem_els.2 ⟨bit_lt (lft_small hn gone) h1, h1⟩
 cases hf : (els (lft G gone) 9).find? (nextP G k gone) with
 | some x => exact ⟨x, rfl⟩
 | none =>
  have := List.find?_eq_none.1 hf v hm
  unfold nextP at this
  rw [h3, decide_eq_true h2] at this
  simp at this
theorem ordD_is {k : Nat} : ∀ d gone, pc (lft G gone) 9 = d → gone < 2 ^ G.length → canB G k gone = true → RestL G gone (ordD G k d gone) ∧ ∀ o, alongN G (ordD G k d gone) gone o ≤ max o k := by
 intro d
 induction d with
 | zero =>
  intro gone hd hg hc
  have : gone = 2 ^ G.length - 1 := Classical.byContradiction fun hne => pc_pos (lft_small hn gone) (lft_ne hg hne) hd
  rw [ordD]
  refine ⟨⟨List.nodup_nil, fun u => ?_⟩, fun o => by rw [alongN]; omega⟩
  rw [this, lft_all]
  simp [bset]
 | succ d ih =>
  intro gone hd hg hc
  have hne : gone ≠ 2 ^ G.length - 1 := fun h => by rw [h, lft_all] at hd; simp [pc] at hd
  obtain ⟨x, hx⟩ := find_next hn hg hne hc
  obtain ⟨h1, h2, h3⟩ := next_find hn hx
  have hpc := pc_lft hn h1
  unfold nextP at h2
  rw [Bool.and_eq_true, decide_eq_true_eq] at h2
  obtain ⟨⟨i1, i2⟩, i3⟩ := ih (gone ||| 2 ^ x) (by omega) (or_in hg h1) h2.2
  rw [ordD, hx]
  refine ⟨⟨?_, fun u => ?_⟩, fun o => ?_⟩
  ·show (x :: ordD G k d (gone ||| 2 ^ x)).Nodup
   refine List.nodup_cons.2 ⟨fun hm => ?_, i1⟩
   have := (i2 x).1 hm
   rw [lft_or, diff_bset, two_pow_bit] at this
   exact this.2 rfl
  ·show u ∈ x :: ordD G k d (gone ||| 2 ^ x) ↔ _
   rw [List.mem_cons, i2 u, lft_or, diff_bset, two_pow_bit]
   constructor
   ·rintro (rfl | h)
    ·exact h1
    ·exact h.1
   ·intro h
    by_cases e : u = x
    ·exact .inl e
    ·exact .inr ⟨h, e⟩
  ·show alongN G (x :: ordD G k d (gone ||| 2 ^ x)) gone o ≤ max o k
   rw [alongN]
   have := i3 (max o (dg G gone x))
   omega
def LexLE : List Nat → List Nat → Prop
 | [], _ => True
 | _ :: _, [] => False
 | a :: A, b :: B => a < b ∨ (a = b ∧ LexLE A B)
theorem ordD_lex {k : Nat} : ∀ d gone (P : List Nat), pc (lft G gone) 9 = d → gone < 2 ^ G.length → RestL G gone P → alongN G P gone 0 ≤ k → LexLE (ordD G k d gone) P := by
 intro d
 induction d with
 | zero => intro gone P hd hg hP ha; rw [ordD]; trivial
 | succ d ih =>
  intro gone P hd hg hP ha
  have hne : gone ≠ 2 ^ G.length - 1 := fun h => by rw [h, lft_all] at hd; simp [pc] at hd
  have hc := can_of_along hn P gone 0 hP hg ha
  obtain ⟨x, hx⟩ := find_next hn hg hne hc
  obtain ⟨h1, h2, h3⟩ := next_find hn hx
  have hpc := pc_lft hn h1
  rw [ordD, hx]
  match P, hP, ha with
  | [], hP, ha =>
   have := (hP.2 x).2 h1
   cases this
  | y :: P, hP, ha =>
   have hy := (hP.2 y).1 List.mem_cons_self
   rw [alongN] at ha
   have hge := alongN_ge G P (gone ||| 2 ^ y) (max 0 (dg G gone y))
   have hcy := can_of_along hn P _ _ hP.tail (or_in hg hy) ha
   have hny : nextP G k gone y = true := by
    unfold nextP
    rw [hcy, decide_eq_true (by omega)]
    rfl
   show x < y ∨ (x = y ∧ LexLE (ordD G k d (gone ||| 2 ^ x)) P)
   by_cases e : x = y
   ·subst e
    refine .inr ⟨rfl, ih _ P (by omega) (or_in hg h1) hP.tail ?_⟩
    exact Nat.le_trans (alongN_up G P _ 0 _ (by omega)) ha
   ·refine .inl (Nat.lt_of_not_le fun hle => ?_)
    have := h3 y (by omega) hy
    rw [hny] at this
    cases this
end
theorem cmp_int (a b : Int) : cmp_Compare_int.f a b = some (if a < b then -1 else if a > b then 1 else 0) := by
 unfold cmp_Compare_int.f cmp_isNaN_int.f
 simp
 split
 ·rfl
 ·split <;> rfl
theorem cmp_l0 (A B : List Nat) (hl : A.length = B.length) (hs : A.length ≤ 1000) : ∀ d i, i + d = A.length → LexLE (A.drop i) (B.drop i) → ∃ r : Int, r ≤ 0 ∧ Ev (fun k => slices_Compare_int_int.l0 k (gi A) (gi B) (gi A) (A.length : Int) (i : Int)) r := by
 have ha := gi_length A
 have hb := gi_length B
 intro d
 induction d with
 | zero =>
  intro i hi h
  exact ⟨0, by omega, Ev.step (f := fun _ => some 0) (fun k => by rw [slices_Compare_int_int.l0, if_neg (by omega), if_neg (by omega)]) (Ev.some rfl)⟩
 | succ d ih =>
  intro i hi h
  have hi1 : i < A.length := by omega
  have hi2 : i < B.length := by omega
  have r1 : rd (gi A) (i : Int) = ((A[i] : Nat) : Int) := by rw [rd_gi, List.getD_eq_getElem?_getD, List.getElem?_eq_getElem hi1]; rfl
  have r2 : rd (gi B) (i : Int) = ((B[i] : Nat) : Int) := by rw [rd_gi, List.getD_eq_getElem?_getD, List.getElem?_eq_getElem hi2]; rfl
  rw [List.drop_eq_getElem_cons hi1, List.drop_eq_getElem_cons hi2] at h
  generalize A[i] = x at *
  generalize B[i] = y at *
  rcases h with h | ⟨h, h'⟩
  ·refine ⟨-1, by omega, Ev.step (fun k => by rw [slices_Compare_int_int.l0, if_pos (by omega), if_pos (by omega), if_pos (by omega), if_neg (by omega), if_pos (by omega), r1, r2]) (Ev.bind1 (cmp_int _ _) ?_)⟩
   rw [if_pos (by omega)]
   exact Ev.if_neg (by omega) (Ev.some rfl)
  ·subst h
   obtain ⟨r, hr, hE⟩ := ih (i + 1) (by omega) h'
   refine ⟨r, hr, Ev.step (fun k => by rw [slices_Compare_int_int.l0, if_pos (by omega), if_pos (by omega), if_pos (by omega), if_neg (by omega), if_pos (by omega), r1, r2, wrap_succ i (by omega)]) (Ev.bind1 (cmp_int _ _) ?_)⟩
   rw [if_neg (by omega), if_neg (by omega)]
   exact Ev.if_pos rfl hE
theorem cmp_any (A B : List Nat) (hl : A.length = B.length) (hs : A.length ≤ 1000) : ∀ d i, i + d = A.length → ∃ r : Int, Ev (fun k => slices_Compare_int_int.l0 k (gi A) (gi B) (gi A) (A.length : Int) (i : Int)) r := by
 have ha := gi_length A
 have hb := gi_length B
 intro d
 induction d with
 | zero =>
  intro i hi
  exact ⟨0, Ev.step (f := fun _ => some 0) (fun k => by rw [slices_Compare_int_int.l0, if_neg (by omega), if_neg (by omega)]) (Ev.some rfl)⟩
 | succ d ih =>
  intro i hi
  have hi1 : i < A.length := by omega
  have hi2 : i < B.length := by omega
  by_cases h : (if rd (gi A) (i : Int) < rd (gi B) (i : Int) then (-1 : Int) else if rd (gi A) (i : Int) > rd (gi B) (i : Int) then 1 else 0) = 0
  ·obtain ⟨r, hE⟩ := ih (i + 1) (by omega)
   exact ⟨r, Ev.step (fun k => by rw [slices_Compare_int_int.l0, if_pos (by omega), if_pos (by omega), if_pos (by omega), if_neg (by omega), if_pos (by omega), wrap_succ i (by omega)]) (Ev.bind1 (cmp_int _ _) (Ev.if_pos h hE))⟩
  ·exact ⟨_, Ev.step (fun k => by rw [slices_Compare_int_int.l0, if_pos (by omega), if_pos (by omega), if_pos (by omega), if_neg (by omega), if_pos (by omega)]) (Ev.bind1 (cmp_int _ _) (Ev.if_neg h (Ev.some rfl)))⟩
theorem rest_all {G P : List Nat} (h1 : P.Nodup) (h2 : ∀ v ∈ P, v < G.length) (h3 : P.length = G.length) : RestL G 0 P := by
 refine ⟨h1, fun u => ?_⟩
 rw [lft_bit]
 exact ⟨fun h => ⟨h2 u h, by simp [bset]⟩, fun h => covers_of_nodup h3 h1 h2 u h.1⟩
theorem least_law (g l : List Int) (hg : g.length < 2 ^ 44) (hl : l.length < 2 ^ 44) : Ev (fun k => lampblacklaw02_WidthLeast.f k g l) true := by
 obtain ⟨h, e, e1, e2, e3⟩ := few_eq g hg
 have hli := list_eq l hl
 have h210 : (l.take 210).length ≤ 210 := by rw [List.length_take]; omega
 unfold lampblacklaw02_WidthLeast.f
 refine Ev.bind1 e ?_
 by_cases hc : chk 9 g = true
 ·obtain ⟨G, rfl, hG⟩ := (chk_iff 9 (by omega) _).1 hc
  rw [e1 hc] at e ⊢
  have hn := hG.most
  have h2n := Nat.two_pow_pos G.length
  obtain ⟨W, hW, hWe⟩ := Width_ev G hG
  have hc0 : canB G W 0 = true := (canB_zero hn hG).2 ((hW W).1 (Nat.le_refl _))
  obtain ⟨⟨o1, o2⟩, o3⟩ := ordD_is hn (k := W) G.length 0 (lft_zero_pc hn) h2n hc0
  have oin : ∀ v ∈ ordL G W, v < G.length := fun v hv => ((lft_bit G 0 v).1 ((o2 v).1 hv)).1
  have olen : (ordL G W).length = G.length := by
   refine Nat.le_antisymm (by have := nodup_le o1 (m := List.range G.length) fun v hv => List.mem_range.2 (oin v hv); rw [List.length_range] at this; exact this) ?_
   have := nodup_le (List.nodup_range (n := G.length)) (m := ordL G W) fun v hv => (o2 v).2 ((lft_bit G 0 v).2 ⟨List.mem_range.1 hv, by simp [bset]⟩)
   simpa using this
  have hord : IsOrd G.length (gi (ordL G W)) := ⟨_, rfl, o1, oin, olen⟩
  have ge : ∀ P : List Nat, RestL G 0 P → W ≤ alongN G P 0 0 := fun P hP => by
   have := can_of_along hn P 0 0 hP h2n (Nat.le_refl _)
   exact (hW _).2 ((canB_zero hn hG).1 this)
  have hal : alongN G (ordL G W) 0 0 = W := Nat.le_antisymm (by have := o3 0; unfold ordL; omega) (ge _ ⟨o1, o2⟩)
  have hA := Along_ev hG (ordL G W) hord
  rw [hal] at hA
  have front : ∀ (r : Int × Int) (F : Nat → Int × Int → Option Bool), Ev (fun k => width_Along.f k (gi G) (l.take 210)) r → Ev (fun k => F k r) true →
    Ev (fun k => (width_Along.f k (gi G) (l.take 210)).bind fun bt => F k bt) true := fun r F h1 h2 => Ev.bind h1 h2
  refine Ev.bind hWe (Ev.bind1 e (Ev.bind (Order_ev hG hW) (Ev.if_pos rfl (Ev.bind1 e (Ev.bind hA (Ev.bind1 e (Ev.bind1 hli ?_)))))))
  by_cases ho : IsOrd G.length l
  ·obtain ⟨P, rfl, q1, q2, q3⟩ := ho
   have hP := rest_all q1 q2 q3
   have ht : (gi P).take 210 = gi P := List.take_of_length_le (by rw [gi_length]; omega)
   have hAP := Along_ev hG P ⟨P, rfl, q1, q2, q3⟩
   rw [ht]
   have hge := ge P hP
   refine Ev.bind hAP (Ev.if_pos rfl (Ev.if_pos rfl (Ev.if_pos rfl (Ev.if_neg (by simp) (Ev.if_pos rfl (Ev.if_pos (by show ((alongN G P 0 0 : Nat) : Int) ≥ (W : Int); omega) ?_))))))
   by_cases hgt : W < alongN G P 0 0
   ·obtain ⟨r, hr⟩ := cmp_any (ordL G W) P (by omega) (by omega) (ordL G W).length 0 (by omega)
    have hcmp : Ev (fun k => slices_Compare_int_int.f k (gi (ordL G W)) (gi P)) r := by
     unfold slices_Compare_int_int.f
     rw [gi_length]
     exact hr
    refine Ev.bind hcmp ?_
    by_cases hr0 : r ≤ 0
    ·exact Ev.if_pos hr0 (Ev.bind awake_ev (Ev.some rfl))
    ·exact Ev.if_neg hr0 (Ev.if_pos (by show ((alongN G P 0 0 : Nat) : Int) > (W : Int); omega) (Ev.bind awake_ev (Ev.some rfl)))
   ·have hlex := ordD_lex hn (k := W) G.length 0 P (lft_zero_pc hn) h2n hP (by omega)
    obtain ⟨r, hr0, hr⟩ := cmp_l0 (ordL G W) P (by omega) (by omega) (ordL G W).length 0 (by omega) (by rw [List.drop_zero, List.drop_zero]; exact hlex)
    have hcmp : Ev (fun k => slices_Compare_int_int.f k (gi (ordL G W)) (gi P)) r := by
     unfold slices_Compare_int_int.f
     rw [gi_length]
     exact hr
    exact Ev.bind hcmp (Ev.if_pos hr0 (Ev.bind awake_ev (Ev.some rfl)))
  ·have hno : ¬ IsOrd G.length (l.take 210) := fun h => ho ((take_ord hn l).1 h)
   exact Ev.bind (Along_no hG _ (by omega) hno) (Ev.if_pos rfl (Ev.if_pos rfl (Ev.if_pos rfl (Ev.if_pos rfl (Ev.bind awake_ev (Ev.some rfl))))))
 ·have hc' : chk 9 g = false := by simpa using hc
  exact Ev.bind (Width_bad h (by omega) (e2 hc')) (Ev.bind1 e (Ev.bind (Order_bad h (by omega) (e2 hc')) (Ev.if_neg (by simp) (Ev.if_pos rfl (Ev.if_pos rfl (Ev.bind awake_ev (Ev.some rfl)))))))
theorem WidthLeast : ∀ (l0 l1 : List Int), l0.length ≤ maxLen → l0.length * 8 ≤ 140737488351232 → (∀ x ∈ l0, (Lit.int .i64 x).wf = true) → l1.length ≤ maxLen → l1.length * 8 ≤ 140737488351232 → (∀ x ∈ l1, (Lit.int .i64 x).wf = true) → ∃ k, lampblacklaw02_WidthLeast.f k l0 l1 = some true := by
 intro g l _ hg _ _ hl _
 exact Ev.rounds (least_law g l (by omega) (by omega))
end Go.Proofs.YtoffehihicabcaaDoor.Pure
end
