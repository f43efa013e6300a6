/- Part 4 of what MinorRound rests on: contracts of the functions that it reaches, and what they compute, in plain words. -/
import Derived.Test.YtjloppfdagfpmaaDoorZMinorRound3
import Derived.Test.YtjloppfdagfpmaaDoorZMinorRound1
import Derived.Test.YtjloppfdagfpmaaDoorZMinorRound0
import Derived.ArgAppend
import Derived.Test.YtjloppfdagfpmaaDoorZMinorRound2
set_option linter.unusedVariables false
set_option linter.unusedSimpArgs false
section
/- (minor) The reductions of a graph without K(4). -/
namespace Go.Proofs.YtjloppfdagfpmaaDoor.X
open Go.RowKit YtjloppfdagfpmaaDoorW.PrintWords YtjloppfdagfpmaaDoorW.PrintLast YtjloppfdagfpmaaDoorW.PrintMore YtjloppfdagfpmaaDoor.T
def AL (J : List Nat) (left x y : Nat) : Prop := bset left x ∧ bset left y ∧ Adj J x y
structure RInv (n : Nat) (J : List Nat) (left : Nat) : Prop where
 inn : InN n J
 lt : left < 2 ^ n
 sym : ∀ x y, bset left x → bset left y → Adj J x y → Adj J y x
 irr : ∀ x, bset left x → ¬ Adj J x x
theorem RInv.alsym {n : Nat} {J : List Nat} {left : Nat} (h : RInv n J left) (x y : Nat) (ha : AL J left x y) : AL J left y x := ⟨ha.2.1, ha.1, h.sym x y ha.1 ha.2.1 ha.2.2⟩
theorem RInv.alirr {n : Nat} {J : List Nat} {left : Nat} (h : RInv n J left) (x : Nat) (ha : AL J left x x) : False := h.irr x ha.1 ha.2.2
theorem mem_near {n : Nat} {J : List Nat} {left : Nat} (h : RInv n J left) (hn : n ≤ 9) {v y : Nat} (hv : bset left v) : y ∈ nearL J left v ↔ AL J left v y := by
 unfold nearL
 rw [mem_els, Nat.testBit_and, Bool.and_eq_true]
 constructor
 ·rintro ⟨_, h1, h2⟩
  exact ⟨hv, h2, h1⟩
 ·rintro ⟨_, h2, h1⟩
  exact ⟨Nat.lt_of_lt_of_le (bit_lt h.lt h2) hn, h1, h2⟩
theorem near_nodup (J : List Nat) (left v : Nat) : (nearL J left v).Nodup := els_nodup _ _
theorem near_atMost {n : Nat} {J : List Nat} {left : Nat} (h : RInv n J left) (hn : n ≤ 9) {v : Nat} (hv : bset left v) : AtMost 2 (AL J left v) ↔ (nearL J left v).length ≤ 2 := by
 constructor
 ·rintro ⟨l, hl, hm⟩
  exact Nat.le_trans (nodup_le (near_nodup J left v) fun y hy => hm y ((mem_near h hn hv).1 hy)) hl
 ·intro hl
  exact ⟨_, hl, fun u hu => (mem_near h hn hv).2 hu⟩
theorem diff_bit (left v x : Nat) : bset (diff left (2 ^ v)) x ↔ bset left x ∧ x ≠ v := by
 rw [diff_bset, two_pow_bit]
theorem step_fil {n : Nat} {J : List Nat} {left : Nat} (h : RInv n J left) (hn : n ≤ 9) {v : Nat} (hv : bset left v) (h2 : (nearL J left v).length ≤ 2) :
  RInv n (nextJ J left v) (diff left (2 ^ v)) ∧ ∀ x y, AL (nextJ J left v) (diff left (2 ^ v)) x y ↔ Fil (AL J left) v x y := by
 have hlt : diff left (2 ^ v) < 2 ^ n := Nat.lt_of_le_of_lt (diff_le _ _) h.lt
 have key : ∀ (J' : List Nat), InN n J' → (∀ x y, bset left x → bset left y → x ≠ v → y ≠ v → (Adj J' x y ↔ Adj J x y ∨ (x ≠ y ∧ AL J left x v ∧ AL J left v y))) → RInv n J' (diff left (2 ^ v)) ∧ ∀ x y, AL J' (diff left (2 ^ v)) x y ↔ Fil (AL J left) v x y := by
  intro J' hi hA
  refine ⟨⟨hi, hlt, fun x y hx hy ha => ?_, fun x hx ha => ?_⟩, fun x y => ?_⟩
  ·rw [diff_bit] at hx hy
   rcases (hA x y hx.1 hy.1 hx.2 hy.2).1 ha with h1 | ⟨h1, h3, h4⟩
   ·exact (hA y x hy.1 hx.1 hy.2 hx.2).2 (.inl (h.sym x y hx.1 hy.1 h1))
   ·exact (hA y x hy.1 hx.1 hy.2 hx.2).2 (.inr ⟨fun e => h1 e.symm, h.alsym _ _ h4, h.alsym _ _ h3⟩)
  ·rw [diff_bit] at hx
   rcases (hA x x hx.1 hx.1 hx.2 hx.2).1 ha with h1 | ⟨h1, _⟩
   ·exact h.irr x hx.1 h1
   ·exact h1 rfl
  ·unfold AL Fil
   rw [diff_bit, diff_bit]
   constructor
   ·rintro ⟨hx, hy, ha⟩
    rcases (hA x y hx.1 hy.1 hx.2 hy.2).1 ha with h1 | ⟨h1, h3, h4⟩
    ·exact ⟨fun e => h.irr x hx.1 (e ▸ h1), hx.2, hy.2, .inl ⟨hx.1, hy.1, h1⟩⟩
    ·exact ⟨h1, hx.2, hy.2, .inr ⟨h3, h4⟩⟩
   ·rintro ⟨h1, hxv, hyv, ⟨hx, hy, ha⟩ | ⟨h3, h4⟩⟩
    ·exact ⟨⟨hx, hxv⟩, ⟨hy, hyv⟩, (hA x y hx hy hxv hyv).2 (.inl ha)⟩
    ·exact ⟨⟨h3.1, hxv⟩, ⟨h4.2.1, hyv⟩, (hA x y h3.1 h4.2.1 hxv hyv).2 (.inr ⟨h1, h3, h4⟩)⟩
 have hmem : ∀ y, y ∈ nearL J left v ↔ AL J left v y := fun y => mem_near h hn hv
 have hnd := near_nodup J left v
 have hin : ∀ y, y ∈ nearL J left v → y < n := fun y hy => bit_lt h.lt ((hmem y).1 hy).2.1
 unfold nextJ
 match hL : nearL J left v, h2 with
 | [], _ =>
  refine key J h.inn fun x y hx hy hxv hyv => ⟨.inl, fun hh => hh.elim id fun ⟨_, h3, h4⟩ => ?_⟩
  have := (hmem y).2 h4
  rw [hL] at this; cases this
 | [a], _ =>
  refine key J h.inn fun x y hx hy hxv hyv => ⟨.inl, fun hh => hh.elim id fun ⟨h1, h3, h4⟩ => ?_⟩
  have q1 := (hmem y).2 h4
  have q2 := (hmem x).2 (h.alsym _ _ h3)
  rw [hL] at q1 q2
  exact absurd ((List.mem_singleton.1 q2).trans (List.mem_singleton.1 q1).symm) h1
 | [a, b], _ =>
  have ha : a ∈ nearL J left v := by rw [hL]; simp
  have hb : b ∈ nearL J left v := by rw [hL]; simp
  have hab : a ≠ b := by rw [hL] at hnd; simp at hnd; exact hnd
  refine key (joinN J a b) (h.inn.join (hin a ha) (hin b hb)) fun x y hx hy hxv hyv => ?_
  rw [joinN_adj h.inn (hin a ha) (hin b hb) hab]
  constructor
  ·rintro (h1 | ⟨rfl, rfl⟩ | ⟨rfl, rfl⟩)
   ·exact .inl h1
   ·exact .inr ⟨hab, h.alsym _ _ ((hmem _).1 ha), (hmem _).1 hb⟩
   ·exact .inr ⟨fun e => hab e.symm, h.alsym _ _ ((hmem _).1 hb), (hmem _).1 ha⟩
  ·rintro (h1 | ⟨h1, h3, h4⟩)
   ·exact .inl h1
   ·have q1 := (hmem y).2 h4
    have q2 := (hmem x).2 (h.alsym _ _ h3)
    rw [hL] at q1 q2
    simp only [List.mem_cons, List.not_mem_nil, or_false] at q1 q2
    rcases q1 with rfl | rfl <;> rcases q2 with rfl | rfl
    ·exact absurd rfl h1
    ·exact .inr (.inr ⟨rfl, rfl⟩)
    ·exact .inr (.inl ⟨rfl, rfl⟩)
    ·exact absurd rfl h1
 | a :: b :: c :: r, h2 => simp at h2
theorem red_spec {n : Nat} (hn : n ≤ 9) : ∀ (k : Nat) (J : List Nat) (left : Nat) (acc : List S95), RInv n J left → pc left 9 < k →
  (∃ T, redN k J left acc = (acc ++ T, 0) ∧ ckR n T J left = true ∧ T.length = pc left 9 ∧ Elim (bset left) (AL J left) 2 (bset left)) ∨ ((redN k J left acc) = ([], 4) ∧ Mnr (bset left) (AL J left) 4 (fun i j => i ≠ j))
 | 0, J, left, acc, _, hk => by omega
 | k + 1, J, left, acc, h, hk => by
  by_cases h0 : left = 0
  ·subst h0
   refine .inl ⟨[], by simp [redN], by simp [ckR], ?_, ?_⟩
   ·show 0 = pc 0 9
    rfl
   ·refine Elim.nil.ext fun u => ?_
    simp [bset]
  ·have hr : redN (k + 1) J left acc = match pick J left with
    | none => ([], 4)
    | some v => redN k (nextJ J left v) (diff left (2 ^ v)) (acc ++ [stepS J left v]) := by
    rw [redN, if_neg h0]
    rfl
   rw [hr]
   cases hp : pick J left with
   | none =>
    refine .inr ⟨rfl, ?_⟩
    unfold pick at hp
    have hp := List.find?_eq_none.1 hp
    have hV : (fun x => x ∈ els left 9) = bset left := funext fun x => propext ⟨fun hx => (mem_els.1 hx).2, fun hx => mem_els.2 ⟨Nat.lt_of_lt_of_le (bit_lt h.lt hx) hn, hx⟩⟩
    rw [← hV]
    have hne : els left 9 ≠ [] := by
     obtain ⟨v, hv⟩ := some_bit h0
     exact List.ne_nil_of_mem (mem_els.2 ⟨Nat.lt_of_lt_of_le (bit_lt h.lt hv) hn, hv⟩)
    refine deg3_k4 _ (els left 9) (AL J left) rfl hne h.alsym (fun x hx => h.alirr x hx) (fun x y hx => mem_els.2 ⟨Nat.lt_of_lt_of_le (bit_lt h.lt hx.1) hn, hx.1⟩) fun x hx hat => ?_
    have := (near_atMost h hn (mem_els.1 hx).2).1 hat
    have h3 := hp x hx
    simp at h3
    omega
   | some v =>
    unfold pick at hp
    have h2 : (nearL J left v).length ≤ 2 := by
     have := List.find?_some (p := fun v => decide ((nearL J left v).length ≤ 2)) hp
     simpa using this
    have hvm := (mem_els.1 (List.mem_of_find?_eq_some hp)).2
    obtain ⟨hinv, hfil⟩ := step_fil h hn hvm h2
    have hv9 : v < 9 := Nat.lt_of_lt_of_le (bit_lt h.lt hvm) hn
    have hpc := diff_pc9 hvm hv9
    have hfe : AL (nextJ J left v) (diff left (2 ^ v)) = Fil (AL J left) v := funext fun x => funext fun y => propext (hfil x y)
    have hse : bset (diff left (2 ^ v)) = fun x => bset left x ∧ x ≠ v := funext fun x => propext (diff_bit left v x)
    have hat := (near_atMost h hn hvm).2 h2
    rcases red_spec hn k (nextJ J left v) (diff left (2 ^ v)) (acc ++ [stepS J left v]) hinv (by omega) with ⟨T, e1, e2, e3, e4⟩ | ⟨e1, e2⟩
    ·refine .inl ⟨stepS J left v :: T, by show redN k (nextJ J left v) (diff left (2 ^ v)) (acc ++ [stepS J left v]) = _; rw [e1]; simp, ?_, by simp; omega, ?_⟩
     ·have hvn := bit_lt h.lt hvm
      have hvb : left.testBit v = true := hvm
      simp [ckR, stepS, hvb, h2, e2, eqS, hvn]
     ·rw [hfe, hse] at e4
      refine (elim_fil (fun x hx => h.alirr x hx) hvm hat e4).ext fun u => ?_
      by_cases e : u = v
      ·subst e; exact ⟨fun _ => hvm, fun _ => .inr rfl⟩
      ·simp [e]
    ·refine .inr ⟨(show redN k (nextJ J left v) (diff left (2 ^ v)) (acc ++ [stepS J left v]) = _ from e1), ?_⟩
     rw [hfe, hse] at e2
     exact fil_mnr h.alsym (fun x hx => h.alirr x hx) hvm hat e2
theorem Reduce_eq {G : List Nat} (hG : Gr 8 G) : minor_Reduce.f (gi G) = some (redN 10 G (2 ^ G.length - 1) []) := by
 have h1 := hG.most
 unfold minor_Reduce.f
 rw [gi_length, if_pos (by omega), (chk_iff 8 (by omega) _).2 ⟨G, rfl, hG⟩, gi_toNat]
 rfl
theorem all_inv {G : List Nat} (hG : Gr 8 G) : RInv G.length G (2 ^ G.length - 1) := by
 have := Nat.two_pow_pos G.length
 exact ⟨gr_in hG, by omega, fun x y _ _ h => hG.adj_symm h, fun x _ h => hG.adj_irr h⟩
end Go.Proofs.YtjloppfdagfpmaaDoor.X
end
section
/- Lists that have the numbers below n, each once. -/
namespace Go.Proofs.YtjloppfdagfpmaaDoor.T
open Go.RowKit YtjloppfdagfpmaaDoorW.PrintWords YtjloppfdagfpmaaDoorW.PrintLast YtjloppfdagfpmaaDoorW.PrintMore
def IsOrd (n : Nat) (l : List Int) : Prop := ∃ P : List Nat, l = gi P ∧ P.Nodup ∧ (∀ v ∈ P, v < n) ∧ P.length = n
theorem gi_inj {a b : List Nat} (h : gi a = gi b) : a = b := by
 induction a generalizing b with
 | nil => cases b with
  | nil => rfl
  | cons => simp [gi] at h
 | cons x a ih => cases b with
  | nil => simp [gi] at h
  | cons y b =>
   simp only [gi, List.map_cons, List.cons.injEq] at h
   rw [ih (show gi a = gi b from h.2)]
   congr 1
   omega
theorem gi_take (P : List Nat) (i : Nat) : (gi P).take i = gi (P.take i) := by simp [gi, List.map_take]
theorem gi_snoc (P : List Nat) (v : Nat) : gi P ++ [(v : Int)] = gi (P ++ [v]) := by simp [gi]
theorem covers_of_nodup {P : List Nat} {n : Nat} (hl : P.length = n) (hn : P.Nodup) (h : ∀ v ∈ P, v < n) (j : Nat) (hj : j < n) : j ∈ P := by
 apply Classical.byContradiction
 intro hno
 have := nodup_le (List.nodup_cons.2 ⟨hno, hn⟩) (m := List.range n) fun x hx => by
  rcases List.mem_cons.1 hx with e | e
  ·subst e; exact List.mem_range.2 hj
  ·exact List.mem_range.2 (h x e)
 simp at this
 omega
def lset : List Nat → Nat
 | [] => 0
 | v :: P => lset P ||| 2 ^ v
theorem lset_bit (P : List Nat) (j : Nat) : bset (lset P) j ↔ j ∈ P := by
 induction P with
 | nil => simp [lset, bset]
 | cons v P ih => rw [lset, or_bset, ih, two_pow_bit, List.mem_cons]; exact Or.comm
theorem lset_lt {P : List Nat} {n : Nat} (h : ∀ v ∈ P, v < n) : lset P < 2 ^ n := lt_of_bits fun j hj => h j ((lset_bit P j).1 hj)
theorem lset_snoc (P : List Nat) (v : Nat) : lset (P ++ [v]) = lset P ||| 2 ^ v := eq_of_bits fun j => by
 show bset _ _ ↔ bset _ _
 rw [lset_bit, or_bset, lset_bit, two_pow_bit, List.mem_append, List.mem_singleton]
theorem take_snoc {l : List Int} {i : Nat} {P : List Nat} (h : l.take i = gi P) (hi : i < l.length) (v : Nat) (hv : rd l (i : Int) = (v : Int)) : l.take (i + 1) = gi (P ++ [v]) := by
 rw [List.take_add_one, h, ← gi_snoc]
 congr 1
 unfold rd at hv
 rw [Int.toNat_natCast, List.getD_eq_getElem?_getD, List.getElem?_eq_getElem hi] at hv
 rw [List.getElem?_eq_getElem hi]
 simp at hv ⊢
 exact hv
theorem IsOrd.get {n : Nat} {l : List Int} (h : IsOrd n l) (i : Nat) (hi : i < l.length) : ∃ v : Nat, rd l (i : Int) = (v : Int) ∧ v < n := by
 obtain ⟨P, rfl, _, h3, _⟩ := h
 rw [gi_length] at hi
 refine ⟨P.getD i 0, rd_gi P i, h3 _ ?_⟩
 rw [List.getD_eq_getElem?_getD, List.getElem?_eq_getElem hi]
 exact List.getElem_mem hi
theorem IsOrd.fresh {n : Nat} {l : List Int} (h : IsOrd n l) {i : Nat} (hi : i < l.length) {P : List Nat} (hP : l.take i = gi P) {v : Nat} (hv : rd l (i : Int) = (v : Int)) : v ∉ P := by
 obtain ⟨Q, rfl, h2, _, _⟩ := h
 have e : P = Q.take i := gi_inj (by rw [← hP, gi_take])
 rw [gi_length] at hi
 have hv' : Q.getD i 0 = v := by have := rd_gi Q i; rw [hv] at this; omega
 rw [List.getD_eq_getElem?_getD, List.getElem?_eq_getElem hi] at hv'
 have hv2 : Q[i] = v := hv'
 subst e
 intro hm
 rw [← List.take_append_drop i Q, List.nodup_append] at h2
 have hd : v ∈ Q.drop i := by rw [List.drop_eq_getElem_cons hi, hv2]; exact List.mem_cons_self
 exact h2.2.2 v hm v hd rfl
theorem IsOrd.of {n : Nat} {P : List Nat} (h1 : P.Nodup) (h2 : ∀ v ∈ P, v < n) : IsOrd n (gi P) ↔ P.length = n := by
 constructor
 ·rintro ⟨Q, e, _, _, h⟩
  rw [gi_inj e]; exact h
 ·intro h; exact ⟨P, rfl, h1, h2, h⟩
theorem IsOrd.length {n : Nat} {l : List Int} (h : IsOrd n l) : l.length = n := by
 obtain ⟨P, rfl, _, _, h⟩ := h
 rw [gi_length, h]
end Go.Proofs.YtjloppfdagfpmaaDoor.T
end
section
namespace Go.Proofs.YtjloppfdagfpmaaDoor.X
open Go.RowKit YtjloppfdagfpmaaDoorW.PrintWords YtjloppfdagfpmaaDoorW.PrintLast YtjloppfdagfpmaaDoorW.PrintMore
attribute [local go_sem] max2_int min2_int max_two min_two max_three min_three max_four min_four
/-! ### lampblackref07_fits: function 73 -/
def lampblackref07_fits.l0 : Nat → List Int → List Int → List Int → Int → Int → Int → Int → Option (Bool)
 | 0, _, _, _, _, _, _, _ => none
 | k + 1, x0, x1, x2, x3, x4, x12, x13 => if x13 < x12 then (if 0 ≤ x3 then (if x3 < (x1.length : Int) then (if 0 ≤ x13 then (if (Go.bits .and .i64 (shr .i64 (rd x1 x3) x13) 1) = 1 then ((lampblackref02_Around.f k x0 x4).bind fun t197 => (if x13 < (x2.length : Int) then (if (Go.bits .and .i64 t197 (rd x2 x13)) = 0 then (some false) else (lampblackref07_fits.l0 k x0 x1 x2 x3 x4 x12 (wrap64 (x13 + 1)))) else (none))) else (lampblackref07_fits.l0 k x0 x1 x2 x3 x4 x12 (wrap64 (x13 + 1)))) else (none)) else (none)) else (none)) else (some true)
end Go.Proofs.YtjloppfdagfpmaaDoor.X
end
section
/- (minor) IsOrder, IsOuter and CheckOuter: what they compute; the reference's search is the program's. -/
namespace Go.Proofs.YtjloppfdagfpmaaDoor.X
open Go.RowKit YtjloppfdagfpmaaDoorW.PrintWords YtjloppfdagfpmaaDoorW.PrintLast YtjloppfdagfpmaaDoorW.PrintMore YtjloppfdagfpmaaDoor.T
theorem bit_bset (a i : Nat) (ha : a < 2 ^ 62) (hi : i < 62) : Go.bits .and .i64 (shr .i64 (a : Int) (i : Int)) 1 = 1 ↔ bset a i := bit_one a i ha hi
def IsOut (G : List Nat) (l : List Int) : Prop := ∃ P : List Nat, l = gi P ∧ P.Nodup ∧ (∀ v ∈ P, v < G.length) ∧ P.length = G.length ∧ ∀ m, m < P.length → ¬ CrossAt G P m
theorem cr_take {G P : List Nat} {t i j : Nat} (hi : i < t) (hj : j < t) : cr G (P.take t) i j = cr G P i j := by
 unfold cr
 simp only [List.getD_eq_getElem?_getD, List.getElem?_take_of_lt hi, List.getElem?_take_of_lt hj]
theorem cross_take {G P : List Nat} {t m : Nat} (hm : m < t) : CrossAt G (P.take t) m ↔ CrossAt G P m := by
 constructor
 ·rintro ⟨i, j, k, h1, h2, h3, h4, h5⟩
  exact ⟨i, j, k, h1, h2, h3, by rwa [cr_take (by omega) (by omega)] at h4, by rwa [cr_take (by omega) (by omega)] at h5⟩
 ·rintro ⟨i, j, k, h1, h2, h3, h4, h5⟩
  exact ⟨i, j, k, h1, h2, h3, by rwa [cr_take (by omega) (by omega)], by rwa [cr_take (by omega) (by omega)]⟩
theorem cross_snoc {G P : List Nat} {v m : Nat} (hm : m < P.length) : CrossAt G (P ++ [v]) m ↔ CrossAt G P m := by
 rw [← cross_take (P := P ++ [v]) (t := P.length) hm, List.take_left]
section
variable {G l : List Nat} (hn : G.length ≤ 9) (hG : ∀ x ∈ G, x < 512) (hl : ∀ x ∈ l, x < G.length) (hll : l.length ≤ 1000)
include hn hG hl hll
end
theorem rows_small {G : List Nat} (hG : Gr 9 G) : ∀ x ∈ G, x < 512 := fun x hx => by
 obtain ⟨i, hi, rfl⟩ := List.mem_iff_getElem.1 hx
 have := hG.lt i hi
 rw [List.getD_eq_getElem?_getD, List.getElem?_eq_getElem hi] at this
 exact small G hG.most this
theorem lset_full {P : List Nat} {n : Nat} (h1 : P.Nodup) (h2 : ∀ v ∈ P, v < n) : lset P = 2 ^ n - 1 ↔ P.length = n := by
 constructor
 ·intro h
  apply Nat.le_antisymm
  ·have := nodup_le h1 (m := List.range n) fun x hx => List.mem_range.2 (h2 x hx)
   simpa using this
  ·have := nodup_le (List.nodup_range (n := n)) (m := P) fun x hx => (lset_bit P x).1 (by rw [h]; exact (all_bit n x).2 (List.mem_range.1 hx))
   simpa using this
 ·intro h
  refine eq_of_bits fun j => ?_
  show bset _ _ ↔ bset _ _
  rw [lset_bit]
  have := all_bit n j
  constructor
  ·intro hj; exact this.2 (h2 j hj)
  ·intro hj; exact covers_of_nodup h h1 h2 j (this.1 hj)
theorem checkOuter_l0 {G : List Nat} (hG : Gr 8 G) (l : List Int) (hl : l.length ≤ 1000) : ∀ (d i : Nat) (P : List Nat), i + d = l.length → l.take i = gi P → P.Nodup → (∀ v ∈ P, v < G.length) → (∀ m, m < P.length → ¬ CrossAt G P m) →
  ∃ r, Ev (fun k => minor_CheckOuter.l0 k l (gi G) ((lset P : Nat) : Int) l (l.length : Int) (i : Int)) (r, 0) ∧ (r = true ↔ IsOut G l) := by
 have hn := hG.most
 intro d
 induction d with
 | zero =>
  intro i P hi hP h1 h2 h3
  have e : l = gi P := by rw [← hP, List.take_of_length_le (by omega)]
  refine ⟨((lset P : Nat) : Int) == ((2 ^ G.length - 1 : Nat) : Int), Ev.step (fun k => by rw [minor_CheckOuter.l0, if_neg (by omega)]) (Ev.bind1 (all_eq G (by omega)) (Ev.some rfl)), ?_⟩
  rw [beq_iff_eq]
  constructor
  ·intro h
   exact ⟨P, e, h1, h2, (lset_full h1 h2).1 (by omega), h3⟩
  ·rintro ⟨Q, e2, _, _, h5, _⟩
   obtain rfl : P = Q := by
    have := congrArg (List.map Int.toNat) (e.symm.trans e2)
    rwa [gi_toNat, gi_toNat] at this
   rw [(lset_full h1 h2).2 h5]
 | succ d ih =>
  intro i P hi hP h1 h2 h3
  have hil : i < l.length := by omega
  have hPl : P.length = i := by
   have := congrArg List.length hP
   rw [gi_length, List.length_take] at this
   omega
  have hP62 : lset P < 2 ^ 62 := Nat.lt_of_lt_of_le (lset_lt h2) (Nat.pow_le_pow_right (by omega) (by omega))
  have hgl := gi_length G
  have noOrd : (¬ ∃ P, l = gi P ∧ P.Nodup ∧ (∀ v ∈ P, v < G.length) ∧ P.length = G.length) → ¬ IsOut G l := fun h ⟨P, a, b, c, d, _⟩ => h ⟨P, a, b, c, d⟩
  by_cases h3' : rd l (i : Int) < 0
  ·refine ⟨false, Ev.step (f := fun _ => some (false, (0 : Int))) (fun k => by rw [minor_CheckOuter.l0, if_pos (by omega), if_pos (by omega), if_pos (by omega), if_pos h3']) (Ev.some rfl), ?_⟩
   simp only [Bool.false_eq_true, false_iff]
   refine noOrd fun h => ?_
   obtain ⟨v, hv, _⟩ := IsOrd.get h i hil
   omega
  ·by_cases h4 : rd l (i : Int) ≥ (G.length : Int)
   ·refine ⟨false, Ev.step (f := fun _ => some (false, (0 : Int))) (fun k => by rw [minor_CheckOuter.l0, if_pos (by omega), if_pos (by omega), if_pos (by omega), if_neg h3', if_pos (by omega)]) (Ev.some rfl), ?_⟩
    simp only [Bool.false_eq_true, false_iff]
    refine noOrd fun h => ?_
    obtain ⟨v, hv, hv2⟩ := IsOrd.get h i hil
    omega
   ·obtain ⟨v, hv⟩ : ∃ v : Nat, rd l (i : Int) = (v : Int) := ⟨(rd l (i : Int)).toNat, by omega⟩
    have hvn : v < G.length := by omega
    by_cases h5 : v ∈ P
    ·refine ⟨false, Ev.step (f := fun _ => some (false, (0 : Int))) (fun k => ?_) (Ev.some rfl), ?_⟩
     ·rw [minor_CheckOuter.l0, if_pos (by omega), if_pos (by omega), if_pos (by omega), if_neg h3', if_neg (by omega), if_pos (by omega), hv, if_pos ((bit_bset _ _ hP62 (by omega)).2 ((lset_bit P v).2 h5))]
     ·simp only [Bool.false_eq_true, false_iff]
      refine noOrd fun h => ?_
      exact IsOrd.fresh h hil hP hv h5
    ·have hb : ¬ Go.bits .and .i64 (shr .i64 ((lset P : Nat) : Int) (v : Int)) 1 = 1 := fun h => h5 ((lset_bit P v).1 ((bit_bset _ _ hP62 (by omega)).1 h))
     have ht := take_snoc hP hil v hv
     have hnd : (P ++ [v]).Nodup := List.nodup_append.2 ⟨h1, by simp, by simp; intro a ha; exact fun e => h5 (e ▸ ha)⟩
     have hin : ∀ x ∈ P ++ [v], x < G.length := fun x hx => by
      rcases List.mem_append.1 hx with h | h
      ·exact h2 x h
      ·rw [List.mem_singleton.1 h]; exact hvn
     have hcr := crosses_ev (G := G) (l := P ++ [v]) (by omega) (rows_small (gr_mono hG (by omega))) hin (by simp; omega) (by simp)
     have e1 : wrap64 ((i : Int) + 1) = ((i + 1 : Nat) : Int) := wrap_succ i (by omega)
     have e2 : 2 ^ v < 2 ^ 62 := Nat.pow_lt_pow_right (by omega) (by omega)
     have head : ∀ k, minor_CheckOuter.l0 (k + 1) l (gi G) ((lset P : Nat) : Int) l (l.length : Int) (i : Int) = (minor_town_crosses.f k (gi G) (gi (P ++ [v]))).bind fun t => if t = true then some (false, 0) else minor_CheckOuter.l0 k l (gi G) ((lset (P ++ [v]) : Nat) : Int) l (l.length : Int) ((i + 1 : Nat) : Int) := fun k => by
      rw [minor_CheckOuter.l0, if_pos (by omega), if_pos (by omega), if_pos (by omega), if_neg h3', if_neg (by omega), if_pos (by omega), hv, if_neg hb, e1, if_pos (by omega), if_pos (by omega), Int.toNat_natCast, ht, s_one v (by omega), b_or _ _ hP62 e2, lset_snoc]
     cases hc : crossB G (P ++ [v])
     ·rw [hc] at hcr
      obtain ⟨r, h6, h7⟩ := ih (i + 1) (P ++ [v]) (by omega) ht hnd hin fun m hm hx => by
       by_cases e : m < P.length
       ·exact h3 m e ((cross_snoc e).1 hx)
       ·have : crossB G (P ++ [v]) = true := (crossB_iff _ _).2 (by rw [List.length_append, List.length_singleton]; simp at hm; rw [show P.length + 1 - 1 = m by omega]; exact hx)
        rw [hc] at this; cases this
      exact ⟨r, Ev.step head (Ev.bind hcr (Ev.if_neg (by simp) h6)), h7⟩
     ·rw [hc] at hcr
      refine ⟨false, Ev.step head (Ev.bind hcr (Ev.if_pos rfl (Ev.some rfl))), ?_⟩
      simp only [Bool.false_eq_true, false_iff]
      rintro ⟨Q, rfl, q1, q2, q3, q4⟩
      have hx := (crossB_iff _ _).1 hc
      rw [List.length_append, List.length_singleton, show P.length + 1 - 1 = i by omega] at hx
      have hpq : P ++ [v] = Q.take (i + 1) := by
       rw [gi_take] at ht
       have := congrArg (List.map Int.toNat) ht
       rw [gi_toNat, gi_toNat] at this
       exact this.symm
      rw [hpq, cross_take (by omega)] at hx
      exact q4 i (by rw [gi_length] at hil; exact hil) hx
theorem CheckOuter_ev {G : List Nat} (hG : Gr 8 G) (l : List Int) (hl : l.length ≤ 1000) : ∃ r, Ev (fun k => minor_CheckOuter.f k (gi G) l) (r, 0) ∧ (r = true ↔ IsOut G l) := by
 obtain ⟨r, h1, h2⟩ := checkOuter_l0 hG l hl l.length 0 [] (by omega) (by simp [gi]) List.nodup_nil (by simp) (fun _ h => by simp at h)
 refine ⟨r, ?_, h2⟩
 unfold minor_CheckOuter.f
 exact Ev.bind (read_yesE G hG) (Ev.if_pos rfl h1)
/-! The reference's search is the program's. -/
theorem pc_all : ∀ i : Fin 10, pc (2 ^ i.val - 1) 9 = i.val := by decide
end Go.Proofs.YtjloppfdagfpmaaDoor.X
end
section
/- (minor) Which outer orders the search finds. -/
namespace Go.Proofs.YtjloppfdagfpmaaDoor.X
open Go.RowKit YtjloppfdagfpmaaDoorW.PrintWords YtjloppfdagfpmaaDoorW.PrintLast YtjloppfdagfpmaaDoorW.PrintMore YtjloppfdagfpmaaDoor.T
theorem pc_noneO {s : Nat} (hs : s < 512) (h : pc s 9 = 0) (v : Nat) : ¬ bset s v := fun hv => by
 have hv9 : v < 9 := bit_lt hs hv
 have h2 := els_length s 9
 rw [h] at h2
 have h3 : v ∈ els s 9 := mem_els.2 ⟨hv9, hv⟩
 rw [List.length_eq_zero_iff.1 h2] at h3
 cases h3
theorem pc_less {s v d : Nat} (hs : s < 512) (h : pc s 9 = d + 1) (hv : bset s v) : diff s (2 ^ v) < 512 ∧ pc (diff s (2 ^ v)) 9 = d := by
 have hv9 : v < 9 := bit_lt hs hv
 have := diff_pc hv hv9
 exact ⟨Nat.lt_of_le_of_lt (diff_le _ _) hs, by omega⟩
theorem diff_mem {s v x : Nat} : bset (diff s (2 ^ v)) x ↔ bset s x ∧ x ≠ v := by
 rw [diff_bset, two_pow_bit]
theorem cross_last (G M : List Nat) (v : Nat) (Q : List Nat) : CrossAt G (M ++ v :: Q) M.length ↔ crossB G (M ++ [v]) = true := by
 rw [crossB_iff, List.length_append, List.length_singleton, show M.length + 1 - 1 = M.length by omega, ← cross_take (P := M ++ v :: Q) (t := M.length + 1) (by omega)]
 rw [show M ++ v :: Q = (M ++ [v]) ++ Q by simp, List.take_left' (by simp)]
theorem outN_some (G : List Nat) : ∀ (d : Nat) (M : List Nat) (left : Nat) (l : List Nat), left < 512 → pc left 9 = d → outN G d M left = some l →
  ∃ Q : List Nat, l = M ++ Q ∧ Q.Nodup ∧ (∀ v, v ∈ Q ↔ bset left v) ∧ ∀ m, M.length ≤ m → m < l.length → ¬ CrossAt G l m
 | 0, M, left, l, hs, hp, h => by
  rw [outN] at h
  obtain rfl := Option.some.inj h
  exact ⟨[], by simp, List.nodup_nil, fun v => ⟨fun h => (by cases h), fun h => absurd h (pc_noneO hs hp v)⟩, fun m h1 h2 => by omega⟩
 | d + 1, M, left, l, hs, hp, h => by
  rw [outN] at h
  obtain ⟨v, hv, h⟩ := List.exists_of_findSome?_eq_some h
  have hvb := (mem_els.1 hv).2
  by_cases hc : crossB G (M ++ [v]) = true
  ·rw [if_pos hc] at h; cases h
  ·rw [if_neg hc] at h
   obtain ⟨h1, h2⟩ := pc_less hs hp hvb
   obtain ⟨Q, rfl, h3, h4, h5⟩ := outN_some G d (M ++ [v]) (diff left (2 ^ v)) l h1 h2 h
   refine ⟨v :: Q, by simp, List.nodup_cons.2 ⟨fun hm => ((diff_mem.1 ((h4 v).1 hm)).2 rfl), h3⟩, fun x => ?_, fun m h6 h7 hx => ?_⟩
   ·rw [List.mem_cons, h4, diff_mem]
    constructor
    ·rintro (rfl | h)
     ·exact hvb
     ·exact h.1
    ·intro h
     by_cases e : x = v
     ·exact .inl e
     ·exact .inr ⟨h, e⟩
   ·by_cases e : m = M.length
    ·subst e
     rw [List.append_assoc] at hx
     exact hc ((cross_last G M v Q).1 hx)
    ·exact h5 m (by simp; omega) h7 hx
theorem outN_none (G : List Nat) : ∀ (d : Nat) (M : List Nat) (left : Nat), left < 512 → pc left 9 = d → outN G d M left = none →
  ∀ Q : List Nat, Q.Nodup → (∀ v, v ∈ Q ↔ bset left v) → ∃ m, M.length ≤ m ∧ m < (M ++ Q).length ∧ CrossAt G (M ++ Q) m
 | 0, M, left, hs, hp, h, Q, h1, h2 => by rw [outN] at h; cases h
 | d + 1, M, left, hs, hp, h, Q, h1, h2 => by
  rw [outN, List.findSome?_eq_none_iff] at h
  match Q, h1, h2 with
  | [], h1, h2 =>
   have h3 : els left 9 = [] := List.eq_nil_iff_forall_not_mem.2 fun v hv => by
    have := (h2 v).2 (mem_els.1 hv).2
    cases this
   have h4 := els_length left 9
   rw [h3, hp] at h4
   simp at h4
  | v :: Q, h1, h2 =>
   have hvb := (h2 v).1 List.mem_cons_self
   have hv9 : v < 9 := bit_lt hs hvb
   have h := h v (mem_els.2 ⟨hv9, hvb⟩)
   by_cases hc : crossB G (M ++ [v]) = true
   ·exact ⟨M.length, Nat.le_refl _, by simp, (cross_last G M v Q).2 hc⟩
   ·rw [if_neg hc] at h
    obtain ⟨h3, h4⟩ := pc_less hs hp hvb
    rw [List.nodup_cons] at h1
    obtain ⟨m, h5, h6, h7⟩ := outN_none G d (M ++ [v]) (diff left (2 ^ v)) h3 h4 h Q h1.2 fun x => by
     rw [diff_mem, ← h2 x, List.mem_cons]
     constructor
     ·intro hx; exact ⟨.inr hx, fun e => h1.1 (e ▸ hx)⟩
     ·rintro ⟨rfl | hx, e⟩
      ·exact absurd rfl e
      ·exact hx
    rw [List.append_assoc] at h6 h7
    simp at h5
    exact ⟨m, by omega, h6, h7⟩
def OO (G : List Nat) (S : Nat → Prop) : Prop := ∃ Q : List Nat, Q.Nodup ∧ (∀ v, v ∈ Q ↔ S v) ∧ ∀ m, m < Q.length → ¬ CrossAt G Q m
theorem outF_iff (G : List Nat) {s : Nat} (hs : s < 512) : (outF G s).isSome = true ↔ OO G (bset s) := by
 unfold outF
 constructor
 ·intro h
  obtain ⟨l, hl⟩ := Option.isSome_iff_exists.1 h
  obtain ⟨Q, h1, h2, h3, h4⟩ := outN_some G _ [] s l hs rfl hl
  rw [List.nil_append] at h1
  subst h1
  exact ⟨l, h2, h3, fun m hm => h4 m (by simp) hm⟩
 ·rintro ⟨Q, h1, h2, h3⟩
  cases h : outN G (pc s 9) [] s with
  | some l => rfl
  | none =>
   obtain ⟨m, _, h5, h6⟩ := outN_none G _ [] s hs rfl h Q h1 h2
   exact absurd h6 (h3 m (by simpa using h5))
theorem outF_is {G : List Nat} (hn : G.length ≤ 9) {l : List Nat} (h : outF G (2 ^ G.length - 1) = some l) : IsOut G (gi l) := by
 have hs : 2 ^ G.length - 1 < 512 := by
  have : 2 ^ G.length ≤ 2 ^ 9 := Nat.pow_le_pow_right (by omega) hn
  have := Nat.two_pow_pos G.length
  omega
 have hl := outN_len G _ _ _ _ h
 obtain ⟨Q, h1, h2, h3, h4⟩ := outN_some G _ [] _ l hs rfl h
 rw [List.nil_append] at h1
 subst h1
 have hin : ∀ v ∈ l, v < G.length := fun v hv => (all_bit _ v).1 ((h3 v).1 hv)
 refine ⟨l, rfl, h2, hin, ?_, fun m hm => h4 m (by simp) hm⟩
 have := pc_all ⟨G.length, by omega⟩
 simp only at this
 rw [this] at hl
 simpa using hl
theorem cr_adj {G Q : List Nat} {i j : Nat} : cr G Q i j = true ↔ Adj G (Q.getD i 0) (Q.getD j 0) := Iff.rfl
end Go.Proofs.YtjloppfdagfpmaaDoor.X
end
section
/- Outer orders: a graph has one exactly if neither K(4) nor K(2,3) is a minor. -/
namespace Go.Proofs.YtjloppfdagfpmaaDoor.T
open Go.RowKit YtjloppfdagfpmaaDoorW.PrintWords YtjloppfdagfpmaaDoorW.PrintLast YtjloppfdagfpmaaDoorW.PrintMore
def Outr (S : Nat → Prop) (adj : Nat → Nat → Prop) (p : Nat → Nat) (K : Nat) : Prop :=
 (∀ x, S x → p x < K) ∧ (∀ x y, S x → S y → p x = p y → x = y) ∧ ∀ a b c d, S a → S b → S c → S d → p a < p b → p b < p c → p c < p d → adj a c → adj b d → False
theorem Outr.mono {S S' : Nat → Prop} {adj adj' : Nat → Nat → Prop} {p : Nat → Nat} {K : Nat} (h : Outr S adj p K) (hS : ∀ x, S' x → S x) (ha : ∀ x y, S' x → S' y → adj' x y → adj x y) : Outr S' adj' p K :=
 ⟨fun x hx => h.1 x (hS x hx), fun x y hx hy => h.2.1 x y (hS x hx) (hS y hy), fun a b c d h1 h2 h3 h4 h5 h6 h7 h8 h9 => h.2.2 a b c d (hS a h1) (hS b h2) (hS c h3) (hS d h4) h5 h6 h7 (ha _ _ h1 h3 h8) (ha _ _ h2 h4 h9)⟩
def Btw (a b c : Nat) : Prop := (a < c ∧ c < b) ∨ (b < c ∧ c < a)
theorem con_edge {adj : Nat → Nat → Prop} {S : Nat → Prop} {a b : Nat} (φ : Nat → Prop) (h : Con adj S (fun x => x = a) b) (ha : S a) (h1 : φ a) (h2 : ¬ φ b) : ∃ x y, S x ∧ S y ∧ adj x y ∧ φ x ∧ ¬ φ y := by
 induction h with
 | base h => rw [h] at h2; exact absurd h1 h2
 | @step d e hd hde he ih =>
  by_cases hφ : φ d
  ·refine ⟨d, e, ?_, he, hde, hφ, h2⟩
   rcases hd.inside with h | h
   ·rw [h]; exact ha
   ·exact h
  ·exact ih hφ
theorem Outr.cross {V : Nat → Prop} {adj : Nat → Nat → Prop} {p : Nat → Nat} {K : Nat} (hO : Outr V adj p K) (hs : ∀ x y, adj x y → adj y x) {x y u w : Nat} (hx : V x) (hy : V y) (hu : V u) (hw : V w) (hxy : adj x y) (huw : adj u w)
  (h1 : Btw (p x) (p y) (p u)) (h2 : ¬ Btw (p x) (p y) (p w)) (h3 : p w ≠ p x) (h4 : p w ≠ p y) : False := by
 unfold Btw at h1 h2
 have H := hO.2.2
 rcases h1 with ⟨h1, h1'⟩ | ⟨h1, h1'⟩
 ·by_cases h5 : p w < p x
  ·exact H w x u y hw hx hu hy h5 h1 h1' (hs _ _ huw) hxy
  ·exact H x u y w hx hu hy hw h1 h1' (by omega) hxy huw
 ·by_cases h5 : p w < p y
  ·exact H w y u x hw hy hu hx h5 h1 h1' (hs _ _ huw) (hs _ _ hxy)
  ·exact H y u x w hy hu hx hw h1 h1' (by omega) (hs _ _ hxy) huw
theorem Outr.weave {V : Nat → Prop} {adj : Nat → Nat → Prop} {p : Nat → Nat} {K : Nat} (hO : Outr V adj p K) (hs : ∀ x y, adj x y → adj y x) {A B : Nat → Prop} (hA : Conn adj A) (hB : Conn adj B) (hAV : ∀ x, A x → V x) (hBV : ∀ x, B x → V x)
  (hd : ∀ x, A x → B x → False) {a a' b b' : Nat} (ha : A a) (ha' : A a') (hb : B b) (hb' : B b') (h1 : Btw (p a) (p a') (p b)) : Btw (p a) (p a') (p b') := by
 apply Classical.byContradiction
 intro h2
 obtain ⟨x, y, hx, hy, hxy, h3, h4⟩ := con_edge (fun z => Btw (p a) (p a') (p z)) (hB.2 b b' hb hb') hb h1 h2
 have ne : ∀ {u w}, A u → B w → p u ≠ p w := fun {u w} hu hw e => hd u hu (by rw [hO.2.1 u w (hAV u hu) (hBV w hw) e]; exact hw)
 have n1 := ne ha hx
 have n2 := ne ha' hx
 have n3 := ne ha hy
 have n4 := ne ha' hy
 by_cases h5 : Btw (p x) (p y) (p a)
 ·have h6 : ¬ Btw (p x) (p y) (p a') := by unfold Btw at *; omega
  obtain ⟨u, w, hu, hw, huw, h7, h8⟩ := con_edge (fun z => Btw (p x) (p y) (p z)) (hA.2 a a' ha ha') ha h5 h6
  exact hO.cross hs (hBV x hx) (hBV y hy) (hAV u hu) (hAV w hw) hxy huw h7 h8 (ne hw hx) (ne hw hy)
 ·have h6 : Btw (p x) (p y) (p a') := by unfold Btw at *; omega
  obtain ⟨u, w, hu, hw, huw, h7, h8⟩ := con_edge (fun z => Btw (p x) (p y) (p z)) (hA.2 a' a ha' ha) ha' h6 h5
  exact hO.cross hs (hBV x hx) (hBV y hy) (hAV u hu) (hAV w hw) hxy huw h7 h8 (ne hw hx) (ne hw hy)
theorem conn_or {adj : Nat → Nat → Prop} (hs : ∀ x y, adj x y → adj y x) {A B : Nat → Prop} (hA : Conn adj A) (hB : Conn adj B) {x y : Nat} (hx : A x) (hy : B y) (hxy : adj x y) : Conn adj (fun z => A z ∨ B z) := by
 refine ⟨⟨x, .inl hx⟩, ?_⟩
 rintro a b (ha | ha) (hb | hb)
 ·exact (hA.2 a b ha hb).mono (fun _ h => .inl h) fun _ h => h
 ·have h1 : Con adj (fun z => A z ∨ B z) (fun z => z = a) x := (hA.2 a x ha hx).mono (fun _ h => .inl h) fun _ h => h
  exact con_trans (.step h1 hxy (.inr hy)) ((hB.2 y b hy hb).mono (fun _ h => .inr h) fun _ h => h)
 ·have h1 : Con adj (fun z => A z ∨ B z) (fun z => z = a) y := (hB.2 a y ha hy).mono (fun _ h => .inr h) fun _ h => h
  exact con_trans (.step h1 (hs _ _ hxy) (.inl hx)) ((hA.2 x b hx hb).mono (fun _ h => .inl h) fun _ h => h)
 ·exact (hB.2 a b ha hb).mono (fun _ h => .inr h) fun _ h => h
theorem four_places {a b c d : Nat} (h1 : a ≠ b) (h2 : a ≠ c) (h3 : a ≠ d) (h4 : b ≠ c) (h5 : b ≠ d) (h6 : c ≠ d) (p1 : Btw a b c ↔ Btw a b d) (p2 : Btw a c b ↔ Btw a c d) (p3 : Btw a d b ↔ Btw a d c) : False := by
 by_cases q1 : Btw a b c <;> by_cases q2 : Btw a c b <;> by_cases q3 : Btw a d b <;> simp only [q1, q2, q3, true_iff, false_iff] at p1 p2 p3 <;> unfold Btw at * <;> omega
theorem same_side {a b c d : Nat} (h1 : a ≠ b) (h2 : a ≠ c) (h3 : a ≠ d) (h4 : b ≠ c) (h5 : b ≠ d) (h6 : c ≠ d) (p1 : Btw a b c ↔ Btw a b d) (p2 : Btw a c b ↔ Btw a c d) (p3 : Btw a d b ↔ Btw a d c) : False := four_places h1 h2 h3 h4 h5 h6 p1 p2 p3
def Pe23 (i j : Nat) : Prop := (i < 2 ∧ 2 ≤ j) ∨ (j < 2 ∧ 2 ≤ i)
section
variable {V : Nat → Prop} {adj : Nat → Nat → Prop} {p : Nat → Nat} {K : Nat} (hO : Outr V adj p K) (hs : ∀ x y, adj x y → adj y x)
include hO hs
theorem Outr.pair {k : Nat} {pe : Nat → Nat → Prop} {M : Nat → Nat → Prop} (h1 : ∀ i, i < k → Conn adj (M i) ∧ ∀ x, M i x → V x) (h2 : ∀ i j x, i < k → j < k → M i x → M j x → i = j) (h3 : ∀ i j, i < k → j < k → pe i j → ∃ x y, M i x ∧ M j y ∧ adj x y)
  {i j a b : Nat} (hi : i < k) (hj : j < k) (ha : a < k) (hb : b < k) (hij : pe i j) (hab : pe a b) (n1 : i ≠ a) (n2 : i ≠ b) (n3 : j ≠ a) (n4 : j ≠ b) {xi xj xa xb : Nat} (mi : M i xi) (mj : M j xj) (ma : M a xa) (mb : M b xb)
  (h : Btw (p xi) (p xj) (p xa)) : Btw (p xi) (p xj) (p xb) := by
 obtain ⟨u, w, hu, hw, huw⟩ := h3 i j hi hj hij
 obtain ⟨u', w', hu', hw', huw'⟩ := h3 a b ha hb hab
 refine hO.weave hs (conn_or hs (h1 i hi).1 (h1 j hj).1 hu hw huw) (conn_or hs (h1 a ha).1 (h1 b hb).1 hu' hw' huw') ?_ ?_ ?_ (.inl mi) (.inr mj) (.inl ma) (.inr mb) h
 ·rintro x (h | h)
  ·exact (h1 i hi).2 x h
  ·exact (h1 j hj).2 x h
 ·rintro x (h | h)
  ·exact (h1 a ha).2 x h
  ·exact (h1 b hb).2 x h
 ·rintro x (h | h) (h' | h')
  ·exact n1 (h2 i a x hi ha h h')
  ·exact n2 (h2 i b x hi hb h h')
  ·exact n3 (h2 j a x hj ha h h')
  ·exact n4 (h2 j b x hj hb h h')
theorem Outr.no_k4 : ¬ Mnr V adj 4 (fun i j => i ≠ j) := by
 rintro ⟨M, h1, h2, h3⟩
 obtain ⟨x0, m0⟩ := (h1 0 (by omega)).1.1
 obtain ⟨x1, m1⟩ := (h1 1 (by omega)).1.1
 obtain ⟨x2, m2⟩ := (h1 2 (by omega)).1.1
 obtain ⟨x3, m3⟩ := (h1 3 (by omega)).1.1
 have ne : ∀ {i j x y}, i < 4 → j < 4 → i ≠ j → M i x → M j y → p x ≠ p y := fun {i j x y} hi hj hij hx hy e => hij (h2 i j x hi hj hx (by rw [hO.2.1 x y ((h1 i hi).2 x hx) ((h1 j hj).2 y hy) e]; exact hy))
 have e01 := ne (by omega) (by omega) (by omega) m0 m1
 have e02 := ne (by omega) (by omega) (by omega) m0 m2
 have e03 := ne (by omega) (by omega) (by omega) m0 m3
 have e12 := ne (by omega) (by omega) (by omega) m1 m2
 have e13 := ne (by omega) (by omega) (by omega) m1 m3
 have e23 := ne (by omega) (by omega) (by omega) m2 m3
 have a1 := hO.pair hs h1 h2 h3 (i := 0) (j := 1) (a := 2) (b := 3) (by omega) (by omega) (by omega) (by omega) (by omega) (by omega) (by omega) (by omega) (by omega) (by omega) m0 m1 m2 m3
 have a2 := hO.pair hs h1 h2 h3 (i := 0) (j := 1) (a := 3) (b := 2) (by omega) (by omega) (by omega) (by omega) (by omega) (by omega) (by omega) (by omega) (by omega) (by omega) m0 m1 m3 m2
 have b1 := hO.pair hs h1 h2 h3 (i := 0) (j := 2) (a := 1) (b := 3) (by omega) (by omega) (by omega) (by omega) (by omega) (by omega) (by omega) (by omega) (by omega) (by omega) m0 m2 m1 m3
 have b2 := hO.pair hs h1 h2 h3 (i := 0) (j := 2) (a := 3) (b := 1) (by omega) (by omega) (by omega) (by omega) (by omega) (by omega) (by omega) (by omega) (by omega) (by omega) m0 m2 m3 m1
 have c1 := hO.pair hs h1 h2 h3 (i := 0) (j := 3) (a := 1) (b := 2) (by omega) (by omega) (by omega) (by omega) (by omega) (by omega) (by omega) (by omega) (by omega) (by omega) m0 m3 m1 m2
 have c2 := hO.pair hs h1 h2 h3 (i := 0) (j := 3) (a := 2) (b := 1) (by omega) (by omega) (by omega) (by omega) (by omega) (by omega) (by omega) (by omega) (by omega) (by omega) m0 m3 m2 m1
 clear ne h1 h2 h3 m0 m1 m2 m3 hO
 exact four_places e01 e02 e03 e12 e13 e23 ⟨a1, a2⟩ ⟨b1, b2⟩ ⟨c1, c2⟩
theorem Outr.no_k23 : ¬ Mnr V adj 5 Pe23 := by
 rintro ⟨M, h1, h2, h3⟩
 obtain ⟨x0, m0⟩ := (h1 0 (by omega)).1.1
 obtain ⟨x1, m1⟩ := (h1 1 (by omega)).1.1
 have ne : ∀ {i j x y}, i < 5 → j < 5 → i ≠ j → M i x → M j y → p x ≠ p y := fun {i j x y} hi hj hij hx hy e => hij (h2 i j x hi hj hx (by rw [hO.2.1 x y ((h1 i hi).2 x hx) ((h1 j hj).2 y hy) e]; exact hy))
 have key : ∀ {i j x y}, 2 ≤ i → i < 5 → 2 ≤ j → j < 5 → i ≠ j → M i x → M j y → (Btw (p x0) (p x1) (p x) ↔ Btw (p x0) (p x1) (p y)) → False := by
  intro i j x y hi hi5 hj hj5 hij hx hy hsame
  have e01 := ne (by omega) (by omega) (by omega) m0 m1
  have e0x := ne (by omega) hi5 (by omega) m0 hx
  have e0y := ne (by omega) hj5 (by omega) m0 hy
  have e1x := ne (by omega) hi5 (by omega) m1 hx
  have e1y := ne (by omega) hj5 (by omega) m1 hy
  have exy := ne hi5 hj5 hij hx hy
  have a1 := hO.pair hs h1 h2 h3 (i := 0) (j := i) (a := 1) (b := j) (by omega) hi5 (by omega) hj5 (.inl ⟨by omega, hi⟩) (.inl ⟨by omega, hj⟩) (by omega) (by omega) (by omega) hij m0 hx m1 hy
  have a2 := hO.pair hs h1 h2 h3 (i := 0) (j := i) (a := j) (b := 1) (by omega) hi5 hj5 (by omega) (.inl ⟨by omega, hi⟩) (.inr ⟨by omega, hj⟩) (by omega) (by omega) hij (by omega) m0 hx hy m1
  have b1 := hO.pair hs h1 h2 h3 (i := 0) (j := j) (a := 1) (b := i) (by omega) hj5 (by omega) hi5 (.inl ⟨by omega, hj⟩) (.inl ⟨by omega, hi⟩) (by omega) (by omega) (by omega) (Ne.symm hij) m0 hy m1 hx
  have b2 := hO.pair hs h1 h2 h3 (i := 0) (j := j) (a := i) (b := 1) (by omega) hj5 hi5 (by omega) (.inl ⟨by omega, hj⟩) (.inr ⟨by omega, hi⟩) (by omega) (by omega) (Ne.symm hij) (by omega) m0 hy hx m1
  clear ne h1 h2 h3 m0 m1 hx hy hO
  exact same_side e01 e0x e0y e1x e1y exy hsame ⟨a1, a2⟩ ⟨b1, b2⟩
 obtain ⟨x2, m2⟩ := (h1 2 (by omega)).1.1
 obtain ⟨x3, m3⟩ := (h1 3 (by omega)).1.1
 obtain ⟨x4, m4⟩ := (h1 4 (by omega)).1.1
 have k23 := key (by omega) (by omega) (by omega) (by omega) (by omega) m2 m3
 have k24 := key (by omega) (by omega) (by omega) (by omega) (by omega) m2 m4
 have k34 := key (by omega) (by omega) (by omega) (by omega) (by omega) m3 m4
 by_cases b2 : Btw (p x0) (p x1) (p x2) <;> by_cases b3 : Btw (p x0) (p x1) (p x3) <;> by_cases b4 : Btw (p x0) (p x1) (p x4) <;> simp only [b2, b3, b4] at k23 k24 k34 <;> simp at k23 k24 k34
theorem Outr.turn {c : Nat} (hc : V c) : Outr V adj (fun x => if p c ≤ p x then p x - p c else p x + K - p c) K := by
 have hcK := hO.1 c hc
 refine ⟨fun x hx => ?_, fun x y hx hy e => ?_, fun x y z t hx hy hz ht h1 h2 h3 hxz hyt => ?_⟩
 ·have := hO.1 x hx
  show (if p c ≤ p x then p x - p c else p x + K - p c) < K
  split <;> omega
 ·have h1 := hO.1 x hx
  have h2 := hO.1 y hy
  refine hO.2.1 x y hx hy ?_
  have e : (if p c ≤ p x then p x - p c else p x + K - p c) = (if p c ≤ p y then p y - p c else p y + K - p c) := e
  split at e <;> split at e <;> omega
 ·have b1 := hO.1 x hx
  have b2 := hO.1 y hy
  have b3 := hO.1 z hz
  have b4 := hO.1 t ht
  have H := hO.2.2
  have h1 : (if p c ≤ p x then p x - p c else p x + K - p c) < (if p c ≤ p y then p y - p c else p y + K - p c) := h1
  have h2 : (if p c ≤ p y then p y - p c else p y + K - p c) < (if p c ≤ p z then p z - p c else p z + K - p c) := h2
  have h3 : (if p c ≤ p z then p z - p c else p z + K - p c) < (if p c ≤ p t then p t - p c else p t + K - p c) := h3
  by_cases c1 : p c ≤ p x
  ·rw [if_pos c1] at h1
   by_cases c2 : p c ≤ p y
   ·rw [if_pos c2] at h1 h2
    by_cases c3 : p c ≤ p z
    ·rw [if_pos c3] at h2 h3
     by_cases c4 : p c ≤ p t
     ·rw [if_pos c4] at h3
      exact H x y z t hx hy hz ht (by omega) (by omega) (by omega) hxz hyt
     ·exact H t x y z ht hx hy hz (by omega) (by omega) (by omega) (hs _ _ hyt) hxz
    ·rw [if_neg c3] at h2 h3
     have c4 : ¬ p c ≤ p t := fun h => by rw [if_pos h] at h3; omega
     rw [if_neg c4] at h3
     exact H z t x y hz ht hx hy (by omega) (by omega) (by omega) (hs _ _ hxz) (hs _ _ hyt)
   ·rw [if_neg c2] at h1 h2
    have c3 : ¬ p c ≤ p z := fun h => by rw [if_pos h] at h2; omega
    rw [if_neg c3] at h2 h3
    have c4 : ¬ p c ≤ p t := fun h => by rw [if_pos h] at h3; omega
    rw [if_neg c4] at h3
    exact H y z t x hy hz ht hx (by omega) (by omega) (by omega) hyt (hs _ _ hxz)
  ·rw [if_neg c1] at h1
   have c2 : ¬ p c ≤ p y := fun h => by rw [if_pos h] at h1; omega
   rw [if_neg c2] at h1 h2
   have c3 : ¬ p c ≤ p z := fun h => by rw [if_pos h] at h2; omega
   rw [if_neg c3] at h2 h3
   have c4 : ¬ p c ≤ p t := fun h => by rw [if_pos h] at h3; omega
   rw [if_neg c4] at h3
   exact H x y z t hx hy hz ht (by omega) (by omega) (by omega) hxz hyt
end
theorem outr_glue {S1 S2 : Nat → Prop} {adj : Nat → Nat → Prop} (hs : ∀ x y, adj x y → adj y x) {p1 p2 : Nat → Nat} {K1 K2 c : Nat} (h1 : Outr S1 adj p1 K1) (h2 : Outr S2 adj p2 K2) (hc1 : S1 c) (hc2 : S2 c) (hi : ∀ x, S1 x → S2 x → x = c)
  (he : ∀ x y, S1 x → S2 y → adj x y → x = c ∨ y = c) : ∃ p K, Outr (fun x => S1 x ∨ S2 x) adj p K := by
 classical
 have ht := h2.turn hs hc2
 obtain ⟨q, hq⟩ : ∃ q : Nat → Nat, q = fun x => if p2 c ≤ p2 x then p2 x - p2 c else p2 x + K2 - p2 c := ⟨_, rfl⟩
 rw [← hq] at ht
 have hqc : q c = 0 := by rw [hq]; simp
 clear hq h2
 have hq0 : ∀ x, S2 x → x ≠ c → 0 < q x := fun x hx hne => Nat.pos_of_ne_zero fun e => hne (ht.2.1 x c hx hc2 (by rw [e, hqc]))
 have P1 : ∀ x, S1 x → ((if S1 x then (if p1 x ≤ p1 c then p1 x else p1 x + K2) else p1 c + q x) = p1 x ∧ p1 x ≤ p1 c) ∨ ((if S1 x then (if p1 x ≤ p1 c then p1 x else p1 x + K2) else p1 c + q x) = p1 x + K2 ∧ p1 c < p1 x) := fun x hx => by
  rw [if_pos hx]
  by_cases h : p1 x ≤ p1 c
  ·rw [if_pos h]; exact .inl ⟨rfl, h⟩
  ·rw [if_neg h]; exact .inr ⟨rfl, by omega⟩
 have P2 : ∀ x, S2 x → (if S1 x then (if p1 x ≤ p1 c then p1 x else p1 x + K2) else p1 c + q x) = p1 c + q x := fun x hx => by
  by_cases h : S1 x
  ·have := hi x h hx
   subst this
   rw [if_pos h, if_pos (Nat.le_refl _), hqc]; rfl
  ·rw [if_neg h]
 obtain ⟨p, hp⟩ : ∃ p : Nat → Nat, p = fun x => if S1 x then (if p1 x ≤ p1 c then p1 x else p1 x + K2) else p1 c + q x := ⟨_, rfl⟩
 have P1 : ∀ x, S1 x → (p x = p1 x ∧ p1 x ≤ p1 c) ∨ (p x = p1 x + K2 ∧ p1 c < p1 x) := fun x hx => by rw [hp]; exact P1 x hx
 have P2 : ∀ x, S2 x → p x = p1 c + q x := fun x hx => by rw [hp]; exact P2 x hx
 clear hp
 have hK2 : ∀ x, S2 x → q x < K2 := ht.1
 have side : ∀ x y, (S1 x ∨ S2 x) → (S1 y ∨ S2 y) → adj x y → (S1 x ∧ S1 y) ∨ (S2 x ∧ S2 y) := by
  rintro x y (hx | hx) (hy | hy) hxy
  ·exact .inl ⟨hx, hy⟩
  ·rcases he x y hx hy hxy with rfl | rfl
   ·exact .inr ⟨hc2, hy⟩
   ·exact .inl ⟨hx, hc1⟩
  ·rcases he y x hy hx (hs _ _ hxy) with rfl | rfl
   ·exact .inr ⟨hx, hc2⟩
   ·exact .inl ⟨hc1, hy⟩
  ·exact .inr ⟨hx, hy⟩
 refine ⟨p, K1 + K2, ?_, ?_, ?_⟩
 ·rintro x (hx | hx)
  ·have := h1.1 x hx
   rcases P1 x hx with h | h <;> omega
  ·have := h1.1 c hc1
   have := hK2 x hx
   rw [P2 x hx]; omega
 ·rintro x y (hx | hx) (hy | hy) e
  ·refine h1.2.1 x y hx hy ?_
   rcases P1 x hx with h | h <;> rcases P1 y hy with h' | h' <;> omega
  ·by_cases hyc : y = c
   ·subst hyc
    refine h1.2.1 x y hx hc1 ?_
    rw [P2 y hc2, hqc] at e
    rcases P1 x hx with h | h <;> omega
   ·have := hq0 y hy hyc
    have := hK2 y hy
    rw [P2 y hy] at e
    rcases P1 x hx with h | h <;> omega
  ·by_cases hxc : x = c
   ·subst hxc
    refine (h1.2.1 y x hy hc1 ?_).symm
    rw [P2 x hc2, hqc] at e
    rcases P1 y hy with h | h <;> omega
   ·have := hq0 x hx hxc
    have := hK2 x hx
    rw [P2 x hx] at e
    rcases P1 y hy with h | h <;> omega
  ·refine ht.2.1 x y hx hy ?_
   rw [P2 x hx, P2 y hy] at e
   omega
 ·intro x y z t hx hy hz hT g1 g2 g3 hxz hyt
  rcases side x z hx hz hxz with ⟨hx, hz⟩ | ⟨hx, hz⟩ <;> rcases side y t hy hT hyt with ⟨hy, hT⟩ | ⟨hy, hT⟩
  ·refine h1.2.2 x y z t hx hy hz hT ?_ ?_ ?_ hxz hyt
   ·rcases P1 x hx with h | h <;> rcases P1 y hy with h' | h' <;> omega
   ·rcases P1 y hy with h | h <;> rcases P1 z hz with h' | h' <;> omega
   ·rcases P1 z hz with h | h <;> rcases P1 t hT with h' | h' <;> omega
  ·have a1 := P2 y hy
   have a2 := P2 t hT
   have a3 := hK2 t hT
   rcases P1 z hz with h | h <;> omega
  ·have a1 := P2 x hx
   have a2 := P2 z hz
   have a3 := hK2 z hz
   rcases P1 y hy with h | h <;> omega
  ·have a1 := P2 x hx
   have a2 := P2 y hy
   have a3 := P2 z hz
   have a4 := P2 t hT
   exact ht.2.2 x y z t hx hy hz hT (by omega) (by omega) (by omega) hxz hyt
theorem con_from {adj : Nat → Nat → Prop} {w s : Nat → Prop} {x : Nat} (h : Con adj w s x) : ∃ z, s z ∧ Con adj w (fun y => y = z) x := by
 induction h with
 | base h => exact ⟨_, h, .base rfl⟩
 | step _ a hw ih =>
  obtain ⟨z, h1, h2⟩ := ih
  exact ⟨z, h1, .step h2 a hw⟩
theorem con_back {adj : Nat → Nat → Prop} (hs : ∀ x y, adj x y → adj y x) {w : Nat → Prop} {a b : Nat} (ha : w a) (h : Con adj w (fun x => x = a) b) : Con adj w (fun x => x = b) a := by
 induction h with
 | base h => exact .base h.symm
 | @step y z hy adj' hz ih =>
  have hyw : w y := by
   rcases hy.inside with h | h
   ·rw [h]; exact ha
   ·exact h
  exact con_trans (.step (.base rfl) (hs _ _ adj') hyw) ih
theorem conn_reach {adj : Nat → Nat → Prop} (hs : ∀ x y, adj x y → adj y x) {w : Nat → Prop} {z : Nat} (hz : w z) : Conn adj (fun y => Con adj w (fun x => x = z) y) ∧ ∀ y, Con adj w (fun x => x = z) y → w y := by
 have hin : ∀ y, Con adj w (fun x => x = z) y → w y := fun y hy => by
  rcases hy.inside with h | h
  ·rw [h]; exact hz
  ·exact h
 have self : ∀ y, Con adj w (fun x => x = z) y → Con adj (fun y => Con adj w (fun x => x = z) y) (fun x => x = z) y := by
  intro y hy
  induction hy with
  | base h => exact .base h
  | step h a hw ih => exact .step ih a (.step h a hw)
 exact ⟨⟨⟨z, .base rfl⟩, fun a b ha hb => con_trans (con_back hs (.base rfl) (self a ha)) (self b hb)⟩, hin⟩
def Links (adj : Nat → Nat → Prop) (I : Nat → Prop) (a b : Nat) : Prop := ∃ C, Conn adj C ∧ (∀ x, C x → I x) ∧ (∃ x, C x ∧ adj a x) ∧ ∃ x, C x ∧ adj b x
section
variable {S : Nat → Prop} {adj adj' : Nat → Nat → Prop} (hs : ∀ x y, adj x y → adj y x) (hs' : ∀ x y, adj' x y → adj' y x) {v a b : Nat} (hvS : ¬ S v) (haS : S a) (hbS : S b) (hab : a ≠ b)
 (hsub : ∀ x y, S x → S y → adj x y → adj' x y) (hab' : adj' a b) (hva : ∀ x, adj v x → x = a ∨ x = b)
include hs hs' hvS haS hbS hab hsub hab' hva
theorem outr_in {p : Nat → Nat} {K : Nat} (hO : Outr S adj' p K) (hlt : p a < p b) (hI : ¬ Links adj (fun x => S x ∧ p a < p x ∧ p x < p b) a b) : ∃ q K', Outr (fun x => S x ∨ x = v) adj q K' := by
 classical
 have hav : a ≠ v := fun e => hvS (e ▸ haS)
 have hbv : b ≠ v := fun e => hvS (e ▸ hbS)
 have hio : ∀ x y, S x → S y → p a < p x → p x < p b → (p y < p a ∨ p b < p y) → ¬ adj x y := fun x y hx hy h1 h2 h3 hxy => by
  rcases h3 with h3 | h3
  ·exact hO.2.2 y a x b hy haS hx hbS h3 h1 h2 (hs' _ _ (hsub _ _ hx hy hxy)) hab'
  ·exact hO.2.2 a x b y haS hx hbS hy h1 h2 h3 hab' (hsub _ _ hx hy hxy)
 let I : Nat → Prop := fun x => S x ∧ p a < p x ∧ p x < p b
 let A : Nat → Prop := fun x => I x ∧ Con adj I (fun z => I z ∧ adj a z) x
 let B : Nat → Prop := fun x => I x ∧ ¬ Con adj I (fun z => I z ∧ adj a z) x
 have hAb : ∀ x, A x → ¬ adj x b := fun x hx hxb => by
  obtain ⟨z, hz, hzx⟩ := con_from hx.2
  have := conn_reach hs hz.1 (adj := adj)
  exact hI ⟨_, this.1, this.2, ⟨z, .base rfl, hz.2⟩, x, hzx, hs _ _ hxb⟩
 have hAB : ∀ x y, A x → B y → ¬ adj x y := fun x y hx hy hxy => hy.2 (.step hx.2 hxy hy.1)
 have haB : ∀ y, B y → ¬ adj a y := fun y hy h => hy.2 (.base ⟨hy.1, h⟩)
 obtain ⟨q, hv, hvv⟩ : ∃ q : Nat → Nat, (∀ x, S x → q x = 2 * p x) ∧ q v = 2 * p a + 1 := ⟨fun x => if x = v then 2 * p a + 1 else 2 * p x, fun x hx => if_neg fun e => hvS (by rw [← e]; exact hx), if_pos rfl⟩
 have hnoI : ∀ x, S x → ¬ I x → ¬ (p a < p x ∧ p x < p b) := fun x hx h h2 => h ⟨hx, h2.1, h2.2⟩
 have val : ∀ x, (S x ∧ ¬ I x) ∨ x = v → (x = v ∧ q x = 2 * p a + 1) ∨ (x ≠ v ∧ S x ∧ ¬ (p a < p x ∧ p x < p b) ∧ q x = 2 * p x) := fun x hx => by
  rcases hx with ⟨h1, h2⟩ | h
  ·exact .inr ⟨fun e => hvS (by rw [← e]; exact h1), h1, hnoI x h1 h2, hv x h1⟩
  ·exact .inl ⟨h, by rw [h, hvv]⟩
 have haK := hO.1 a haS
 have o1 : Outr (fun x => (S x ∧ ¬ I x) ∨ x = v) adj q (2 * K + 2) := by
  refine ⟨fun x hx => ?_, fun x y hx hy e => ?_, fun x y z t hx hy hz ht g1 g2 g3 hxz hyt => ?_⟩
  ·rcases val x hx with ⟨_, h⟩ | ⟨_, h1, _, h⟩
   ·omega
   ·have := hO.1 x h1; omega
  ·rcases val x hx with ⟨e1, h⟩ | ⟨_, h1, _, h⟩ <;> rcases val y hy with ⟨e2, h'⟩ | ⟨_, h1', _, h'⟩
   ·rw [e1, e2]
   ·omega
   ·omega
   ·exact hO.2.1 x y h1 h1' (by omega)
  ·rcases val x hx with ⟨ex, vx⟩ | ⟨nx, sx, ix, vx⟩ <;> rcases val y hy with ⟨ey, vy⟩ | ⟨ny, sy, iy, vy⟩ <;> rcases val z hz with ⟨ez, vz⟩ | ⟨nz, sz, iz, vz⟩ <;> rcases val t ht with ⟨et, vt⟩ | ⟨nt, st, it, vt⟩ <;> try omega
   ·rw [ex] at hxz
    rcases hva z hxz with h | h
    ·have := congrArg p h; omega
    ·have := congrArg p h; omega
   ·rw [ey] at hyt
    rcases hva t hyt with h | h
    ·have := congrArg p h; omega
    ·have := congrArg p h; omega
   ·rw [ez] at hxz
    rcases hva x (hs _ _ hxz) with h | h
    ·have := congrArg p h; omega
    ·have := congrArg p h; omega
   ·rw [et] at hyt
    rcases hva y (hs _ _ hyt) with h | h
    ·have := congrArg p h; omega
    ·have := congrArg p h; omega
   ·exact hO.2.2 x y z t sx sy sz st (by omega) (by omega) (by omega) (hsub _ _ sx sz hxz) (hsub _ _ sy st hyt)
 have oA : Outr (fun x => A x ∨ x = a) adj p K := hO.mono (fun x hx => hx.elim (fun h => h.1.1) fun h => by rw [h]; exact haS) fun x y hx hy hxy => hsub x y (hx.elim (fun h => h.1.1) fun h => by rw [h]; exact haS) (hy.elim (fun h => h.1.1) fun h => by rw [h]; exact haS) hxy
 have oB : Outr (fun x => B x ∨ x = b) adj p K := hO.mono (fun x hx => hx.elim (fun h => h.1.1) fun h => by rw [h]; exact hbS) fun x y hx hy hxy => hsub x y (hx.elim (fun h => h.1.1) fun h => by rw [h]; exact hbS) (hy.elim (fun h => h.1.1) fun h => by rw [h]; exact hbS) hxy
 have haI : ¬ I a := fun h => by have := h.2.1; omega
 have hbI : ¬ I b := fun h => by have := h.2.2; omega
 have hvI : ¬ I v := fun h => hvS h.1
 have hout : ∀ x, S x → ¬ I x → x ≠ a → x ≠ b → p x < p a ∨ p b < p x := fun x hx hn h1 h2 => by
  have e1 : p x ≠ p a := fun e => h1 (hO.2.1 x a hx haS e)
  have e2 : p x ≠ p b := fun e => h2 (hO.2.1 x b hx hbS e)
  have : ¬ (p a < p x ∧ p x < p b) := fun h => hn ⟨hx, h.1, h.2⟩
  omega
 have hvx : ∀ x, I x → ¬ adj v x := fun x hx h => by
  rcases hva x h with rfl | rfl
  ·exact haI hx
  ·exact hbI hx
 have hOI : ∀ x y, ((S x ∧ ¬ I x) ∨ x = v) → I y → adj x y → x = a ∨ x = b := by
  rintro x y (⟨hx, hn⟩ | rfl) hy hxy
  ·apply Classical.byContradiction
   intro h
   rw [not_or] at h
   exact hio y x hy.1 hx hy.2.1 hy.2.2 (hout x hx hn h.1 h.2) (hs _ _ hxy)
  ·exact absurd hxy (hvx y hy)
 obtain ⟨q1, L1, g1⟩ := outr_glue hs o1 oA (c := a) (.inl ⟨haS, haI⟩) (.inr rfl) (by
  rintro x (⟨hx, hn⟩ | rfl) (h | h)
  ·exact absurd h.1 hn
  ·exact h
  ·exact absurd h.1 hvI
  ·exact absurd h.symm hav) (by
  rintro x y hx (hy | hy) hxy
  ·rcases hOI x y hx hy.1 hxy with h | h
   ·exact .inl h
   ·subst h
    exact absurd (hs _ _ hxy) (hAb y hy)
  ·exact .inr hy)
 obtain ⟨q2, L2, g2⟩ := outr_glue hs g1 oB (c := b) (.inl (.inl ⟨hbS, hbI⟩)) (.inr rfl) (by
  rintro x ((⟨hx, hn⟩ | rfl) | (hx | rfl)) (h | h)
  ·exact absurd h.1 hn
  ·exact h
  ·exact absurd h.1 hvI
  ·exact absurd h.symm hbv
  ·exact absurd hx.2 h.2
  ·exact h
  ·exact absurd h.1 haI
  ·exact h) (by
  rintro x y (hx | (hx | hx)) (hy | hy) hxy
  ·rcases hOI x y hx hy.1 hxy with h | h
   ·subst h; exact absurd hxy (haB y hy)
   ·exact .inl h
  ·exact .inr hy
  ·exact absurd hxy (hAB x y hx hy)
  ·exact .inr hy
  ·subst hx; exact absurd hxy (haB y hy)
  ·exact .inr hy)
 refine ⟨q2, L2, g2.mono (fun x hx => ?_) fun _ _ _ _ h => h⟩
 rcases hx with hx | rfl
 ·by_cases hI' : I x
  ·by_cases hc : Con adj I (fun z => I z ∧ adj a z) x
   ·exact .inl (.inr (.inl ⟨hI', hc⟩))
   ·exact .inr (.inl ⟨hI', hc⟩)
  ·exact .inl (.inl (.inl ⟨hx, hI'⟩))
 ·exact .inl (.inl (.inr rfl))
theorem outr_two (hvav : adj v a) (hvbv : adj v b) (h23 : ¬ Mnr (fun x => S x ∨ x = v) adj 5 Pe23) {p : Nat → Nat} {K : Nat} (hO : Outr S adj' p K) : ∃ q K', Outr (fun x => S x ∨ x = v) adj q K' := by
 classical
 have hav : a ≠ v := fun e => hvS (e ▸ haS)
 have hbv : b ≠ v := fun e => hvS (e ▸ hbS)
 have key : ∀ I J : Nat → Prop, (∀ x, I x → S x ∧ x ≠ a ∧ x ≠ b) → (∀ x, J x → S x ∧ x ≠ a ∧ x ≠ b) → (∀ x, I x → J x → False) → Links adj I a b → Links adj J a b → False := by
  rintro I J hI hJ hIJ ⟨C, c1, c2, ⟨x1, c3, c4⟩, x2, c5, c6⟩ ⟨D, d1, d2, ⟨y1, d3, d4⟩, y2, d5, d6⟩
  apply h23
  have lab : ∀ i x, i < 5 → (match i with | 0 => x = a | 1 => x = b | 2 => x = v | 3 => C x | _ => D x) → i = if x = a then 0 else if x = b then 1 else if x = v then 2 else if C x then 3 else 4 := by
   intro i x hi h
   match i, hi, h with
   | 0, _, h =>
    have h : x = a := h
    rw [if_pos h]
   | 1, _, h =>
    have h : x = b := h
    rw [if_neg (by rw [h]; exact Ne.symm hab), if_pos h]
   | 2, _, h =>
    have h : x = v := h
    rw [if_neg (by rw [h]; exact Ne.symm hav), if_neg (by rw [h]; exact Ne.symm hbv), if_pos h]
   | 3, _, h =>
    have h : C x := h
    have hi := hI x (c2 x h)
    rw [if_neg hi.2.1, if_neg hi.2.2, if_neg (fun e => hvS (by rw [← e]; exact hi.1)), if_pos h]
   | 4, _, h =>
    have h : D x := h
    have hj := hJ x (d2 x h)
    rw [if_neg hj.2.1, if_neg hj.2.2, if_neg (fun e => hvS (by rw [← e]; exact hj.1)), if_neg (fun hc => hIJ x (c2 x hc) (d2 x h))]
  refine ⟨fun i x => match i with | 0 => x = a | 1 => x = b | 2 => x = v | 3 => C x | _ => D x, ?_, ?_, ?_⟩
  ·intro i hi
   match i, hi with
   | 0, _ => exact ⟨conn_one adj a, fun x h => .inl (by rw [show x = a from h]; exact haS)⟩
   | 1, _ => exact ⟨conn_one adj b, fun x h => .inl (by rw [show x = b from h]; exact hbS)⟩
   | 2, _ => exact ⟨conn_one adj v, fun x h => .inr h⟩
   | 3, _ => exact ⟨c1, fun x h => .inl (hI x (c2 x h)).1⟩
   | 4, _ => exact ⟨d1, fun x h => .inl (hJ x (d2 x h)).1⟩
  ·intro i j x hi hj h1 h2
   rw [lab i x hi h1, ← lab j x hj h2]
  ·intro i j hi hj hp
   match i, j, hi, hj, hp with
   | 0, 2, _, _, _ => exact ⟨a, v, rfl, rfl, hs _ _ hvav⟩
   | 0, 3, _, _, _ => exact ⟨a, x1, rfl, c3, c4⟩
   | 0, 4, _, _, _ => exact ⟨a, y1, rfl, d3, d4⟩
   | 1, 2, _, _, _ => exact ⟨b, v, rfl, rfl, hs _ _ hvbv⟩
   | 1, 3, _, _, _ => exact ⟨b, x2, rfl, c5, c6⟩
   | 1, 4, _, _, _ => exact ⟨b, y2, rfl, d5, d6⟩
   | 2, 0, _, _, _ => exact ⟨v, a, rfl, rfl, hvav⟩
   | 3, 0, _, _, _ => exact ⟨x1, a, c3, rfl, hs _ _ c4⟩
   | 4, 0, _, _, _ => exact ⟨y1, a, d3, rfl, hs _ _ d4⟩
   | 2, 1, _, _, _ => exact ⟨v, b, rfl, rfl, hvbv⟩
   | 3, 1, _, _, _ => exact ⟨x2, b, c5, rfl, hs _ _ c6⟩
   | 4, 1, _, _, _ => exact ⟨y2, b, d5, rfl, hs _ _ d6⟩
   | 0, 0, _, _, hp => unfold Pe23 at hp; omega
   | 0, 1, _, _, hp => unfold Pe23 at hp; omega
   | 1, 0, _, _, hp => unfold Pe23 at hp; omega
   | 1, 1, _, _, hp => unfold Pe23 at hp; omega
   | 2, 2, _, _, hp => unfold Pe23 at hp; omega
   | 2, 3, _, _, hp => unfold Pe23 at hp; omega
   | 2, 4, _, _, hp => unfold Pe23 at hp; omega
   | 3, 2, _, _, hp => unfold Pe23 at hp; omega
   | 3, 3, _, _, hp => unfold Pe23 at hp; omega
   | 3, 4, _, _, hp => unfold Pe23 at hp; omega
   | 4, 2, _, _, hp => unfold Pe23 at hp; omega
   | 4, 3, _, _, hp => unfold Pe23 at hp; omega
   | 4, 4, _, _, hp => unfold Pe23 at hp; omega
 have hne : p a ≠ p b := fun e => hab (hO.2.1 a b haS hbS e)
 have goal : ∀ (p : Nat → Nat), Outr S adj' p K → p a < p b → ∃ q K', Outr (fun x => S x ∨ x = v) adj q K' := by
  intro p hO hlt
  by_cases hI : Links adj (fun x => S x ∧ p a < p x ∧ p x < p b) a b
  ·have hT := hO.turn hs' hbS
   have hbK := hO.1 b hbS
   obtain ⟨q, hq⟩ : ∃ q : Nat → Nat, q = fun x => if p b ≤ p x then p x - p b else p x + K - p b := ⟨_, rfl⟩
   rw [← hq] at hT
   have hqb : q b = 0 := by rw [hq]; simp
   have hqa : q a = p a + K - p b := by rw [hq]; simp only; rw [if_neg (by omega)]
   have := outr_in hs hs' hvS hbS haS (Ne.symm hab) hsub (hs' _ _ hab') (fun x h => (hva x h).symm) hT (by omega) fun hJ => ?_
   ·exact this
   ·refine key _ (fun x => S x ∧ q b < q x ∧ q x < q a) (fun x hx => ⟨hx.1, fun e => ?_, fun e => ?_⟩) (fun x hx => ⟨hx.1, fun e => ?_, fun e => ?_⟩) (fun x hx hy => ?_) hI ?_
    ·rw [e] at hx; omega
    ·rw [e] at hx; omega
    ·rw [e] at hx; omega
    ·rw [e] at hx; omega
    ·have : q x = p x + K - p b := by rw [hq]; simp only; rw [if_neg (by omega)]
     omega
    ·obtain ⟨C, h1, h2, h3, h4⟩ := hJ
     exact ⟨C, h1, h2, h4, h3⟩
  ·exact outr_in hs hs' hvS haS hbS hab hsub hab' hva hO hlt hI
 by_cases hlt : p a < p b
 ·exact goal p hO hlt
 ·-- turn so that a comes first
  have hT := hO.turn hs' haS
  refine goal _ hT ?_
  have := hO.1 b hbS
  have := hO.1 a haS
  show (if p a ≤ p a then p a - p a else p a + K - p a) < (if p a ≤ p b then p b - p a else p b + K - p a)
  rw [if_pos (Nat.le_refl _), if_neg (by omega)]
  omega
end
theorem outr_exists : ∀ (n : Nat) (V : List Nat) (adj : Nat → Nat → Prop), V.length = n → (∀ x y, adj x y → adj y x) → (∀ x, ¬ adj x x) → (∀ x y, adj x y → x ∈ V) → ¬ Mnr (fun x => x ∈ V) adj 4 (fun i j => i ≠ j) → ¬ Mnr (fun x => x ∈ V) adj 5 Pe23 →
  ∃ p K, Outr (fun x => x ∈ V) adj p K := by
 intro n
 induction n using Nat.strongRecOn with
 | _ n ih =>
  intro V adj hl hs hi hV h4 h23
  by_cases hne : V = []
  ·subst hne
   refine ⟨fun _ => 0, 0, ?_, ?_, ?_⟩
   ·intro x hx; cases hx
   ·intro x y hx; cases hx
   ·intro a b c d ha; cases ha
  have hd : ∃ v, v ∈ V ∧ AtMost 2 (adj v) := by
   apply Classical.byContradiction
   intro hno
   exact h4 (deg3_k4 _ V adj rfl hne hs hi hV fun x hx h2 => hno ⟨x, hx, h2⟩)
  obtain ⟨v, hv, h2⟩ := hd
  have e : (fun x => x ∈ V ∧ x ≠ v) = fun x => x ∈ V.filter (fun x => decide (x ≠ v)) := funext fun x => propext (by simp)
  have hlen : (V.filter (fun x => decide (x ≠ v))).length < n := by
   rw [← hl]
   exact List.length_filter_lt_length_iff_exists.2 ⟨v, hv, by simp⟩
  obtain ⟨p, K, hO⟩ := ih _ hlen _ (Fil adj v) rfl (fil_symm hs) (fun x h => h.1 rfl) (fun x y h => by
    rw [List.mem_filter]
    refine ⟨?_, by simpa using h.2.1⟩
    rcases h.2.2.2 with h | h
    ·exact hV _ _ h
    ·exact hV _ _ h.1) (fun hm => h4 (fil_mnr hs hi hv h2 (by rw [e]; exact hm))) (fun hm => h23 (fil_mnr hs hi hv h2 (by rw [e]; exact hm)))
  rw [← e] at hO
  have eV : (fun x => x ∈ V) = fun x => (x ∈ V ∧ x ≠ v) ∨ x = v := funext fun x => propext ⟨fun h => by
   by_cases hx : x = v
   ·exact .inr hx
   ·exact .inl ⟨h, hx⟩, fun h => by
   rcases h with h | rfl
   ·exact h.1
   ·exact hv⟩
  rw [eV] at h23 ⊢
  have hvne : ∀ x, adj v x → x ≠ v := fun x h hx => hi v (by rw [hx] at h; exact h)
  have hsub : ∀ x y, (x ∈ V ∧ x ≠ v) → (y ∈ V ∧ y ≠ v) → adj x y → Fil adj v x y := fun x y hx hy hxy => ⟨fun e => hi x (by rw [← e] at hxy; exact hxy), hx.2, hy.2, .inl hxy⟩
  have hO1 : Outr (fun x => x ∈ V ∧ x ≠ v) adj p K := hO.mono (fun _ h => h) hsub
  by_cases ha : ∃ a, adj v a
  ·obtain ⟨a, ha⟩ := ha
   have haV : a ∈ V ∧ a ≠ v := ⟨hV _ _ (hs _ _ ha), hvne a ha⟩
   by_cases hb : ∃ b, adj v b ∧ b ≠ a
   ·obtain ⟨b, hb, hba⟩ := hb
    have hbV : b ∈ V ∧ b ≠ v := ⟨hV _ _ (hs _ _ hb), hvne b hb⟩
    refine outr_two (S := fun x => x ∈ V ∧ x ≠ v) (adj' := Fil adj v) (a := a) (b := b) hs (fil_symm hs) (fun h => h.2 rfl) haV hbV (Ne.symm hba) hsub ⟨Ne.symm hba, haV.2, hbV.2, .inr ⟨hs _ _ ha, hb⟩⟩ (fun x hx => ?_) ha hb h23 hO
    apply Classical.byContradiction
    intro hn
    rw [not_or] at hn
    obtain ⟨l, hl2, hm⟩ := h2
    have := nodup_le (l := [x, a, b]) (m := l) (by simp; exact ⟨⟨hn.1, hn.2⟩, Ne.symm hba⟩) (by
     intro z hz
     simp at hz
     rcases hz with rfl | rfl | rfl
     ·exact hm _ hx
     ·exact hm _ ha
     ·exact hm _ hb)
    simp at this
    omega
   ·have honly : ∀ x, adj v x → x = a := fun x hx => Classical.byContradiction fun hn => hb ⟨x, hx, hn⟩
    have o2 : Outr (fun x => x = a ∨ x = v) adj (fun x => if x = v then 1 else 0) 2 := by
     refine ⟨fun x _ => by show (if x = v then 1 else 0) < 2; split <;> omega, ?_, ?_⟩
     ·rintro x y (rfl | rfl) (rfl | rfl) e
      ·rfl
      ·simp [haV.2] at e
      ·simp [haV.2] at e
      ·rfl
     ·intro x y z t _ _ _ _ g1 g2 g3 _ _
      have b1 : (if z = v then 1 else 0) ≤ 1 := by split <;> omega
      have g1 : (if x = v then 1 else 0) < (if y = v then 1 else 0) := g1
      have g2 : (if y = v then 1 else 0) < (if z = v then 1 else 0) := g2
      omega
    obtain ⟨q, L, g⟩ := outr_glue hs hO1 o2 (c := a) haV (.inl rfl) (by
     rintro x hx (h | h)
     ·exact h
     ·exact absurd h hx.2) (by
     rintro x y hx (h | h) hxy
     ·exact .inr h
     ·subst h
      exact .inl (honly x (hs _ _ hxy)))
    refine ⟨q, L, g.mono (fun x hx => ?_) fun _ _ _ _ h => h⟩
    rcases hx with h | h
    ·exact .inl h
    ·exact .inr (.inr h)
  ·have hno : ∀ x, ¬ adj v x := fun x h => ha ⟨x, h⟩
   refine ⟨fun x => if x = v then K else p x, K + 1, ?_, ?_, ?_⟩
   ·rintro x (hx | rfl)
    ·have := hO.1 x hx
     show (if x = v then K else p x) < K + 1
     rw [if_neg hx.2]; omega
    ·show (if x = x then K else p x) < K + 1
     rw [if_pos rfl]; omega
   ·rintro x y (hx | rfl) (hy | rfl) h
    ·have h : (if x = v then K else p x) = (if y = v then K else p y) := h
     rw [if_neg hx.2, if_neg hy.2] at h
     exact hO.2.1 x y hx hy h
    ·have h : (if x = y then K else p x) = (if y = y then K else p y) := h
     have := hO.1 x hx
     rw [if_neg hx.2, if_pos rfl] at h; omega
    ·have h : (if x = x then K else p x) = (if y = x then K else p y) := h
     have := hO.1 y hy
     rw [if_neg hy.2, if_pos rfl] at h; omega
    ·rfl
   ·intro x y z t hx hy hz ht g1 g2 g3 hxz hyt
    have nv : ∀ {u w}, adj u w → u ≠ v ∧ w ≠ v := fun {u w} h => ⟨fun e => hno w (e ▸ h), fun e => hno u (e ▸ hs _ _ h)⟩
    have n1 := nv hxz
    have n2 := nv hyt
    have g1 : (if x = v then K else p x) < (if y = v then K else p y) := g1
    have g2 : (if y = v then K else p y) < (if z = v then K else p z) := g2
    have g3 : (if z = v then K else p z) < (if t = v then K else p t) := g3
    rw [if_neg n1.1, if_neg n2.1] at g1
    rw [if_neg n2.1, if_neg n1.2] at g2
    rw [if_neg n1.2, if_neg n2.2] at g3
    exact hO1.2.2 x y z t (hx.resolve_right n1.1) (hy.resolve_right n2.1) (hz.resolve_right n1.2) (ht.resolve_right n2.2) g1 g2 g3 hxz hyt
theorem outr_iff {V : List Nat} {adj : Nat → Nat → Prop} (hs : ∀ x y, adj x y → adj y x) (hi : ∀ x, ¬ adj x x) (hV : ∀ x y, adj x y → x ∈ V) :
  (∃ p K, Outr (fun x => x ∈ V) adj p K) ↔ ¬ Mnr (fun x => x ∈ V) adj 4 (fun i j => i ≠ j) ∧ ¬ Mnr (fun x => x ∈ V) adj 5 Pe23 :=
 ⟨fun ⟨p, K, h⟩ => ⟨h.no_k4 hs, h.no_k23 hs⟩, fun h => outr_exists _ V adj rfl hs hi hV h.1 h.2⟩
end Go.Proofs.YtjloppfdagfpmaaDoor.T
end
section
/- (minor) Outer orders by places; turned and backward. -/
namespace Go.Proofs.YtjloppfdagfpmaaDoor.X
open Go.RowKit YtjloppfdagfpmaaDoorW.PrintWords YtjloppfdagfpmaaDoorW.PrintLast YtjloppfdagfpmaaDoorW.PrintMore YtjloppfdagfpmaaDoor.T
theorem oo_outr {G : List Nat} {S : Nat → Prop} (h : OO G S) : ∃ p K, Outr S (Adj G) p K := by
 obtain ⟨Q, h1, h2, h3⟩ := h
 have hlt : ∀ x, S x → Q.idxOf x < Q.length := fun x hx => List.idxOf_lt_length_of_mem ((h2 x).2 hx)
 have hget : ∀ x, S x → Q.getD (Q.idxOf x) 0 = x := fun x hx => by
  rw [List.getD_eq_getElem?_getD, List.getElem?_eq_getElem (hlt x hx)]
  exact List.getElem_idxOf (hlt x hx)
 refine ⟨fun x => Q.idxOf x, Q.length, hlt, fun x y hx hy e => ?_, fun a b c d ha hb hc hd g1 g2 g3 hac hbd => ?_⟩
 ·have e : Q.idxOf x = Q.idxOf y := e
  rw [← hget x hx, e, hget y hy]
 ·refine h3 (Q.idxOf d) (hlt d hd) ⟨Q.idxOf a, Q.idxOf b, Q.idxOf c, g1, g2, g3, ?_, ?_⟩
  ·rw [cr_adj, hget a ha, hget c hc]; exact hac
  ·rw [cr_adj, hget b hb, hget d hd]; exact hbd
theorem outr_oo {G : List Nat} {n : Nat} {S : Nat → Prop} (hS : ∀ x, S x → x < n) {p : Nat → Nat} {K : Nat} (h : Outr S (Adj G) p K) : OO G S := by
 classical
 let f : Nat → Option Nat := fun i => (List.range n).find? fun x => decide (S x ∧ p x = i)
 have hf : ∀ {i x}, f i = some x → S x ∧ p x = i := fun {i x} h => by
  have := List.find?_some (p := fun x => decide (S x ∧ p x = i)) h
  simpa using this
 have hf2 : ∀ {x}, S x → f (p x) = some x := fun {x} hx => by
  cases hy : f (p x) with
  | none =>
   have := List.find?_eq_none.1 hy x (List.mem_range.2 (hS x hx))
   simp [hx] at this
  | some y =>
   have := hf hy
   rw [h.2.1 y x this.1 hx this.2]
 have hmem : ∀ v, v ∈ (List.range K).filterMap f ↔ S v := fun v => by
  rw [List.mem_filterMap]
  constructor
  ·rintro ⟨i, _, hi⟩; exact (hf hi).1
  ·intro hv; exact ⟨p v, List.mem_range.2 (h.1 v hv), hf2 hv⟩
 have hpw : ((List.range K).filterMap f).Pairwise fun a b => p a < p b := by
  refine List.Pairwise.filterMap f (R := fun a b => a < b) (fun a a' hlt b hb b' hb' => ?_) List.pairwise_lt_range
  rw [(hf hb).2, (hf hb').2]; exact hlt
 refine ⟨_, hpw.imp fun {a b} hlt e => (by rw [e] at hlt; omega), hmem, fun m hm => ?_⟩
 rintro ⟨i, j, k, h1, h2, h3, h4, h5⟩
 rw [List.pairwise_iff_getElem] at hpw
 rw [cr_adj] at h4 h5
 simp only [List.getD_eq_getElem?_getD, List.getElem?_eq_getElem (show i < ((List.range K).filterMap f).length by omega), List.getElem?_eq_getElem (show j < ((List.range K).filterMap f).length by omega), List.getElem?_eq_getElem (show k < ((List.range K).filterMap f).length by omega), List.getElem?_eq_getElem hm, Option.getD_some] at h4 h5
 exact h.2.2 _ _ _ _ ((hmem _).1 (List.getElem_mem _)) ((hmem _).1 (List.getElem_mem _)) ((hmem _).1 (List.getElem_mem _)) ((hmem _).1 (List.getElem_mem _)) (hpw i j (by omega) (by omega) h1) (hpw j k (by omega) (by omega) h2) (hpw k m (by omega) hm h3) h4 h5
def k23 : List Nat := [28, 28, 3, 3, 3]
theorem refK23_ev : Ev (fun k => lampblackref07_K23.f k) (gi k23) := Ev.of (lampblackref07_K23.mono) (k := 20) (by decide +kernel)
theorem k23_gr : Gr 6 k23 := gr_of_chk (by omega) (by decide +kernel)
theorem k23_adj : ∀ i j : Fin 5, ((k23.getD i.val 0).testBit j.val = true ↔ (i.val < 2 ∧ 2 ≤ j.val) ∨ (j.val < 2 ∧ 2 ≤ i.val)) := by decide +kernel
theorem mnr_k23 {G : List Nat} : IsMnr G k23 ↔ Mnr (fun x => x < G.length) (Adj G) 5 Pe23 := by
 unfold IsMnr
 exact ⟨mnr_pe fun i j hi hj h => (k23_adj ⟨i, hi⟩ ⟨j, hj⟩).2 h, mnr_pe fun i j hi hj h => (k23_adj ⟨i, hi⟩ ⟨j, hj⟩).1 h⟩
theorem oo_iff {m : Nat} {G : List Nat} (hG : Gr m G) : OO G (fun x => x < G.length) ↔ ¬ IsMnr G (kN 4) ∧ ¬ IsMnr G k23 := by
 rw [mnr_k, mnr_k23]
 have hV : (fun x => x < G.length) = fun x => x ∈ List.range G.length := funext fun x => propext List.mem_range.symm
 rw [hV, ← outr_iff (fun x y h => hG.adj_symm h) (fun x h => hG.adj_irr h) fun x y h => List.mem_range.2 (hG.adj_lt' h)]
 constructor
 ·exact oo_outr
 ·rintro ⟨p, K, h⟩
  exact outr_oo (n := G.length) (fun x hx => List.mem_range.1 hx) h
/-! Turned and backward. -/
theorem cr_symm {m : Nat} {G Q : List Nat} (hG : Gr m G) {i j : Nat} (h : cr G Q i j = true) : cr G Q j i = true := hG.adj_symm h
theorem noX_map {m : Nat} {G Q Q' : List Nat} (hG : Gr m G) (hl : Q'.length = Q.length) (σ : Nat → Nat) (hσ : ∀ i, i < Q.length → σ i < Q.length) (hget : ∀ i, i < Q.length → Q'.getD i 0 = Q.getD (σ i) 0)
  (hturn : ∀ i j k l, i < j → j < k → k < l → l < Q.length → (σ i < σ j ∧ σ j < σ k ∧ σ k < σ l) ∨ (σ j < σ k ∧ σ k < σ l ∧ σ l < σ i) ∨ (σ k < σ l ∧ σ l < σ i ∧ σ i < σ j) ∨ (σ l < σ i ∧ σ i < σ j ∧ σ j < σ k) ∨ (σ l < σ k ∧ σ k < σ j ∧ σ j < σ i))
  (h : ∀ m, m < Q.length → ¬ CrossAt G Q m) : ∀ m, m < Q'.length → ¬ CrossAt G Q' m := by
 rintro l hl' ⟨i, j, k, h1, h2, h3, h4, h5⟩
 rw [hl] at hl'
 have key : ∀ i j, i < Q.length → j < Q.length → cr G Q' i j = true → cr G Q (σ i) (σ j) = true := fun i j hi hj hc => by
  rw [cr_adj, hget i hi, hget j hj] at hc
  exact hc
 have a1 := key i k (by omega) (by omega) h4
 have a2 := key j l (by omega) hl' h5
 have s1 := hσ i (by omega)
 have s2 := hσ j (by omega)
 have s3 := hσ k (by omega)
 have s4 := hσ l (by omega)
 rcases hturn i j k l h1 h2 h3 hl' with ⟨b1, b2, b3⟩ | ⟨b1, b2, b3⟩ | ⟨b1, b2, b3⟩ | ⟨b1, b2, b3⟩ | ⟨b1, b2, b3⟩
 ·exact h (σ l) s4 ⟨_, _, _, b1, b2, b3, a1, a2⟩
 ·exact h (σ i) s1 ⟨_, _, _, b1, b2, b3, a2, cr_symm hG a1⟩
 ·exact h (σ j) s2 ⟨_, _, _, b1, b2, b3, cr_symm hG a1, cr_symm hG a2⟩
 ·exact h (σ k) s3 ⟨_, _, _, b1, b2, b3, cr_symm hG a2, a1⟩
 ·exact h (σ i) s1 ⟨_, _, _, b1, b2, b3, cr_symm hG a2, cr_symm hG a1⟩
theorem isOut_turn {m : Nat} {G : List Nat} (hG : Gr m G) {Q : List Nat} (h : IsOut G (gi Q)) {b : Nat} (hb : b ≤ Q.length) : IsOut G (gi (Q.drop b ++ Q.take b)) := by
 obtain ⟨P, e, h1, h2, h3, h4⟩ := h
 obtain rfl : Q = P := by
  have := congrArg (List.map Int.toNat) e
  rwa [gi_toNat, gi_toNat] at this
 have hmem : ∀ v, v ∈ Q.drop b ++ Q.take b → v ∈ Q := fun v hv => by
  rcases List.mem_append.1 hv with h | h
  ·exact List.mem_of_mem_drop h
  ·exact List.mem_of_mem_take h
 have hlen : (Q.drop b ++ Q.take b).length = Q.length := by rw [List.length_append, List.length_drop, List.length_take]; omega
 refine ⟨_, rfl, ?_, fun v hv => h2 v (hmem v hv), by rw [hlen, h3], ?_⟩
 ·have : (Q.take b ++ Q.drop b).Nodup := by rw [List.take_append_drop]; exact h1
  rw [List.nodup_append] at this ⊢
  exact ⟨this.2.1, this.1, fun x hx y hy e => this.2.2 y hy x hx e.symm⟩
 ·refine noX_map hG hlen (fun i => if i < Q.length - b then b + i else i - (Q.length - b)) (fun i hi => ?_) (fun i hi => ?_) (fun i j k l g1 g2 g3 g4 => ?_) h4
  ·show (if i < Q.length - b then b + i else i - (Q.length - b)) < Q.length
   split <;> omega
  ·show (Q.drop b ++ Q.take b).getD i 0 = Q.getD (if i < Q.length - b then b + i else i - (Q.length - b)) 0
   rw [List.getD_eq_getElem?_getD, List.getD_eq_getElem?_getD, List.getElem?_append, List.length_drop]
   by_cases c : i < Q.length - b
   ·rw [if_pos c, if_pos c, List.getElem?_drop]
   ·rw [if_neg c, if_neg c, List.getElem?_take_of_lt (by omega)]
  ·by_cases c1 : i < Q.length - b
   ·by_cases c2 : j < Q.length - b
    ·by_cases c3 : k < Q.length - b
     ·by_cases c4 : l < Q.length - b
      ·rw [if_pos c1, if_pos c2, if_pos c3, if_pos c4]; omega
      ·rw [if_pos c1, if_pos c2, if_pos c3, if_neg c4]; omega
     ·rw [if_pos c1, if_pos c2, if_neg c3, if_neg (by omega)]; omega
    ·rw [if_pos c1, if_neg c2, if_neg (by omega), if_neg (by omega)]; omega
   ·rw [if_neg c1, if_neg (by omega), if_neg (by omega), if_neg (by omega)]; omega
theorem isOut_back {m : Nat} {G : List Nat} (hG : Gr m G) {Q : List Nat} (h : IsOut G (gi Q)) : IsOut G (gi Q.reverse) := by
 obtain ⟨P, e, h1, h2, h3, h4⟩ := h
 obtain rfl : Q = P := by
  have := congrArg (List.map Int.toNat) e
  rwa [gi_toNat, gi_toNat] at this
 refine ⟨_, rfl, List.pairwise_reverse.2 (h1.imp fun h => h.symm), fun v hv => h2 v (List.mem_reverse.1 hv), by rw [List.length_reverse, h3], ?_⟩
 refine noX_map hG List.length_reverse (fun i => Q.length - 1 - i) (fun i hi => ?_) (fun i hi => ?_) (fun i j k l g1 g2 g3 g4 => ?_) h4
 ·show Q.length - 1 - i < Q.length
  omega
 ·show Q.reverse.getD i 0 = Q.getD (Q.length - 1 - i) 0
  rw [List.getD_eq_getElem?_getD, List.getD_eq_getElem?_getD, List.getElem?_reverse hi]
 ·omega
theorem rev1 (a : Int) : slices_Reverse_int_int.f 6 [a] = some [a] := by
 kernel_rfl
theorem rev2 (a b : Int) : slices_Reverse_int_int.f 6 [a, b] = some [b, a] := by
 kernel_rfl
theorem rev3 (a b c : Int) : slices_Reverse_int_int.f 6 [a, b, c] = some [c, b, a] := by
 kernel_rfl
theorem rev4 (a b c d : Int) : slices_Reverse_int_int.f 6 [a, b, c, d] = some [d, c, b, a] := by
 kernel_rfl
theorem rev5 (a b c d e : Int) : slices_Reverse_int_int.f 6 [a, b, c, d, e] = some [e, d, c, b, a] := by
 kernel_rfl
theorem rev6 (a b c d e f : Int) : slices_Reverse_int_int.f 6 [a, b, c, d, e, f] = some [f, e, d, c, b, a] := by
 kernel_rfl
theorem rev7 (a b c d e f g : Int) : slices_Reverse_int_int.f 6 [a, b, c, d, e, f, g] = some [g, f, e, d, c, b, a] := by
 kernel_rfl
theorem rev8 (a b c d e f g h : Int) : slices_Reverse_int_int.f 6 [a, b, c, d, e, f, g, h] = some [h, g, f, e, d, c, b, a] := by
 kernel_rfl
theorem reverse_ev (l : List Int) (h1 : 1 ≤ l.length) (h8 : l.length ≤ 8) : Ev (fun k => slices_Reverse_int_int.f k l) l.reverse := by
 refine Ev.of (slices_Reverse_int_int.mono l) (k := 6) ?_
 match l, h1, h8 with
 | [a], _, _ => exact rev1 a
 | [a, b], _, _ => exact rev2 a b
 | [a, b, c], _, _ => exact rev3 a b c
 | [a, b, c, d], _, _ => exact rev4 a b c d
 | [a, b, c, d, e], _, _ => exact rev5 a b c d e
 | [a, b, c, d, e, f], _, _ => exact rev6 a b c d e f
 | [a, b, c, d, e, f, g], _, _ => exact rev7 a b c d e f g
 | [a, b, c, d, e, f, g, h], _, _ => exact rev8 a b c d e f g h
 | a :: b :: c :: d :: e :: f :: g :: h :: i :: t, _, h8 => simp at h8
end Go.Proofs.YtjloppfdagfpmaaDoor.X
end
section
/- MinorRound, without Go and memory: there is an outer order exactly if neither K(4) nor K(2,3) is a minor; CheckOuter accepts it, also turned and backward, and Reduce is OK then. -/
namespace Go.Proofs.YtjloppfdagfpmaaDoor.Pure
open Go.RowKit YtjloppfdagfpmaaDoorW.PrintWords YtjloppfdagfpmaaDoorW.PrintLast YtjloppfdagfpmaaDoorW.PrintMore YtjloppfdagfpmaaDoor.T YtjloppfdagfpmaaDoor.X
theorem node_of (a : Int) (n : Nat) (h0 : 0 < n) (hn : n ≤ 9) : ∃ A : Nat, A < n ∧ wrap64 (Int.tmod (IntKind.u64.wrap a) (IntKind.u64.wrap (n : Int))) = (A : Int) := by
 have h1 : 0 ≤ IntKind.u64.wrap a := by rw [IntKind.wrap_u64]; omega
 have hnn : IntKind.u64.wrap (n : Int) = (n : Int) := by rw [IntKind.wrap_u64]; omega
 rw [hnn, Int.tmod_eq_emod_of_nonneg h1]
 have h2 : 0 ≤ IntKind.u64.wrap a % (n : Int) := Int.emod_nonneg _ (by omega)
 have h3 : IntKind.u64.wrap a % (n : Int) < (n : Int) := Int.emod_lt_of_pos _ (by omega)
 refine ⟨(IntKind.u64.wrap a % (n : Int)).toNat, by omega, ?_⟩
 rw [w64_small _ (by omega) (by omega)]
 omega
theorem Outer_eq {G : List Nat} (hG : Gr 8 G) : minor_Outer.f (gi G) = some ((outF G (2 ^ G.length - 1)).elim ([], 4) fun M => (gi M, 0)) := by
 have h1 := hG.most
 unfold minor_Outer.f
 rw [gi_length, if_pos (by omega), (chk_iff 8 (by omega) _).2 ⟨G, rfl, hG⟩, gi_toNat]
 rfl
theorem Outer_bad (g : List Int) (hl : g.length < 1000) (h : chk 8 g = false) : minor_Outer.f g = some ([], 2) := by
 unfold minor_Outer.f
 rw [if_pos hl, h]
 rfl
theorem all_small {n : Nat} (hn : n ≤ 9) : 2 ^ n - 1 < 512 := by
 have : 2 ^ n ≤ 2 ^ 9 := Nat.pow_le_pow_right (by omega) hn
 have := Nat.two_pow_pos n
 omega
theorem accepts {G : List Nat} (hG : Gr 8 G) {l : List Int} (hl : l.length ≤ 1000) (h : IsOut G l) : Ev (fun k => minor_CheckOuter.f k (gi G) l) (true, 0) := by
 obtain ⟨r, h1, h2⟩ := CheckOuter_ev hG l hl
 rw [h2.2 h] at h1
 exact h1
theorem reduce_ok {G : List Nat} (hG : Gr 8 G) (h4 : ¬ IsMnr G (kN 4)) : ∃ T, minor_Reduce.f (gi G) = some (T, 0) := by
 have hn := hG.most
 have h2n := Nat.two_pow_pos G.length
 have hall : bset (2 ^ G.length - 1) = fun x => x < G.length := funext fun x => propext (all_bit G.length x)
 have hAL : AL G (2 ^ G.length - 1) = Adj G := funext fun x => funext fun y => propext ⟨fun h => h.2.2, fun h => ⟨(all_bit _ _).2 (hG.adj_lt' h), (all_bit _ _).2 (hG.adj_lt h), h⟩⟩
 have hpc : pc (2 ^ G.length - 1) 9 = G.length := pc_all ⟨G.length, by omega⟩
 have hspec := red_spec (n := G.length) (by omega) 10 G (2 ^ G.length - 1) [] (all_inv hG) (by omega)
 rw [hall, hAL] at hspec
 rcases hspec with ⟨T, t1, _⟩ | ⟨_, t2⟩
 ·exact ⟨T, by rw [Reduce_eq hG, t1]; simp⟩
 ·exact absurd (mnr_k.2 t2) h4
theorem round_law (g : List Int) (a : Int) (hg : g.length < 2 ^ 44) : Ev (fun k => lampblacklaw07_MinorRound.f k g a) true := by
 obtain ⟨h, e, e1, e2, e3⟩ := few_eq g hg
 unfold lampblacklaw07_MinorRound.f
 refine Ev.bind1 e ?_
 by_cases hc : chk 8 g = true
 ·obtain ⟨G, rfl, hG⟩ := (chk_iff 8 (by omega) _).1 hc
  rw [e1 hc] at e ⊢
  have hn := hG.most
  have hp := hG.pos
  obtain ⟨b4, hb4, hm4⟩ := has_eq hG (kN_gr (n := 4) (by omega) (by omega))
  obtain ⟨b23, hb23, hm23⟩ := has_eq hG k23_gr
  have hoo : (outF G (2 ^ G.length - 1)).isSome = true ↔ OO G (fun x => x < G.length) := by
   rw [outF_iff G (all_small (by omega))]
   rw [show bset (2 ^ G.length - 1) = fun x => x < G.length from funext fun x => propext (all_bit G.length x)]
  rw [oo_iff hG, ← hm4, ← hm23] at hoo
  have hK4 := refK_ev (n := 4) (by omega) (by omega)
  have ho := Outer_eq hG
  cases hout : outF G (2 ^ G.length - 1) with
  | none =>
   rw [hout] at hoo ho
   have hor : b4 = true ∨ b23 = true := by
    cases b4 <;> cases b23 <;> simp_all
   refine Ev.bind1 ho (Ev.if_neg (by simp) (Ev.bind hK4 (Ev.bind1 hb4 (Ev.bind refK23_ev (Ev.bind1 hb23 (Ev.if_pos rfl (Ev.if_pos rfl (Ev.if_neg (by simp) (Ev.if_pos rfl ?_)))))))))
   have fin : Ev (fun k => lampblacklaw07_MinorRound.j0 k (gi G) a [] 4 false) true :=
    Ev.step (fun k => by rw [lampblacklaw07_MinorRound.j0, if_neg (by simp), if_neg (by simp)]) (Ev.bind awake_ev (Ev.some rfl))
   cases b4 with
   | true => exact Ev.if_pos rfl fin
   | false =>
    have : b23 = true := by simpa using hor
    subst this
    exact Ev.if_neg (by simp) fin
  | some M =>
   rw [hout] at hoo ho
   have hno : b4 = false ∧ b23 = false := by
    cases b4 <;> cases b23 <;> simp_all
   obtain ⟨rfl, rfl⟩ := hno
   have hIs := outF_is (by omega) hout
   have hlen : M.length = G.length := by
    obtain ⟨P, e, _, _, h3, _⟩ := hIs
    have := congrArg List.length e
    rw [gi_length, gi_length] at this
    omega
   obtain ⟨b, hb, hbe⟩ := node_of a M.length (by omega) (by omega)
   have hT := isOut_turn hG hIs (b := b) (by omega)
   have hlen2 : (M.drop b ++ M.take b).length = M.length := by rw [List.length_append, List.length_drop, List.length_take]; omega
   have hB := isOut_back hG hT
   obtain ⟨T, hred⟩ := reduce_ok hG (fun h => by have := hm4.2 h; cases this)
   have hu : ¬ IntKind.u64.wrap ((M.length : Nat) : Int) = 0 := by rw [IntKind.wrap_u64]; omega
   have hcl : slices_Clone_int_int.f ((gi M).drop b) = some ((gi M).drop b) := by
    unfold slices_Clone_int_int.f
    simp only [Option.bind_some, List.nil_append]
    rw [if_pos (by rw [List.length_nil, List.length_drop, gi_length]; omega)]
   have hgi : (gi M).drop b ++ (gi M).take b = gi (M.drop b ++ M.take b) := by simp [gi]
   have hrev : (gi (M.drop b ++ M.take b)).reverse = gi (M.drop b ++ M.take b).reverse := by simp [gi]
   have hre := reverse_ev (gi (M.drop b ++ M.take b)) (by rw [gi_length]; omega) (by rw [gi_length]; omega)
   rw [hrev] at hre
   refine Ev.bind1 ho (Ev.if_neg (by simp) (Ev.bind hK4 (Ev.bind1 hb4 (Ev.bind refK23_ev (Ev.bind1 hb23 (Ev.if_pos rfl (Ev.if_pos rfl (Ev.if_pos rfl (Ev.if_neg (by simp) ?_)))))))))
   show Ev (fun k => lampblacklaw07_MinorRound.j0 k (gi G) a (gi M) 0 false) true
   refine Ev.step (f := fun k => (lampblacklaw07_Few.f (gi G)).bind fun t725 => ((minor_CheckOuter.f k t725 (gi M)).bind fun bt728 => ((lampblacklaw07_Few.f (gi G)).bind fun t730 => ((minor_CheckOuter.f k t730 (gi (M.drop b ++ M.take b))).bind fun bt733 => ((slices_Reverse_int_int.f k (gi (M.drop b ++ M.take b))).bind fun t735 => ((lampblacklaw07_Few.f (gi G)).bind fun t736 => ((minor_CheckOuter.f k t736 t735).bind fun bt739 => ((lampblacklaw07_Few.f (gi G)).bind fun t741 => ((minor_Reduce.f t741).bind fun bt744 => (if bt728.1 = true then (if bt733.1 = true then (if bt739.1 = true then (if bt728.2 = 0 then (if bt733.2 = 0 then (if bt739.2 = 0 then (if bt744.2 = 0 then ((lampblacklaw07_awake.f k).bind fun t748 => (some t748)) else (some false)) else (some false)) else (some false)) else (some false)) else (some false)) else (some false)) else (some false))))))))))) (fun k => by
    rw [lampblacklaw07_MinorRound.j0, if_neg (by simp), if_pos rfl, if_pos (by rw [gi_length, gi_length]; omega)]
    simp only [gi_length]
    rw [if_neg hu, hbe, if_pos (by omega), if_pos (by omega), Int.toNat_natCast, hcl, Option.bind_some, Option.bind_some, if_pos (by rw [List.length_drop, List.length_take, gi_length]; omega), Option.bind_some, hgi]) ?_
   refine Ev.bind1 e (Ev.bind (accepts hG (by rw [gi_length]; omega) hIs) (Ev.bind1 e (Ev.bind (accepts hG (by rw [gi_length]; omega) hT) (Ev.bind hre (Ev.bind1 e (Ev.bind (accepts hG (by rw [gi_length, List.length_reverse]; omega) hB) (Ev.bind1 e (Ev.bind1 hred ?_))))))))
   exact Ev.if_pos rfl (Ev.if_pos rfl (Ev.if_pos rfl (Ev.if_pos rfl (Ev.if_pos rfl (Ev.if_pos rfl (Ev.if_pos rfl (Ev.bind awake_ev (Ev.some rfl))))))))
 ·have hc' : chk 8 g = false := by simpa using hc
  have hgb : minor_Greatest.f h = some (0, 2) := by
   unfold minor_Greatest.f
   rw [if_pos (by omega), e2 hc']
   rfl
  exact Ev.bind1 (Outer_bad h (by omega) (e2 hc')) (Ev.if_pos rfl (Ev.bind1 e (Ev.bind1 hgb (Ev.if_pos rfl (Ev.bind awake_ev (Ev.some rfl))))))
theorem MinorRound : ∀ (l0 : List Int) (a1 : Int), l0.length ≤ maxLen → l0.length * 8 ≤ 140737488351232 → (∀ x ∈ l0, (Lit.int .i64 x).wf = true) → (Lit.int .i64 a1).wf = true → ∃ k, lampblacklaw07_MinorRound.f k l0 a1 = some true := by
 intro g a _ hg _ _
 exact Ev.rounds (round_law g a (by omega))
end Go.Proofs.YtjloppfdagfpmaaDoor.Pure
end
