/- Part 1 of what WidthCounts rests on: contracts of the functions that it reaches, and what they compute, in plain words. -/
import Derived.Test.YtoffehihicabcaaDoorZWidthCounts0
import Derived.Laws.EntriesVeiled
import Derived.WalkSpells
import Derived.Carry
set_option linter.unusedVariables false
set_option linter.unusedSimpArgs false
section
namespace Go.Proofs.YtoffehihicabcaaDoor.T
open Go.RowKit YtoffehihicabcaaDoorW.PrintWords YtoffehihicabcaaDoorW.PrintLast YtoffehihicabcaaDoorW.PrintMore
noncomputable def dg (G : List Nat) (gone v : Nat) : Nat := pc (nbset G gone v) 9
def lft (G : List Nat) (gone : Nat) : Nat := diff (2 ^ G.length - 1) gone
theorem lft_bit (G : List Nat) (gone v : Nat) : bset (lft G gone) v ↔ v < G.length ∧ ¬ bset gone v := by
 unfold lft; rw [diff_bset, all_bit]
theorem lft_lt (G : List Nat) (gone : Nat) : lft G gone < 2 ^ G.length := by
 have := Nat.two_pow_pos G.length
 exact Nat.lt_of_le_of_lt (diff_le _ _) (by omega)
noncomputable def canD (G : List Nat) (k : Nat) : Nat → Nat → Bool
 | 0, _ => true
 | d + 1, gone => (els (lft G gone) 9).any fun v => decide (dg G gone v ≤ k) && canD G k d (gone ||| 2 ^ v)
noncomputable def canB (G : List Nat) (k gone : Nat) : Bool := canD G k (pc (lft G gone) 9) gone
theorem eq_bits {x y : Nat} (h : ∀ j, bset x j ↔ bset y j) : x = y := Nat.eq_of_testBit_eq fun j => by
 have := h j
 unfold bset at this
 exact Bool.eq_iff_iff.2 this
theorem or_bit (x v j : Nat) : bset (x ||| 2 ^ v) j ↔ bset x j ∨ j = v := by
 unfold bset
 rw [Nat.testBit_or, Bool.or_eq_true]
 have := two_pow_bit v j
 unfold bset at this
 rw [this]
theorem lft_or {G : List Nat} {gone v : Nat} : lft G (gone ||| 2 ^ v) = diff (lft G gone) (2 ^ v) := by
 apply eq_bits
 intro j
 rw [lft_bit, or_bit, diff_bset, lft_bit, two_pow_bit, not_or]
 exact and_assoc.symm
theorem pc_drop {X v : Nat} (hX : X < 512) (hv : bset X v) : pc X 9 = pc (diff X (2 ^ v)) 9 + 1 := by
 have hv9 : v < 9 := bit_lt hX hv
 have h1 : (els X 9).length = pc X 9 := els_length X 9
 have h2 : (els (diff X (2 ^ v)) 9).length = pc (diff X (2 ^ v)) 9 := els_length _ 9
 have hm : v ∈ els X 9 := mem_els.2 ⟨hv9, hv⟩
 have h3 : ∀ x, x ∈ els (diff X (2 ^ v)) 9 ↔ x ∈ (els X 9).erase v := fun x => by
  rw [(els_nodup X 9).mem_erase_iff, mem_els, mem_els]
  have := diff_bset X (2 ^ v) x
  unfold bset at this
  rw [this]
  have h4 := two_pow_bit v x
  unfold bset at h4
  rw [h4]
  exact ⟨fun ⟨a, b, c⟩ => ⟨c, a, b⟩, fun ⟨c, a, b⟩ => ⟨a, b, c⟩⟩
 have h4 : (els (diff X (2 ^ v)) 9).length = ((els X 9).erase v).length := Nat.le_antisymm (nodup_le (els_nodup _ _) fun x hx => (h3 x).1 hx) (nodup_le ((els_nodup X 9).erase v) fun x hx => (h3 x).2 hx)
 rw [List.length_erase_of_mem hm] at h4
 have : 0 < (els X 9).length := List.length_pos_of_mem hm
 omega
section
variable {G : List Nat} (hn : G.length ≤ 9)
include hn
theorem lft_small (gone : Nat) : lft G gone < 512 := Nat.lt_of_lt_of_le (lft_lt G gone) (show 2 ^ G.length ≤ 2 ^ 9 from Nat.pow_le_pow_right (by omega) hn)
theorem pc_lft {gone v : Nat} (hv : bset (lft G gone) v) : pc (lft G gone) 9 = pc (lft G (gone ||| 2 ^ v)) 9 + 1 := by
 rw [lft_or]
 exact pc_drop (lft_small hn gone) hv
omit hn in
theorem lft_all : lft G (2 ^ G.length - 1) = 0 := eq_bits fun j => by
 rw [lft_bit, all_bit]
 simp [bset]
omit hn in
theorem canB_all (k : Nat) : canB G k (2 ^ G.length - 1) = true := by
 unfold canB
 rw [lft_all]
 rfl
omit hn in
theorem pc_pos {X : Nat} (hX : X < 512) (h0 : X ≠ 0) : pc X 9 ≠ 0 := by
 obtain ⟨v, hv⟩ := some_bit h0
 have := pc_drop hX hv
 omega
omit hn in
theorem lft_ne {gone : Nat} (hg : gone < 2 ^ G.length) (hne : gone ≠ 2 ^ G.length - 1) : lft G gone ≠ 0 := fun h => hne (eq_bits fun j => by
 rw [all_bit]
 constructor
 ·exact fun hj => bit_lt hg hj
 ·intro hj
  apply Classical.byContradiction
  intro hb
  have := (lft_bit G gone j).2 ⟨hj, hb⟩
  rw [h] at this
  simp [bset] at this)
theorem canB_step {k gone : Nat} (hg : gone < 2 ^ G.length) (hne : gone ≠ 2 ^ G.length - 1) :
  canB G k gone = (els (lft G gone) 9).any fun v => decide (dg G gone v ≤ k) && canB G k (gone ||| 2 ^ v) := by
 have h1 := pc_pos (lft_small hn gone) (lft_ne hg hne)
 unfold canB
 obtain ⟨d, hd⟩ := Nat.exists_eq_succ_of_ne_zero h1
 rw [hd, canD]
 rw [Bool.eq_iff_iff, List.any_eq_true, List.any_eq_true]
 have key : ∀ v, v ∈ els (lft G gone) 9 → pc (lft G (gone ||| 2 ^ v)) 9 = d := fun v hv => by
  have := pc_lft hn (mem_els.1 hv).2
  omega
 constructor
 ·rintro ⟨v, hv, h⟩
  exact ⟨v, hv, by rw [key v hv]; exact h⟩
 ·rintro ⟨v, hv, h⟩
  refine ⟨v, hv, ?_⟩
  rw [key v hv] at h
  exact h
theorem canB_true {k gone : Nat} (hg : gone < 2 ^ G.length) (hne : gone ≠ 2 ^ G.length - 1) : canB G k gone = true ↔ ∃ v, bset (lft G gone) v ∧ dg G gone v ≤ k ∧ canB G k (gone ||| 2 ^ v) = true := by
 rw [canB_step hn hg hne, List.any_eq_true]
 constructor
 ·rintro ⟨v, hv, h⟩
  rw [Bool.and_eq_true, decide_eq_true_eq] at h
  exact ⟨v, (mem_els.1 hv).2, h.1, h.2⟩
 ·rintro ⟨v, hv, h1, h2⟩
  exact ⟨v, mem_els.2 ⟨bit_lt (lft_small hn gone) hv, hv⟩, by rw [Bool.and_eq_true, decide_eq_true_eq]; exact ⟨h1, h2⟩⟩
omit hn in
theorem or_in {gone v : Nat} (hg : gone < 2 ^ G.length) (hv : bset (lft G gone) v) : gone ||| 2 ^ v < 2 ^ G.length :=
 Nat.or_lt_two_pow hg (Nat.pow_lt_pow_right (by omega) ((lft_bit G gone v).1 hv).1)
theorem canB_from {m : Nat} (hG : Gr m G) {k : Nat} : ∀ S, S < 2 ^ G.length → ElimG G k S → canB G k S = true → canB G k 0 = true := by
 intro S
 induction S using Nat.strongRecOn with
 | _ S ih =>
  intro hS hE hc
  by_cases h0 : S = 0
  ·subst h0; exact hc
  ·obtain ⟨v, hv, h1, h2⟩ := (elimG_step hG hS h0).1 hE
   have hd := diff_lt hv
   refine ih _ hd (by omega) h1 ?_
   have hvn : v < G.length := bit_lt hS hv
   have hvb : bset (lft G (diff S (2 ^ v))) v := (lft_bit _ _ _).2 ⟨hvn, fun h => ((diff_bset _ _ _).1 h).2 ((two_pow_bit v v).2 rfl)⟩
   refine (canB_true hn (by omega) (by omega)).2 ⟨v, hvb, ?_, ?_⟩
   ·unfold dg
    rw [pc_nine (nbset_lt hG _ _) hn]
    exact h2
   ·rw [show diff S (2 ^ v) ||| 2 ^ v = S from eq_bits fun j => by
     rw [or_bit, diff_bset, two_pow_bit]
     constructor
     ·rintro (h | rfl)
      ·exact h.1
      ·exact hv
     ·intro h
      by_cases e : j = v
      ·exact .inr e
      ·exact .inl ⟨h, e⟩]
    exact hc
theorem canB_elim {m : Nat} (hG : Gr m G) {k : Nat} : ∀ d gone, pc (lft G gone) 9 = d → gone < 2 ^ G.length → ElimG G k gone → canB G k gone = true → ElimG G k (2 ^ G.length - 1) := by
 intro d
 induction d with
 | zero =>
  intro gone hd hg hE hc
  by_cases hne : gone = 2 ^ G.length - 1
  ·rw [← hne]; exact hE
  ·exact absurd hd (pc_pos (lft_small hn gone) (lft_ne hg hne))
 | succ d ih =>
  intro gone hd hg hE hc
  by_cases hne : gone = 2 ^ G.length - 1
  ·rw [← hne]; exact hE
  ·obtain ⟨v, hv, h1, h2⟩ := (canB_true hn hg hne).1 hc
   have h3 := pc_lft hn hv
   have hor := or_in hg hv
   have hvb := (lft_bit G gone v).1 hv
   refine ih _ (by omega) hor ?_ h2
   refine (elimG_step hG hor (fun h => ?_)).2 ⟨v, (or_bit _ _ _).2 (.inr rfl), ?_, ?_⟩
   ·have : bset (gone ||| 2 ^ v) v := (or_bit _ _ _).2 (.inr rfl)
    rw [h] at this
    simp [bset] at this
   ·rw [show diff (gone ||| 2 ^ v) (2 ^ v) = gone from eq_bits fun j => by
     rw [diff_bset, or_bit, two_pow_bit]
     constructor
     ·rintro ⟨h | h, h'⟩
      ·exact h
      ·exact absurd h h'
     ·intro h
      exact ⟨.inl h, fun e => hvb.2 (e ▸ h)⟩]
    exact hE
   ·rw [show diff (gone ||| 2 ^ v) (2 ^ v) = gone from eq_bits fun j => by
     rw [diff_bset, or_bit, two_pow_bit]
     constructor
     ·rintro ⟨h | h, h'⟩
      ·exact h
      ·exact absurd h h'
     ·intro h
      exact ⟨.inl h, fun e => hvb.2 (e ▸ h)⟩]
    unfold dg at h1
    rw [← pc_nine (nbset_lt hG _ _) hn]
    exact h1
theorem canB_zero {m : Nat} (hG : Gr m G) {k : Nat} : canB G k 0 = true ↔ ElimG G k (2 ^ G.length - 1) := by
 have h0 := Nat.two_pow_pos G.length
 exact ⟨canB_elim hn hG _ 0 rfl h0 (elimG_zero G k), fun h => canB_from hn hG _ (by omega) h (canB_all k)⟩
end
noncomputable def nextP (G : List Nat) (k gone : Nat) (v : Nat) : Bool := decide (dg G gone v ≤ k) && canB G k (gone ||| 2 ^ v)
noncomputable def ordD (G : List Nat) (k : Nat) : Nat → Nat → List Nat
 | 0, _ => []
 | d + 1, gone => match (els (lft G gone) 9).find? (nextP G k gone) with
  | some v => v :: ordD G k d (gone ||| 2 ^ v)
  | none => []
noncomputable def ordL (G : List Nat) (k : Nat) : List Nat := ordD G k G.length 0
end Go.Proofs.YtoffehihicabcaaDoor.T
end
section
namespace Go.Proofs.YtoffehihicabcaaDoor.X
open Go.RowKit YtoffehihicabcaaDoorW.PrintWords YtoffehihicabcaaDoorW.PrintLast YtoffehihicabcaaDoorW.PrintMore YtoffehihicabcaaDoor.T
attribute [local go_sem] max2_int min2_int max_two min_two max_three min_three max_four min_four run_makeMap
theorem smallO {G : List Nat} (h : G.length ≤ 9) {x : Nat} (hx : x < 2 ^ G.length) : x < 512 := Nat.lt_of_lt_of_le hx (show 2 ^ G.length ≤ 2 ^ 9 from Nat.pow_le_pow_right (by omega) h)
theorem degree_callsO {G : List Nat} (hG : Gr 9 G) {gone v : Nat} (hg : gone < 2 ^ G.length) (hv : v < G.length) (Ag : Option Addr) (cg : Nat) (hcg : G.length ≤ cg) (w : World) (hGL : GL w) (h1 : Kd.C (Kd.int .i64) w Ag (gi G).length (gi G)) :
  Calls Tryd.prog 75 #[.slice Ag G.length cg, .int .i64 (v : Int), .int .i64 (gone : Int)] w fun e w' => e = .returned (.int .i64 ((dg G gone v : Nat) : Int)) ∧ Below w.heap.size w w' := by
 obtain ⟨K, hK⟩ := degree_ev G hG gone v hg hv
 have := width_town_degree.calls K Ag cg (gi G) (v : Int) (gone : Int) _ w hGL h1 (by rw [gi_length]; exact hcg) (hK K (Nat.le_refl _))
 rw [gi_length] at this
 exact this
theorem all_callsO {G : List Nat} (hG : Gr 9 G) (Ag : Option Addr) (cg : Nat) (hcg : G.length ≤ cg) (w : World) (h1 : Kd.C (Kd.int .i64) w Ag (gi G).length (gi G)) :
  Calls Tryd.prog 67 #[.slice Ag G.length cg] w fun e w' => e = .returned (.int .i64 ((2 ^ G.length - 1 : Nat) : Int)) ∧ Below w.heap.size w w' := by
 have := width_town_all.calls Ag cg (gi G) _ w h1 (by rw [gi_length]; exact hcg) (all_eq G hG.most)
 rw [gi_length] at this
 exact this.mono fun e w' h => ⟨h.1, h.2.below⟩
theorem nodes_callsO {x : Nat} (hx : x < 512) (mB : Nat) (w : World) (hmB : mB < w.heap.size) (hGL : GL w) :
  Calls Tryd.prog 98 #[.int .i64 (x : Int)] w fun e w' => ∃ A c, e = .returned (.slice A (els x 9).length c) ∧ (els x 9).length ≤ c ∧ (∀ V, w'.grownBy V (some mB) → Kd.C (Kd.int .i64) V A (els x 9).length (gi (els x 9))) ∧ Below w.heap.size w w' := by
 obtain ⟨K, hK⟩ := nodes_ev x hx
 refine (width_nodes.calls K (x : Int) _ w hGL (hK K (Nat.le_refl _))).mono ?_
 rintro e w' ⟨u, rfl, hu, hb⟩
 obtain ⟨A, c, eu, hc, hC⟩ := Kd.R_reads hu
 subst eu
 rw [gi_length] at hu
 refine ⟨A, c, by rw [gi_length], by rw [gi_length] at hc; exact hc, fun V hV => ?_, hb⟩
 have hs2 := hb.size
 have h3 := Kd.R_step (w1 := V) (Kd.R_bound hu) (fun k hk hk2 => hV.block k hk2 (fun e => by have := hk.2.1; have e2 := Option.some.inj e; omega))
 obtain ⟨A2, c2, e2, _, hC2⟩ := Kd.R_reads h3
 injection e2 with e3 e4 e5
 rw [gi_length] at hC2
 rw [e3]; exact hC2
section
variable (tB kB bB cB mB : Nat)
def canV : Value := .func (.func 97) #[] #[.pointer (some ⟨tB, 0, none⟩), .pointer (some ⟨kB, 0, none⟩), .pointer (some ⟨bB, 0, none⟩), .pointer (some ⟨cB, 0, none⟩)]
end
set_option maxHeartbeats 4000000 in
theorem index_can (tB gB bB cB mB N : Nat) (f : Nat → Bool) (W0 : World) (A : Option Addr) (c : Nat) (l : List Int) (p : Int → Bool) (w : World) (hk : KM W0 w mB N f) (hx : ∀ V, w.grownBy V (some mB) → Kd.C (Kd.int .i64) V A l.length l) (hl : l.length ≤ 1000)
  (hp : ∀ W, KM W0 W mB N f → w.grownBy W (some mB) → ∀ x ∈ l, Calls Tryd.prog 99 #[.int .i64 x, .pointer (some ⟨tB, 0, none⟩), .pointer (some ⟨gB, 0, none⟩), .pointer (some ⟨bB, 0, none⟩), .pointer (some ⟨cB, 0, none⟩)] W fun e w' => e = .returned (.bool (p x)) ∧ KM W0 w' mB N f ∧ W.grownBy w' (some mB)) :
  Calls Tryd.prog 84 #[.slice A l.length c, .func (.func 99) #[] #[.pointer (some ⟨tB, 0, none⟩), .pointer (some ⟨gB, 0, none⟩), .pointer (some ⟨bB, 0, none⟩), .pointer (some ⟨cB, 0, none⟩)]] w fun e w' => ∃ z, e = .returned (.int .i64 z) ∧ decide (z ≥ 0) = l.any p ∧ KM W0 w' mB N f ∧ w.grownBy w' (some mB) := by
 have HX := Aside0.mk hx
 have HP := Aside0.mk hp
 have HK := Aside0.mk hk
 clear hx hp hk
 go_enter Tryd.func84, Tryd.ntmps84
 go_wp2
 go_loopg [8] l.length (fun kq v8 w' => ∃ i : Nat, v8 = .int .i64 (i : Int) ∧ i + kq = l.length ∧ Aside0 ((l.drop i).any p = l.any p) ∧ Aside0 (KM W0 w' mB N f ∧ w.grownBy w' (some mB)))
 case atStart => exact ⟨0, rfl, by omega, ⟨rfl⟩, ⟨HK.out, World.grownBy.refl _ _⟩⟩
 case round =>
  obtain ⟨i, rfl, hi, HA, HB⟩ := hrel
  by_cases hil : i < l.length
  ·have hi1 : ((i : Int) < (l.length : Int)) = True := eq_true (by omega)
   have hi2 : decide ((i : Int) < (l.length : Int)) = true := decide_eq_true (by omega)
   cases gk with
   | zero => omega
   | succ gi' =>
   obtain ⟨ad, e1, hgx⟩ := Kd.at_int (HX.out _ HB.out.2) (i : Int) (by omega) (by omega)
   subst e1
   have hra : rd l (i : Int) = l[i] := by unfold rd; rw [Int.toNat_natCast, List.getD_eq_getElem?_getD, List.getElem?_eq_getElem hil]; rfl
   rw [hra, Int.toNat_natCast] at hgx
   have hm : l[i] ∈ l := List.getElem_mem hil
   have ha := HA.out
   rw [List.drop_eq_getElem_cons hil, List.any_cons] at ha
   have HC := Aside0.mk (HP.out wr HB.out.1 HB.out.2 _ hm)
   generalize l[i] = x at *
   clear hra HA
   cases hpx : p x
   ·rw [hpx] at HC ha
    have HA2 : Aside0 ((l.drop (i + 1)).any p = l.any p) := ⟨by simpa using ha⟩
    clear ha hpx hm
    go_wp2_with (go_at_call 99; refine HC.out.mono ?_; rintro e w3 ⟨rfl, hk3, hb3⟩; have HK3 := Aside0.mk hk3; have HB3 := Aside0.mk hb3; clear hk3 hb3)
    go_roundg gi'
    case measure => omega
    case rel => exact ⟨i + 1, by go_num, by omega, HA2, ⟨HK3.out, grown_then HB.out.2 HB3.out⟩⟩
   ·rw [hpx] at HC ha
    have HA2 : Aside0 (true = l.any p) := ⟨by simpa using ha⟩
    clear ha hpx hm
    go_wp2_with (go_at_call 99; refine HC.out.mono ?_; rintro e w3 ⟨rfl, hk3, hb3⟩; have HK3 := Aside0.mk hk3; have HB3 := Aside0.mk hb3; clear hk3 hb3)
    go_ret
    exact ⟨_, rfl, by rw [← HA2.out]; exact decide_eq_true (by omega), HK3.out, grown_then HB.out.2 HB3.out⟩
  ·have hi1 : ((i : Int) < (l.length : Int)) = False := eq_false (by omega)
   have hi2 : decide ((i : Int) < (l.length : Int)) = false := decide_eq_false (by omega)
   have ha := HA.out
   rw [List.drop_eq_nil_of_le (by omega)] at ha
   have HA2 : Aside0 (false = l.any p) := ⟨ha⟩
   clear ha HA
   go_wp2
   go_ret
   exact ⟨_, rfl, by rw [← HA2.out]; rfl, HB.out.1, HB.out.2⟩
theorem contains_can (tB gB bB cB mB N : Nat) (f : Nat → Bool) (W0 : World) (A : Option Addr) (c : Nat) (l : List Int) (p : Int → Bool) (w : World) (hk : KM W0 w mB N f) (hx : ∀ V, w.grownBy V (some mB) → Kd.C (Kd.int .i64) V A l.length l) (hl : l.length ≤ 1000)
  (hp : ∀ W, KM W0 W mB N f → w.grownBy W (some mB) → ∀ x ∈ l, Calls Tryd.prog 99 #[.int .i64 x, .pointer (some ⟨tB, 0, none⟩), .pointer (some ⟨gB, 0, none⟩), .pointer (some ⟨bB, 0, none⟩), .pointer (some ⟨cB, 0, none⟩)] W fun e w' => e = .returned (.bool (p x)) ∧ KM W0 w' mB N f ∧ W.grownBy w' (some mB)) :
  Calls Tryd.prog 54 #[.slice A l.length c, .func (.func 99) #[] #[.pointer (some ⟨tB, 0, none⟩), .pointer (some ⟨gB, 0, none⟩), .pointer (some ⟨bB, 0, none⟩), .pointer (some ⟨cB, 0, none⟩)]] w fun e w' => e = .returned (.bool (l.any p)) ∧ KM W0 w' mB N f ∧ w.grownBy w' (some mB) := by
 have HI := Aside0.mk (index_can tB gB bB cB mB N f W0 A c l p w hk hx hl hp)
 clear hx hl hp hk
 go_enter Tryd.func54, Tryd.ntmps54
 go_wp2_with (go_at_call 84; refine HI.out.mono ?_; rintro e w3 ⟨z, rfl, hz, hb⟩)
 go_ret
 exact ⟨by rw [← hz]; rfl, hb⟩
set_option maxHeartbeats 4000000 in
set_option maxRecDepth 100000 in
theorem can_inner (tB kB gB bB cB mB : Nat) (W0 : World) (Ag : Option Addr) (cg : Nat) (G : List Nat) (hG : Gr 9 G) (hcg : G.length ≤ cg) (bs : Nat)
  (hlow : ∀ W, W0.grownBy W (some mB) → GL W ∧ Kd.C (Kd.int .i64) W Ag (gi G).length (gi G) ∧ W.cell? ⟨tB, 0, none⟩ = some (.slice Ag G.length cg) ∧ W.cell? ⟨kB, 0, none⟩ = some (.map (some mB)) ∧ W.cell? ⟨bB, 0, none⟩ = some (.int .i64 (bs : Int)) ∧ W.cell? ⟨cB, 0, none⟩ = some (canV tB kB bB cB))
  (gone v : Nat) (hg : gone < 2 ^ G.length) (hv : v < G.length) (w : World) (hk : KM W0 w mB 512 (canB G bs)) (hc : w.cell? ⟨gB, 0, none⟩ = some (.int .i64 (gone : Int)))
  (rec : ∀ V, KM W0 V mB 512 (canB G bs) → Calls Tryd.prog 97 #[.int .i64 ((gone ||| 2 ^ v : Nat) : Int), .pointer (some ⟨tB, 0, none⟩), .pointer (some ⟨kB, 0, none⟩), .pointer (some ⟨bB, 0, none⟩), .pointer (some ⟨cB, 0, none⟩)] V fun e w' => e = .returned (.bool (canB G bs (gone ||| 2 ^ v))) ∧ KM W0 w' mB 512 (canB G bs) ∧ V.grownBy w' (some mB)) :
  Calls Tryd.prog 99 #[.int .i64 (v : Int), .pointer (some ⟨tB, 0, none⟩), .pointer (some ⟨gB, 0, none⟩), .pointer (some ⟨bB, 0, none⟩), .pointer (some ⟨cB, 0, none⟩)] w fun e w' => e = .returned (.bool (decide (dg G gone v ≤ bs) && canB G bs (gone ||| 2 ^ v))) ∧ KM W0 w' mB 512 (canB G bs) ∧ w.grownBy w' (some mB) := by
 have hn := hG.most
 obtain ⟨q1, q2, q3, q4, q5, q6⟩ := hlow w hk.grown
 have c0d : w.drew.cell? ⟨tB, 0, none⟩ = some (.slice Ag G.length cg) := q3
 have c1d : w.drew.cell? ⟨gB, 0, none⟩ = some (.int .i64 (gone : Int)) := hc
 have c2d : w.drew.cell? ⟨bB, 0, none⟩ = some (.int .i64 (bs : Int)) := q5
 have c3d : w.drew.cell? ⟨cB, 0, none⟩ = some (.func (.func 97) #[] #[.pointer (some ⟨tB, 0, none⟩), .pointer (some ⟨kB, 0, none⟩), .pointer (some ⟨bB, 0, none⟩), .pointer (some ⟨cB, 0, none⟩)]) := q6
 have c4d : Below w.heap.size w w.drew := below_drew (Below.refl _ _)
 have HK := Aside0.mk hk
 have hg512 : gone < 512 := smallO hn hg
 obtain ⟨N, ⟨hS1, hS2, hS3⟩, hNv⟩ := shK v (by omega)
 have h2v : 2 ^ v < 2 ^ G.length := Nat.pow_lt_pow_right (by omega) hv
 have hor : Go.bits .or .i64 (gone : Int) N = ((gone ||| 2 ^ v : Nat) : Int) := by
  rw [hNv, b_or _ _ (by omega) (by have := smallO hn h2v; omega)]
 have HDG : Aside0 (∀ W, (W.cell? ⟨tB, 0, none⟩ = some (.slice Ag G.length cg) ∧ W.cell? ⟨gB, 0, none⟩ = some (.int .i64 (gone : Int)) ∧ W.cell? ⟨bB, 0, none⟩ = some (.int .i64 (bs : Int)) ∧ W.cell? ⟨cB, 0, none⟩ = some (.func (.func 97) #[] #[.pointer (some ⟨tB, 0, none⟩), .pointer (some ⟨kB, 0, none⟩), .pointer (some ⟨bB, 0, none⟩), .pointer (some ⟨cB, 0, none⟩)]) ∧ Below w.heap.size w W) → Calls Tryd.prog 75 #[.slice Ag G.length cg, .int .i64 (v : Int), .int .i64 (gone : Int)] W fun e w' => e = .returned (.int .i64 ((dg G gone v : Nat) : Int)) ∧ w'.cell? ⟨tB, 0, none⟩ = some (.slice Ag G.length cg) ∧ w'.cell? ⟨gB, 0, none⟩ = some (.int .i64 (gone : Int)) ∧ w'.cell? ⟨bB, 0, none⟩ = some (.int .i64 (bs : Int)) ∧ w'.cell? ⟨cB, 0, none⟩ = some (.func (.func 97) #[] #[.pointer (some ⟨tB, 0, none⟩), .pointer (some ⟨kB, 0, none⟩), .pointer (some ⟨bB, 0, none⟩), .pointer (some ⟨cB, 0, none⟩)]) ∧ Below w.heap.size w w') := ⟨by
  rintro W ⟨s0, s1, s2, s3, s4⟩
  obtain ⟨p1, p2, _⟩ := hlow W ((hk.low (grown_of_below s4 none)).grown)
  refine (degree_callsO hG hg hv Ag cg hcg W p1 p2).mono ?_
  rintro e w' ⟨rfl, hb⟩
  exact ⟨rfl, (hb.cell (World.block_lt_of_cell? W _ s0)).trans s0, (hb.cell (World.block_lt_of_cell? W _ s1)).trans s1, (hb.cell (World.block_lt_of_cell? W _ s2)).trans s2, (hb.cell (World.block_lt_of_cell? W _ s3)).trans s3, below_step s4 hb⟩⟩
 have HREC := Aside0.mk rec
 generalize gone ||| 2 ^ v = gone' at *
 generalize canB G bs gone' = R at *
 generalize dg G gone v = dv at *
 clear hk q1 q2 q3 q4 q5 q6 rec hNv h2v hlow hg hc hG hn hv hg512
 by_cases hle : dv ≤ bs
 ·have hdec1 : ((dv : Int) ≤ (bs : Int)) = True := eq_true (by omega)
  have hdec2 : decide ((dv : Int) ≤ (bs : Int)) = true := decide_eq_true (by omega)
  rw [decide_eq_true hle, Bool.true_and]
  go_enter Tryd.func99, Tryd.ntmps99
  go_wp2
  refine start_ (n := 15) (S := fun w' => w'.cell? ⟨tB, 0, none⟩ = some (.slice Ag G.length cg) ∧ w'.cell? ⟨gB, 0, none⟩ = some (.int .i64 (gone : Int)) ∧ w'.cell? ⟨bB, 0, none⟩ = some (.int .i64 (bs : Int)) ∧ w'.cell? ⟨cB, 0, none⟩ = some (.func (.func 97) #[] #[.pointer (some ⟨tB, 0, none⟩), .pointer (some ⟨kB, 0, none⟩), .pointer (some ⟨bB, 0, none⟩), .pointer (some ⟨cB, 0, none⟩)]) ∧ Below w.heap.size w w') (ds := [12]) (Qbz 15 0) (by kernel_rfl) rfl rfl ⟨c0d, c1d, c2d, c3d, c4d⟩ (fun hHeld => ?_)
  refine Qpu 1 8 ?_ ?_ (Qbz 15 2) (by kernel_rfl) ?_
  refine take_ (i := 0) (N := some 7) (v := ?_) (a' := ?_) (Qbz 15 3) rfl rfl (by kernel_rfl) (fun _ _ _ h => h) (Or.inl ⟨by rfl, ?_⟩) hHeld ?_ ?_;rotate_left;(·rintro w' ⟨s0, s1, s2, s3, s4⟩;go_simp;with_reducible rfl);rotate_left;(·simp only [Act.put, Qp1, Qp2, Qp3, i64_w, i32_w];rfl)
  refine take_ (i := 2) (N := some 9) (v := ?_) (a' := ?_) (Qbz 15 7) rfl rfl (by kernel_rfl) (fun _ _ _ h => h) (Or.inl ⟨by rfl, ?_⟩) hHeld ?_ ?_;rotate_left;(·rintro w' ⟨s0, s1, s2, s3, s4⟩;go_simp;with_reducible rfl);rotate_left;(·simp only [Act.put, Qp1, Qp2, Qp3, i64_w, i32_w];rfl)
  refine take_ (i := 4) (N := some 11) (v := ?_) (a' := ?_) (Qbz 15 23) rfl rfl (by kernel_rfl) (fun _ _ _ h => h) (Or.inl ⟨by rfl, ?_⟩) hHeld ?_ ?_;rotate_left;(·rintro w' ⟨s0, s1, s2, s3, s4⟩;go_simp;with_reducible rfl);rotate_left;(·simp only [Act.put, Qp1, Qp2, Qp3, i64_w, i32_w];rfl)
  refine one_ (i := 3) (N := some 10) (Qbz 15 31) rfl rfl (by kernel_rfl) (by decide) (fun K hK => ?_)
  refine goes_ Tryd.func75 (by kernel_rfl) rfl #[.slice Ag G.length cg, .int .i64 (v : Int), .int .i64 (gone : Int)] (by rfl) rfl rfl (by simp only [List.map_toArray, List.map_cons, List.map_nil]; rfl) ?_
  with_reducible refine (HDG.out _ hHeld).mono ?_
  rintro e w9 ⟨rfl, k0, k1, k2, k3, kB9⟩
  refine ⟨_, rfl, ?_⟩
  refine hK.out _ _ ⟨k0, k1, k2, k3, kB9⟩ (fun hHeld => ?_)
  clear hK K
  refine norm_ (a' := ?_) ?_ ?_
  rotate_left
  ·show Act.put _ (some 10) _ = _
   simp only [Act.put, Qp1, Qp2, Qp3, i64_w, i32_w]
   rfl
  refine Qpu 5 12 ?_ ?_ (Qbz 15 63) (by kernel_rfl) ?_
  refine Qpu 6 13 ?_ ?_ (Qbz 15 127) (by kernel_rfl) ?_
  refine Qpu 9 16 ?_ ?_ (Qbz 15 639) (by kernel_rfl) ?_
  refine Qpu 10 17 ?_ ?_ (Qbz 15 1663) (by kernel_rfl) ?_
  refine take_ (i := 7) (N := some 14) (v := ?_) (a' := ?_) (Qbz 15 1791) rfl rfl (by kernel_rfl) (fun _ _ _ h => h) (Or.inl ⟨by rfl, ?_⟩) hHeld ?_ ?_;rotate_left;(·rintro w' ⟨s0, s1, s2, s3, s4⟩;go_simp;with_reducible rfl);rotate_left;(·simp only [Act.put, Qp1, Qp2, Qp3, i64_w, i32_w];rfl)
  refine take_ (i := 8) (N := some 15) (v := ?_) (a' := ?_) (Qbz 15 2047) rfl rfl (by kernel_rfl) (fun _ _ _ h => h) (Or.inl ⟨by rfl, ?_⟩) hHeld ?_ ?_;rotate_left;(·rintro w' ⟨s0, s1, s2, s3, s4⟩;go_simp;with_reducible rfl);rotate_left;(·simp only [Act.put, Qp1, Qp2, Qp3, i64_w, i32_w];rfl)
  refine Qpu 11 18 ?_ ?_ (Qbz 15 4095) (by kernel_rfl) ?_
  refine last_ (i := 12) (N := some 19) (Qbz 15 8191) rfl rfl (by kernel_rfl) (by decide) (fun K hK => ?_)
  refine goesK_ Tryd.func97 (by kernel_rfl) rfl #[.int .i64 (gone' : Int)] #[.pointer (some ⟨tB, 0, none⟩), .pointer (some ⟨kB, 0, none⟩), .pointer (some ⟨bB, 0, none⟩), .pointer (some ⟨cB, 0, none⟩)] #[.int .i64 (gone' : Int), .pointer (some ⟨tB, 0, none⟩), .pointer (some ⟨kB, 0, none⟩), .pointer (some ⟨bB, 0, none⟩), .pointer (some ⟨cB, 0, none⟩)] (.tmp 14) (by rfl) rfl rfl (by rfl) (by simp only [List.map_toArray, List.map_cons, List.map_nil]; rfl) rfl ?_
  with_reducible refine (HREC.out _ (HK.out.low (grown_of_below hHeld.2.2.2.2 none))).mono ?_
  rintro e w10 ⟨rfl, hK10, hG10⟩
  have HK10 := Aside0.mk hK10
  have HG10 := Aside0.mk hG10
  have HB9 := Aside0.mk kB9
  clear hK10 hG10 kB9
  refine ⟨_, rfl, ?_⟩
  refine hK.out _ _ ?_
  clear hK K
  refine norm_ (a' := ?_) ?_ ?_
  rotate_left
  ·show Act.put _ (some 19) _ = _
   simp only [Act.put, Qp1, Qp2, Qp3, i64_w, i32_w]
   rfl
  refine Qpu 13 20 ?_ ?_ (Qbz 15 16383) (by kernel_rfl) ?_
  refine Qpu 14 6 ?_ ?_ (Qbz 15 32767) (by kernel_rfl) ?_
  refine done_ (by kernel_rfl) ?_
  go_wp2
  go_ret
  exact ⟨rfl, HK10.out, grown_then (grown_of_below HB9.out (some mB)) HG10.out⟩
 ·have hdec1 : ((dv : Int) ≤ (bs : Int)) = False := eq_false (by omega)
  have hdec2 : decide ((dv : Int) ≤ (bs : Int)) = false := decide_eq_false (by omega)
  rw [decide_eq_false hle, Bool.false_and]
  go_enter Tryd.func99, Tryd.ntmps99
  go_wp2
  refine start_ (n := 15) (S := fun w' => w'.cell? ⟨tB, 0, none⟩ = some (.slice Ag G.length cg) ∧ w'.cell? ⟨gB, 0, none⟩ = some (.int .i64 (gone : Int)) ∧ w'.cell? ⟨bB, 0, none⟩ = some (.int .i64 (bs : Int)) ∧ w'.cell? ⟨cB, 0, none⟩ = some (.func (.func 97) #[] #[.pointer (some ⟨tB, 0, none⟩), .pointer (some ⟨kB, 0, none⟩), .pointer (some ⟨bB, 0, none⟩), .pointer (some ⟨cB, 0, none⟩)]) ∧ Below w.heap.size w w') (ds := []) (Qbz 15 0) (by kernel_rfl) rfl rfl ⟨c0d, c1d, c2d, c3d, c4d⟩ (fun hHeld => ?_)
  refine Qpu 1 8 ?_ ?_ (Qbz 15 2) (by kernel_rfl) ?_
  refine take_ (i := 0) (N := some 7) (v := ?_) (a' := ?_) (Qbz 15 3) rfl rfl (by kernel_rfl) (fun _ _ _ h => h) (Or.inl ⟨by rfl, ?_⟩) hHeld ?_ ?_;rotate_left;(·rintro w' ⟨s0, s1, s2, s3, s4⟩;go_simp;with_reducible rfl);rotate_left;(·simp only [Act.put, Qp1, Qp2, Qp3, i64_w, i32_w];rfl)
  refine take_ (i := 2) (N := some 9) (v := ?_) (a' := ?_) (Qbz 15 7) rfl rfl (by kernel_rfl) (fun _ _ _ h => h) (Or.inl ⟨by rfl, ?_⟩) hHeld ?_ ?_;rotate_left;(·rintro w' ⟨s0, s1, s2, s3, s4⟩;go_simp;with_reducible rfl);rotate_left;(·simp only [Act.put, Qp1, Qp2, Qp3, i64_w, i32_w];rfl)
  refine take_ (i := 4) (N := some 11) (v := ?_) (a' := ?_) (Qbz 15 23) rfl rfl (by kernel_rfl) (fun _ _ _ h => h) (Or.inl ⟨by rfl, ?_⟩) hHeld ?_ ?_;rotate_left;(·rintro w' ⟨s0, s1, s2, s3, s4⟩;go_simp;with_reducible rfl);rotate_left;(·simp only [Act.put, Qp1, Qp2, Qp3, i64_w, i32_w];rfl)
  refine one_ (i := 3) (N := some 10) (Qbz 15 31) rfl rfl (by kernel_rfl) (by decide) (fun K hK => ?_)
  refine goes_ Tryd.func75 (by kernel_rfl) rfl #[.slice Ag G.length cg, .int .i64 (v : Int), .int .i64 (gone : Int)] (by rfl) rfl rfl (by simp only [List.map_toArray, List.map_cons, List.map_nil]; rfl) ?_
  with_reducible refine (HDG.out _ hHeld).mono ?_
  rintro e w9 ⟨rfl, k0, k1, k2, k3, kB9⟩
  refine ⟨_, rfl, ?_⟩
  refine hK.out _ _ ⟨k0, k1, k2, k3, kB9⟩ (fun hHeld => ?_)
  clear hK K
  refine norm_ (a' := ?_) ?_ ?_
  rotate_left
  ·show Act.put _ (some 10) _ = _
   simp only [Act.put, Qp1, Qp2, Qp3, i64_w, i32_w]
   rfl
  refine Qpu 5 12 ?_ ?_ (Qbz 15 63) (by kernel_rfl) ?_
  refine Qpu 6 13 ?_ ?_ (Qbz 15 127) (by kernel_rfl) ?_
  refine Qpn 7 14 ?_ (Qbz 15 255) (by kernel_rfl) ?_
  refine Qpn 8 15 ?_ (Qbz 15 511) (by kernel_rfl) ?_
  refine Qpn 9 16 ?_ (Qbz 15 1023) (by kernel_rfl) ?_
  refine Qpn 10 17 ?_ (Qbz 15 2047) (by kernel_rfl) ?_
  refine Qpn 11 18 ?_ (Qbz 15 4095) (by kernel_rfl) ?_
  refine Qpn 12 19 ?_ (Qbz 15 8191) (by kernel_rfl) ?_
  refine Qpu 13 20 ?_ ?_ (Qbz 15 16383) (by kernel_rfl) ?_
  refine Qpu 14 6 ?_ ?_ (Qbz 15 32767) (by kernel_rfl) ?_
  refine done_ (by kernel_rfl) ?_
  go_wp2
  go_ret
  exact ⟨rfl, HK.out.low (grown_of_below hHeld.2.2.2.2 none), grown_of_below hHeld.2.2.2.2 (some mB)⟩
set_option maxHeartbeats 8000000 in
set_option maxRecDepth 100000 in
theorem can_grow (tB kB bB cB mB : Nat) (W0 : World) (hmB : mB < W0.heap.size) (Ag : Option Addr) (cg : Nat) (G : List Nat) (hG : Gr 9 G) (hcg : G.length ≤ cg) (bs : Nat)
  (hlow : ∀ W, W0.grownBy W (some mB) → GL W ∧ Kd.C (Kd.int .i64) W Ag (gi G).length (gi G) ∧ W.cell? ⟨tB, 0, none⟩ = some (.slice Ag G.length cg) ∧ W.cell? ⟨kB, 0, none⟩ = some (.map (some mB)) ∧ W.cell? ⟨bB, 0, none⟩ = some (.int .i64 (bs : Int)) ∧ W.cell? ⟨cB, 0, none⟩ = some (canV tB kB bB cB)) :
  ∀ (d gone : Nat) (w : World), pc (lft G gone) 9 = d → gone < 2 ^ G.length → KM W0 w mB 512 (canB G bs) →
  Calls Tryd.prog 97 #[.int .i64 (gone : Int), .pointer (some ⟨tB, 0, none⟩), .pointer (some ⟨kB, 0, none⟩), .pointer (some ⟨bB, 0, none⟩), .pointer (some ⟨cB, 0, none⟩)] w fun e w' => e = .returned (.bool (canB G bs gone)) ∧ KM W0 w' mB 512 (canB G bs) ∧ w.grownBy w' (some mB) := by
 have hn := hG.most
 intro d
 induction d with
 | zero =>
  intro gone w hd hg hk
  have hall : gone = 2 ^ G.length - 1 := Classical.byContradiction fun h => pc_pos (smallO hn (lft_lt G gone)) (lft_ne hg h) hd
  have hcb : canB G bs gone = true := by rw [hall]; exact canB_all bs
  rw [hcb]
  obtain ⟨w1, hw1⟩ : ∃ W : World, W = w.alloc (.cells #[.int .i64 (gone : Int)] 3) := ⟨_, rfl⟩
  have hB1 : Below w.heap.size w w1 := by rw [hw1]; exact below_alloc (Below.refl _ _) _
  have hk1 := hk.low (grown_of_below hB1 none)
  obtain ⟨q1, q2, q3, q4, q5, q6⟩ := hlow w1 hk1.grown
  have hgc : w1.cell? ⟨w.heap.size, 0, none⟩ = some (.int .i64 (gone : Int)) := by rw [hw1]; exact (blk_cell (show (w.heap.push _)[w.heap.size]? = _ from Array.getElem?_push_size) 0).trans rfl
  have hsz1 : w1.heap.size = w.heap.size + 1 := by rw [hw1]; simp
  have c0d : w1.drew.cell? ⟨tB, 0, none⟩ = some (.slice Ag G.length cg) := q3
  have c1d : w1.drew.cell? ⟨w.heap.size, 0, none⟩ = some (.int .i64 (gone : Int)) := hgc
  have c2d : Below w1.heap.size w1 w1.drew := below_drew (Below.refl _ _)
  have HAL : Aside0 (∀ W, (W.cell? ⟨tB, 0, none⟩ = some (.slice Ag G.length cg) ∧ W.cell? ⟨w.heap.size, 0, none⟩ = some (.int .i64 (gone : Int)) ∧ Below w1.heap.size w1 W) → Calls Tryd.prog 67 #[.slice Ag G.length cg] W fun e w' => e = .returned (.int .i64 ((2 ^ G.length - 1 : Nat) : Int)) ∧ w'.cell? ⟨tB, 0, none⟩ = some (.slice Ag G.length cg) ∧ w'.cell? ⟨w.heap.size, 0, none⟩ = some (.int .i64 (gone : Int)) ∧ Below w1.heap.size w1 w') := ⟨by
   rintro W ⟨s0, s1, s2⟩
   obtain ⟨p1, p2, _⟩ := hlow W ((hk1.low (grown_of_below s2 none)).grown)
   refine (all_callsO hG Ag cg hcg W p2).mono ?_
   rintro e w' ⟨rfl, hb⟩
   exact ⟨rfl, (hb.cell (World.block_lt_of_cell? W _ s0)).trans s0, (hb.cell (World.block_lt_of_cell? W _ s1)).trans s1, below_step s2 hb⟩⟩
  have HK := Aside0.mk hk
  have HB1 := Aside0.mk hB1
  rw [← hall] at HAL
  clear hk hk1 q1 q2 q3 q4 q5 q6 hlow hg hG hn hall hd hcb hB1 hgc
  go_enter Tryd.func97, Tryd.ntmps97
  go_wp2
  rw [← hw1]
  clear hw1
  refine start_ (n := 4) (S := fun w' => w'.cell? ⟨tB, 0, none⟩ = some (.slice Ag G.length cg) ∧ w'.cell? ⟨w.heap.size, 0, none⟩ = some (.int .i64 (gone : Int)) ∧ Below w1.heap.size w1 w') (ds := []) #[false, false, false, false] (by kernel_rfl) rfl rfl ⟨c0d, c1d, c2d⟩ (fun hHeld => ?_)
  refine take_ (i := 0) (N := some 9) (v := ?_) (a' := ?_) #[true, false, false, false] rfl rfl (by kernel_rfl) (fun _ _ _ h => h) (Or.inl ⟨by rfl, ?_⟩) hHeld ?_ ?_;rotate_left;(·rintro w' ⟨s0, s1, s2⟩;go_simp;with_reducible rfl);rotate_left;(·simp only [Act.put, Qp1, Qp2, Qp3, i64_w, i32_w];rfl)
  refine take_ (i := 1) (N := some 10) (v := ?_) (a' := ?_) #[true, true, false, false] rfl rfl (by kernel_rfl) (fun _ _ _ h => h) (Or.inl ⟨by rfl, ?_⟩) hHeld ?_ ?_;rotate_left;(·rintro w' ⟨s0, s1, s2⟩;go_simp;with_reducible rfl);rotate_left;(·simp only [Act.put, Qp1, Qp2, Qp3, i64_w, i32_w];rfl)
  refine one_ (i := 2) (N := some 11) #[true, true, true, false] rfl rfl (by kernel_rfl) (by decide) (fun K hK => ?_)
  refine goes_ Tryd.func67 (by kernel_rfl) rfl #[.slice Ag G.length cg] (by rfl) rfl rfl (by simp only [List.map_toArray, List.map_cons, List.map_nil]; rfl) ?_
  with_reducible refine (HAL.out _ hHeld).mono ?_
  rintro e w2 ⟨rfl, k0, k1, kB2⟩
  refine ⟨_, rfl, ?_⟩
  refine hK.out _ _ ⟨k0, k1, kB2⟩ (fun hHeld => ?_)
  clear hK K
  refine norm_ (a' := ?_) ?_ ?_
  rotate_left
  ·show Act.put _ (some 11) _ = _
   simp only [Act.put, Qp1, Qp2, Qp3, i64_w, i32_w]
   rfl
  refine Qpu 3 12 ?_ ?_ #[true, true, true, true] (by kernel_rfl) ?_
  refine done_ (by kernel_rfl) ?_
  go_wp2
  go_ret
  exact ⟨rfl, (HK.out.low (grown_of_below HB1.out none)).low (grown_of_below hHeld.2.2 none), grown_then (grown_of_below HB1.out (some mB)) (grown_of_below hHeld.2.2 (some mB))⟩
 | succ d ih =>
  intro gone w hd hg hk
  have hnall : gone ≠ 2 ^ G.length - 1 := fun h => by rw [h, lft_all] at hd; simp [pc] at hd
  have hg512 := smallO hn hg
  have hall512 : 2 ^ G.length - 1 < 512 := by
   have := smallO hn (lft_lt G 0)
   have h2 : 2 ^ G.length ≤ 2 ^ 9 := Nat.pow_le_pow_right (by omega) hn
   have h3 := Nat.two_pow_pos G.length
   omega
  have hand : Go.bits .andNot .i64 ((2 ^ G.length - 1 : Nat) : Int) (gone : Int) = ((lft G gone : Nat) : Int) := b_andNot _ _ (by omega) (by omega)
  have hcb := canB_step (k := bs) hn hg hnall
  obtain ⟨w1, hw1⟩ : ∃ W : World, W = w.alloc (.cells #[.int .i64 (gone : Int)] 3) := ⟨_, rfl⟩
  have hB1 : Below w.heap.size w w1 := by rw [hw1]; exact below_alloc (Below.refl _ _) _
  have hk1 := hk.low (grown_of_below hB1 none)
  obtain ⟨q1, q2, q3, q4, q5, q6⟩ := hlow w1 hk1.grown
  have hgc : w1.cell? ⟨w.heap.size, 0, none⟩ = some (.int .i64 (gone : Int)) := by rw [hw1]; exact (blk_cell (show (w.heap.push _)[w.heap.size]? = _ from Array.getElem?_push_size) 0).trans rfl
  have hsz1 : w1.heap.size = w.heap.size + 1 := by rw [hw1]; simp
  have c0d : w1.drew.cell? ⟨tB, 0, none⟩ = some (.slice Ag G.length cg) := q3
  have c1d : w1.drew.cell? ⟨w.heap.size, 0, none⟩ = some (.int .i64 (gone : Int)) := hgc
  have c2d : Below w1.heap.size w1 w1.drew := below_drew (Below.refl _ _)
  have HAL : Aside0 (∀ W, (W.cell? ⟨tB, 0, none⟩ = some (.slice Ag G.length cg) ∧ W.cell? ⟨w.heap.size, 0, none⟩ = some (.int .i64 (gone : Int)) ∧ Below w1.heap.size w1 W) → Calls Tryd.prog 67 #[.slice Ag G.length cg] W fun e w' => e = .returned (.int .i64 ((2 ^ G.length - 1 : Nat) : Int)) ∧ w'.cell? ⟨tB, 0, none⟩ = some (.slice Ag G.length cg) ∧ w'.cell? ⟨w.heap.size, 0, none⟩ = some (.int .i64 (gone : Int)) ∧ Below w1.heap.size w1 w') := ⟨by
   rintro W ⟨s0, s1, s2⟩
   obtain ⟨p1, p2, _⟩ := hlow W ((hk1.low (grown_of_below s2 none)).grown)
   refine (all_callsO hG Ag cg hcg W p2).mono ?_
   rintro e w' ⟨rfl, hb⟩
   exact ⟨rfl, (hb.cell (World.block_lt_of_cell? W _ s0)).trans s0, (hb.cell (World.block_lt_of_cell? W _ s1)).trans s1, below_step s2 hb⟩⟩
  obtain ⟨L, hL⟩ : ∃ L : List Nat, L = els (lft G gone) 9 := ⟨_, rfl⟩
  obtain ⟨P, hP⟩ : ∃ P : Int → Bool, P = fun x => decide (dg G gone x.toNat ≤ bs) && canB G bs (gone ||| 2 ^ x.toNat) := ⟨_, rfl⟩
  have hany : (gi L).any P = canB G bs gone := by
   rw [hcb, hL, hP]
   unfold gi
   rw [List.any_map]
   rfl
  have hLlen : L.length ≤ 9 := by rw [hL, els_length]; exact pc_le _ 9
  have HREC : Aside0 (∀ W, KM W0 W mB 512 (canB G bs) → W.cell? ⟨w.heap.size, 0, none⟩ = some (.int .i64 (gone : Int)) → ∀ x ∈ gi L, Calls Tryd.prog 99 #[.int .i64 x, .pointer (some ⟨tB, 0, none⟩), .pointer (some ⟨w.heap.size, 0, none⟩), .pointer (some ⟨bB, 0, none⟩), .pointer (some ⟨cB, 0, none⟩)] W fun e w' => e = .returned (.bool (P x)) ∧ KM W0 w' mB 512 (canB G bs) ∧ W.grownBy w' (some mB)) := ⟨fun W hKW hcW x hx => by
   unfold gi at hx
   obtain ⟨v, hv, rfl⟩ := List.mem_map.1 hx
   rw [hL] at hv
   have hvb := (mem_els.1 hv).2
   have hvn := ((lft_bit G gone v).1 hvb).1
   have hpc := pc_lft hn hvb
   rw [hP]
   exact can_inner tB kB w.heap.size bB cB mB W0 Ag cg G hG hcg bs hlow gone v hg hvn W hKW hcW fun V hV => ih (gone ||| 2 ^ v) V (by omega) (or_in hg hvb) hV⟩
  have hmBw : mB < w.heap.size := Nat.lt_of_lt_of_le hmB hk.grown.size
  have HND : Aside0 (∀ W, GL W → mB < W.heap.size → Calls Tryd.prog 98 #[.int .i64 ((lft G gone : Nat) : Int)] W fun e w' => ∃ A c, e = .returned (.slice A L.length c) ∧ L.length ≤ c ∧ (∀ V, w'.grownBy V (some mB) → Kd.C (Kd.int .i64) V A L.length (gi L)) ∧ Below W.heap.size W w') := ⟨fun W hGLW hW => by
   rw [hL]
   exact nodes_callsO (smallO hn (lft_lt G gone)) mB W hW hGLW⟩
  have hne : (((gone : Int)) == ((2 ^ G.length - 1 : Nat) : Int)) = false := beq_eq_false_iff_ne.2 (by omega)
  have HK := Aside0.mk hk
  have HB1 := Aside0.mk hB1
  have HLOW := Aside0.mk hlow
  have HANY := Aside0.mk hany
  have hg62 : gone < 2 ^ 62 := by omega
  generalize lft G gone = lf at *
  generalize canB G bs = F at *
  obtain ⟨z, hz⟩ : ∃ z : Nat, z = 2 ^ G.length - 1 := ⟨_, rfl⟩
  have HALG : Aside0 (∀ W, W0.grownBy W (some mB) → Calls Tryd.prog 67 #[.slice Ag G.length cg] W fun e w' => e = .returned (.int .i64 ((2 ^ G.length - 1 : Nat) : Int)) ∧ Below W.heap.size W w') := ⟨fun W hW => all_callsO hG Ag cg hcg W (HLOW.out W hW).2.1⟩
  have HBLK1 : Aside0 (w1.heap[w.heap.size]? = some (.cells #[.int .i64 (gone : Int)] 3 (0, 0))) := ⟨by rw [hw1]; exact Array.getElem?_push_size⟩
  rw [← hz] at hne hand HAL HALG
  clear hk hk1 q1 q2 q3 q4 q5 q6 hlow hg hG hn hd hcb hB1 hgc hz hP hL hany ih hnall hall512
  go_enter Tryd.func97, Tryd.ntmps97
  go_wp2
  rw [← hw1]
  clear hw1
  refine start_ (n := 4) (S := fun w' => w'.cell? ⟨tB, 0, none⟩ = some (.slice Ag G.length cg) ∧ w'.cell? ⟨w.heap.size, 0, none⟩ = some (.int .i64 (gone : Int)) ∧ Below w1.heap.size w1 w') (ds := []) #[false, false, false, false] (by kernel_rfl) rfl rfl ⟨c0d, c1d, c2d⟩ (fun hHeld => ?_)
  refine take_ (i := 0) (N := some 9) (v := ?_) (a' := ?_) #[true, false, false, false] rfl rfl (by kernel_rfl) (fun _ _ _ h => h) (Or.inl ⟨by rfl, ?_⟩) hHeld ?_ ?_;rotate_left;(·rintro w' ⟨s0, s1, s2⟩;go_simp;with_reducible rfl);rotate_left;(·simp only [Act.put, Qp1, Qp2, Qp3, i64_w, i32_w];rfl)
  refine take_ (i := 1) (N := some 10) (v := ?_) (a' := ?_) #[true, true, false, false] rfl rfl (by kernel_rfl) (fun _ _ _ h => h) (Or.inl ⟨by rfl, ?_⟩) hHeld ?_ ?_;rotate_left;(·rintro w' ⟨s0, s1, s2⟩;go_simp;with_reducible rfl);rotate_left;(·simp only [Act.put, Qp1, Qp2, Qp3, i64_w, i32_w];rfl)
  refine one_ (i := 2) (N := some 11) #[true, true, true, false] rfl rfl (by kernel_rfl) (by decide) (fun K hK => ?_)
  refine goes_ Tryd.func67 (by kernel_rfl) rfl #[.slice Ag G.length cg] (by rfl) rfl rfl (by simp only [List.map_toArray, List.map_cons, List.map_nil]; rfl) ?_
  with_reducible refine (HAL.out _ hHeld).mono ?_
  rintro e w2 ⟨rfl, k0, k1, kB2⟩
  refine ⟨_, rfl, ?_⟩
  refine hK.out _ _ ⟨k0, k1, kB2⟩ (fun hHeld => ?_)
  clear hK K
  refine norm_ (a' := ?_) ?_ ?_
  rotate_left
  ·show Act.put _ (some 11) _ = _
   simp only [Act.put, Qp1, Qp2, Qp3, i64_w, i32_w]
   rfl
  refine Qpu 3 12 ?_ ?_ #[true, true, true, true] (by kernel_rfl) ?_
  refine done_ (by kernel_rfl) ?_
  obtain ⟨s0, s1, s2⟩ := hHeld
  have hk2 := (HK.out.low (grown_of_below HB1.out none)).low (grown_of_below s2 none)
  have HG2 : Aside0 (w.grownBy w2 (some mB)) := ⟨grown_then (grown_of_below HB1.out (some mB)) (grown_of_below s2 (some mB))⟩
  have HK2 := Aside0.mk hk2
  have HBLK2 : Aside0 (w2.heap[w.heap.size]? = some (.cells #[.int .i64 (gone : Int)] 3 (0, 0))) := ⟨blk_grown HBLK1.out (grown_of_below s2 none) (by simp)⟩
  clear HAL HBLK1
  obtain ⟨p1, p2, p3, p4, p5, p6⟩ := HLOW.out w2 hk2.grown
  obtain ⟨⟨D, hown, hkn⟩, hgr⟩ := hk2
  have HOWN := Aside0.mk hown
  have hkey := key3 gone hg62
  have S2 := Aside0.mk s2
  have c0e : w2.drew.cell? ⟨tB, 0, none⟩ = some (.slice Ag G.length cg) := s0
  have c1e : w2.drew.cell? ⟨w.heap.size, 0, none⟩ = some (.int .i64 (gone : Int)) := s1
  have c2e : Below w2.heap.size w2 w2.drew := below_drew (Below.refl _ _)
  cases hh : Maps.has D (.int .i64 (gone : Int))
  ·have hr : D.atKey (.int .i64 (gone : Int)) (.lit (.bool false)) = .lit (.bool false) := Maps.atKey_of_not_has hh _
   clear hkn hgr s2 p5 p6 hown
   go_wp2_with (at_lookup; refine wpList_known rfl _ _ rfl mB 512 D rfl HOWN.out _ _ rfl hkey false false hr hh ?_)
   have HAL2 : Aside0 (∀ W, (W.cell? ⟨tB, 0, none⟩ = some (.slice Ag G.length cg) ∧ W.cell? ⟨w.heap.size, 0, none⟩ = some (.int .i64 (gone : Int)) ∧ Below w2.heap.size w2 W) → Calls Tryd.prog 67 #[.slice Ag G.length cg] W fun e w' => e = .returned (.int .i64 (z : Int)) ∧ w'.cell? ⟨tB, 0, none⟩ = some (.slice Ag G.length cg) ∧ w'.cell? ⟨w.heap.size, 0, none⟩ = some (.int .i64 (gone : Int)) ∧ Below w2.heap.size w2 w') := ⟨by
    rintro W ⟨s0, s1, s2⟩
    refine (HALG.out W ((HK2.out.low (grown_of_below s2 none)).grown)).mono ?_
    rintro e w' ⟨rfl, hb⟩
    exact ⟨rfl, (hb.cell (World.block_lt_of_cell? W _ s0)).trans s0, (hb.cell (World.block_lt_of_cell? W _ s1)).trans s1, below_step s2 hb⟩⟩
   have HND2 : Aside0 (∀ W, (W.cell? ⟨tB, 0, none⟩ = some (.slice Ag G.length cg) ∧ W.cell? ⟨w.heap.size, 0, none⟩ = some (.int .i64 (gone : Int)) ∧ Below w2.heap.size w2 W) → Calls Tryd.prog 98 #[.int .i64 (lf : Int)] W fun e w' => ∃ A c, e = .returned (.slice A L.length c) ∧ (∀ V, w'.grownBy V (some mB) → Kd.C (Kd.int .i64) V A L.length (gi L)) ∧ w'.cell? ⟨tB, 0, none⟩ = some (.slice Ag G.length cg) ∧ w'.cell? ⟨w.heap.size, 0, none⟩ = some (.int .i64 (gone : Int)) ∧ Below w2.heap.size w2 w') := ⟨by
    rintro W ⟨s0, s1, s2⟩
    have hkW := HK2.out.low (grown_of_below s2 none)
    refine (HND.out W (HLOW.out W hkW.grown).1 (Nat.lt_of_lt_of_le hmB hkW.grown.size)).mono ?_
    rintro e w' ⟨A, c, rfl, hc, hC, hb⟩
    exact ⟨A, c, rfl, hC, (hb.cell (World.block_lt_of_cell? W _ s0)).trans s0, (hb.cell (World.block_lt_of_cell? W _ s1)).trans s1, below_step s2 hb⟩⟩
   have HCC : Aside0 (∀ W A c, Below w2.heap.size w2 W → (∀ V, W.grownBy V (some mB) → Kd.C (Kd.int .i64) V A L.length (gi L)) → Calls Tryd.prog 54 #[.slice A L.length c, .func (.func 99) #[] #[.pointer (some ⟨tB, 0, none⟩), .pointer (some ⟨w.heap.size, 0, none⟩), .pointer (some ⟨bB, 0, none⟩), .pointer (some ⟨cB, 0, none⟩)]] W fun e w' => e = .returned (.bool (F gone)) ∧ KM W0 w' mB 512 F ∧ W.grownBy w' (some mB)) := ⟨by
    intro W A c hb hC
    have hkW := HK2.out.low (grown_of_below hb none)
    have hblkW := blk_grown HBLK2.out (grown_of_below hb none) (by simp)
    have := contains_can tB w.heap.size bB cB mB 512 F W0 A c (gi L) P W hkW (fun V hV => by rw [gi_length]; exact hC V hV) (by rw [gi_length]; omega) (fun V hKV hV x hx => HREC.out V hKV ((blk_cell (blk_grown hblkW hV (fun e => by have := Option.some.inj e; omega)) 0).trans rfl) x hx)
    rw [gi_length, HANY.out] at this
    exact this⟩
   clear HND HALG HREC HANY
   refine start_ (n := 8) (S := fun w' => w'.cell? ⟨tB, 0, none⟩ = some (.slice Ag G.length cg) ∧ w'.cell? ⟨w.heap.size, 0, none⟩ = some (.int .i64 (gone : Int)) ∧ Below w2.heap.size w2 w') (ds := [6]) (Qbz 8 0) (by kernel_rfl) rfl rfl ⟨c0e, c1e, c2e⟩ (fun hHeld => ?_)
   refine Qpu 5 26 ?_ ?_ (Qbz 8 32) (by kernel_rfl) ?_
   refine take_ (i := 0) (N := some 21) (v := ?_) (a' := ?_) (Qbz 8 33) rfl rfl (by kernel_rfl) (fun _ _ _ h => h) (Or.inl ⟨by rfl, ?_⟩) hHeld ?_ ?_;rotate_left;(·rintro w' ⟨s0, s1, s2⟩;go_simp;with_reducible rfl);rotate_left;(·simp only [Act.put, Qp1, Qp2, Qp3, i64_w, i32_w];rfl)
   refine take_ (i := 2) (N := some 23) (v := ?_) (a' := ?_) (Qbz 8 37) rfl rfl (by kernel_rfl) (fun _ _ _ h => h) (Or.inl ⟨by rfl, ?_⟩) hHeld ?_ ?_;rotate_left;(·rintro w' ⟨s0, s1, s2⟩;go_simp;with_reducible rfl);rotate_left;(·simp only [Act.put, Qp1, Qp2, Qp3, i64_w, i32_w];rfl)
   refine one_ (i := 1) (N := some 22) (Qbz 8 39) rfl rfl (by kernel_rfl) (by decide) (fun K hK => ?_)
   refine goes_ Tryd.func67 (by kernel_rfl) rfl #[.slice Ag G.length cg] (by rfl) rfl rfl (by simp only [List.map_toArray, List.map_cons, List.map_nil]; rfl) ?_
   with_reducible refine (HAL2.out _ hHeld).mono ?_
   rintro e w5 ⟨rfl, k0, k1, kB5⟩
   refine ⟨_, rfl, ?_⟩
   refine hK.out _ _ ⟨k0, k1, kB5⟩ (fun hHeld => ?_)
   clear hK K
   refine norm_ (a' := ?_) ?_ ?_
   rotate_left
   ·show Act.put _ (some 22) _ = _
    simp only [Act.put, Qp1, Qp2, Qp3, i64_w, i32_w]
    rfl
   refine Qpu 3 24 ?_ ?_ (Qbz 8 47) (by kernel_rfl) ?_
   refine one_ (i := 4) (N := some 25) (Qbz 8 63) rfl rfl (by kernel_rfl) (by decide) (fun K hK => ?_)
   refine goes_ Tryd.func98 (by kernel_rfl) rfl #[.int .i64 (lf : Int)] (by rfl) rfl rfl (by simp only [List.map_toArray, List.map_cons, List.map_nil]; rfl) ?_
   with_reducible refine (HND2.out _ hHeld).mono ?_
   rintro e w6 ⟨A6, c6, rfl, hC6, k0, k1, kB6⟩
   refine ⟨_, rfl, ?_⟩
   have HC6 := Aside0.mk hC6
   clear hC6
   refine hK.out _ _ ⟨k0, k1, kB6⟩ (fun hHeld => ?_)
   clear hK K
   refine norm_ (a' := ?_) ?_ ?_
   rotate_left
   ·show Act.put _ (some 25) _ = _
    simp only [Act.put, Qp1, Qp2, Qp3, i64_w, i32_w]
    rfl
   refine last_ (i := 6) (N := some 27) (Qbz 8 127) rfl rfl (by kernel_rfl) (by decide) (fun K hK => ?_)
   refine goes_ Tryd.func54 (by kernel_rfl) rfl #[.slice A6 L.length c6, .func (.func 99) #[] #[.pointer (some ⟨tB, 0, none⟩), .pointer (some ⟨w.heap.size, 0, none⟩), .pointer (some ⟨bB, 0, none⟩), .pointer (some ⟨cB, 0, none⟩)]] (by rfl) rfl rfl (by simp only [List.map_toArray, List.map_cons, List.map_nil]; rfl) ?_
   with_reducible refine (HCC.out _ _ _ hHeld.2.2 HC6.out).mono ?_
   rintro e w7 ⟨rfl, hK7, hG7⟩
   have HK7 := Aside0.mk hK7
   have HG7 := Aside0.mk hG7
   have HB6 := Aside0.mk kB6
   clear hK7 hG7 kB6
   refine ⟨_, rfl, ?_⟩
   refine hK.out _ _ ?_
   clear hK K
   refine norm_ (a' := ?_) ?_ ?_
   rotate_left
   ·show Act.put _ (some 27) _ = _
    simp only [Act.put, Qp1, Qp2, Qp3, i64_w, i32_w]
    rfl
   refine Qpu 7 7 ?_ ?_ (Qbz 8 255) (by kernel_rfl) ?_
   refine done_ (by kernel_rfl) ?_
   have hG27 := grown_then (grown_of_below HB6.out (some mB)) HG7.out
   obtain ⟨n1, n2, n3, n4, n5, n6⟩ := HLOW.out w7 HK7.out.grown
   have n7 : w7.cell? ⟨w.heap.size, 0, none⟩ = some (.int .i64 (gone : Int)) := (blk_cell (blk_grown HBLK2.out hG27 (fun e => by have := Option.some.inj e; omega)) 0).trans rfl
   obtain ⟨⟨D7, hown7, hkn7⟩, hgr7⟩ := HK7.out
   have HOWN7 := Aside0.mk hown7
   have HKN7 := Aside0.mk hkn7
   have HG27 := Aside0.mk hG27
   clear hown7 hkn7 hgr7 hG27 n1 n2 n3 n5 n6
   go_wp2_with (at_mapUpdate; refine wpList_mapUpdate_own _ rfl _ _ _ _ rfl 3 4 law3 undM (plainElem Tryd.prog 4) mB 512 D7 rfl HOWN7.out (by unfold maxLen; omega) _ _ _ rfl rfl hkey _ [] (plainElem_bool und4 (F gone)) ?_; intro w8 hown8 hgrow8; have HOWN8 := Aside0.mk hown8; have HG8 := Aside0.mk hgrow8; clear hown8 hgrow8)
   go_ret
   exact ⟨rfl, HK7.out.put HKN7.out hg512 (by omega) HOWN8.out HOWN7.out.isMap HG8.out, grown_then (grown_then HG2.out HG27.out) HG8.out⟩
  ·have hr := hkn.2 gone hg512 hh
   clear hkn hgr s2 p5 p6 hown HREC HANY HND HALG c0e c1e c2e
   go_wp2_with (at_lookup; refine wpList_known rfl _ _ rfl mB 512 D rfl HOWN.out _ _ rfl hkey (F gone) true hr hh ?_)
   go_ret
   exact ⟨rfl, HK2.out, HG2.out⟩
theorem undS : Tryd.prog.underlying 22 = some (.slice 3) := by kernel_rfl
theorem width_callsO {G : List Nat} (hG : Gr 9 G) {W : Nat} (hW : IsWidth G W) (Ag : Option Addr) (cg : Nat) (hcg : G.length ≤ cg) (w : World) (hGL : GL w) (h1 : Kd.C (Kd.int .i64) w Ag (gi G).length (gi G)) :
  Calls Tryd.prog 60 #[.slice Ag G.length cg] w fun e w' => e = .returned (.int .i64 (W : Int)) ∧ Below w.heap.size w w' := by
 obtain ⟨W', hW', hE⟩ := width_ev G hG
 rw [hW'.uniq hW] at hE
 obtain ⟨K, hK⟩ := hE
 have := width_town_width.calls K Ag cg (gi G) _ w hGL h1 (by rw [gi_length]; exact hcg) (hK K (Nat.le_refl _))
 rw [gi_length] at this
 exact this
set_option maxHeartbeats 1500000 in
set_option maxRecDepth 100000 in
theorem order_calls (Ag : Option Addr) (cg : Nat) (G : List Nat) (hG : Gr 9 G) (hcg : G.length ≤ cg) (bs : Nat) (hbs : IsWidth G bs) (w : World) (hGL : GL w) (hrg : Kd.C (Kd.int .i64) w Ag (gi G).length (gi G)) :
  Calls Tryd.prog 73 #[.slice Ag G.length cg] w fun e w' => ∃ v, e = .returned v ∧ Kd.R (Kd.int .i64) 3 w' w.heap.size (fun _ => True) v (gi (ordL G bs)) ∧ Below w.heap.size w w' := by
 have hn := hG.most
 obtain ⟨wt, hwt⟩ : ∃ W : World, W = w.alloc (.cells #[.slice Ag G.length cg] 73) := ⟨_, rfl⟩
 have hBt : Below w.heap.size w wt := by rw [hwt]; exact below_alloc (Below.refl _ _) _
 have htb : wt.heap[w.heap.size]? = some (.cells #[.slice Ag G.length cg] 73 (0, 0)) := by rw [hwt]; exact Array.getElem?_push_size
 have htc : wt.cell? ⟨w.heap.size, 0, none⟩ = some (.slice Ag G.length cg) := (blk_cell htb 0).trans rfl
 have hszt : wt.heap.size = w.heap.size + 1 := by rw [hwt]; simp
 have HWD : Aside0 (Calls Tryd.prog 60 #[.slice Ag G.length cg] wt fun e w' => e = .returned (.int .i64 (bs : Int)) ∧ Below wt.heap.size wt w') := ⟨width_callsO hG hbs Ag cg hcg wt (GL_below hGL hBt) (Kd.C_below hrg hBt)⟩
 have HBT := Aside0.mk hBt
 have HTB := Aside0.mk htb
 have HGL := Aside0.mk hGL
 have HRG := Aside0.mk hrg
 rw [hwt] at htc HWD
 clear hGL hrg hBt htb
 go_enter Tryd.func73, Tryd.ntmps73
 go_wp2_with (go_at_call 60; refine HWD.out.mono ?_; rintro e w1 ⟨rfl, hb1⟩; rw [← hwt] at hb1; have HB1 := Aside0.mk hb1; clear hb1)
 obtain ⟨W0, hW0⟩ : ∃ W0 : World, W0 = ((((w1.alloc (Obj.cells #[Value.int IntKind.i64 (bs : Int)] 3)).alloc (Obj.map #[] 0)).alloc (Obj.cells #[Value.map (some (w1.heap.size + 1))] 96)).alloc (Obj.cells #[.func (.func 97) #[] #[.pointer (some ⟨w.heap.size, 0, none⟩), .pointer (some ⟨w1.heap.size + 1 + 1, 0, none⟩), .pointer (some ⟨w1.heap.size, 0, none⟩), .pointer (some ⟨w1.heap.size + 1 + 1 + 1, 0, none⟩)]] 68)) := ⟨_, rfl⟩
 rw [← hW0]
 have hs1 : w.heap.size + 1 ≤ w1.heap.size := by have := HB1.out.size; omega
 have hsz : W0.heap.size = w1.heap.size + 4 := by rw [hW0]; simp
 have hBW : Below w1.heap.size w1 W0 := by rw [hW0]; exact below_alloc (below_alloc (below_alloc (below_alloc (Below.refl _ _) _) _) _) _
 have hbt : W0.heap[w.heap.size]? = some (.cells #[.slice Ag G.length cg] 73 (0, 0)) := blk_grown (blk_grown HTB.out (grown_of_below HB1.out none) (by simp)) (grown_of_below hBW none) (by simp)
 have hbb : W0.heap[w1.heap.size]? = some (.cells #[.int .i64 (bs : Int)] 3 (0, 0)) := by
  rw [hW0]
  exact blk_alloc (blk_alloc (blk_alloc (show (w1.heap.push _)[w1.heap.size]? = _ from Array.getElem?_push_size) _) _) _
 have hbk : W0.heap[w1.heap.size + 1 + 1]? = some (.cells #[.map (some (w1.heap.size + 1))] 96 (0, 0)) := by
  rw [hW0]
  refine blk_alloc ?_ _
  have : ((w1.alloc (Obj.cells #[Value.int IntKind.i64 (bs : Int)] 3)).alloc (Obj.map #[] 0)).heap.size = w1.heap.size + 1 + 1 := by simp
  rw [← this]
  exact (show (Array.push _ _)[_]? = _ from Array.getElem?_push_size)
 have hbc : W0.heap[w1.heap.size + 1 + 1 + 1]? = some (.cells #[.func (.func 97) #[] #[.pointer (some ⟨w.heap.size, 0, none⟩), .pointer (some ⟨w1.heap.size + 1 + 1, 0, none⟩), .pointer (some ⟨w1.heap.size, 0, none⟩), .pointer (some ⟨w1.heap.size + 1 + 1 + 1, 0, none⟩)]] 68 (0, 0)) := by
  rw [hW0]
  have : (((w1.alloc (Obj.cells #[Value.int IntKind.i64 (bs : Int)] 3)).alloc (Obj.map #[] 0)).alloc (Obj.cells #[Value.map (some (w1.heap.size + 1))] 96)).heap.size = w1.heap.size + 1 + 1 + 1 := by simp
  rw [← this]
  exact (show (Array.push _ _)[_]? = _ from Array.getElem?_push_size)
 have hmap : W0.ownsMap Tryd.prog 3 (plainElem Tryd.prog 4) (w1.heap.size + 1) 512 (.map [] : DataW Unit) := by
  rw [hW0]
  have := World.ownsMap_made (H := Unit) (w1.alloc (Obj.cells #[Value.int IntKind.i64 (bs : Int)] 3)) Tryd.prog 3 (plainElem Tryd.prog 4)
  rw [show (w1.alloc (Obj.cells #[Value.int IntKind.i64 (bs : Int)] 3)).heap.size = w1.heap.size + 1 by simp] at this
  exact ((this.alloc _).alloc _).mono (by omega)
 clear hW0
 have hKM0 : KM W0 W0 (w1.heap.size + 1) 512 (canB G bs) := ⟨⟨_, hmap, (by
  refine ⟨?_, ?_⟩
  ·intro kl h; cases h
  ·intro g _ h; cases h)⟩, World.grownBy.refl _ _⟩
 have hlow : ∀ W, W0.grownBy W (some (w1.heap.size + 1)) → GL W ∧ Kd.C (Kd.int .i64) W Ag (gi G).length (gi G) ∧ W.cell? ⟨w.heap.size, 0, none⟩ = some (.slice Ag G.length cg) ∧ W.cell? ⟨w1.heap.size + 1 + 1, 0, none⟩ = some (.map (some (w1.heap.size + 1))) ∧ W.cell? ⟨w1.heap.size, 0, none⟩ = some (.int .i64 (bs : Int)) ∧ W.cell? ⟨w1.heap.size + 1 + 1 + 1, 0, none⟩ = some (canV w.heap.size (w1.heap.size + 1 + 1) w1.heap.size (w1.heap.size + 1 + 1 + 1)) := fun W hW => by
  have hB01 := below_step HBT.out HB1.out
  have hB02 := below_step hB01 hBW
  have hB : Below w.heap.size w W := ⟨hW.os.trans hB02.os, hW.tape.trans hB02.tape, hW.output.trans hB02.output, Nat.le_trans hB02.size hW.size, fun k hk => (hW.block k (by omega) (fun e => by have := Option.some.inj e; omega)).trans (hB02.block k hk)⟩
  exact ⟨GL_below HGL.out hB, Kd.C_below HRG.out hB, (blk_cell (blk_grown hbt hW (fun e => by have := Option.some.inj e; omega)) 0).trans rfl, (blk_cell (blk_grown hbk hW (fun e => by have := Option.some.inj e; omega)) 0).trans rfl, (blk_cell (blk_grown hbb hW (fun e => by have := Option.some.inj e; omega)) 0).trans rfl, (blk_cell (blk_grown hbc hW (fun e => by have := Option.some.inj e; omega)) 0).trans rfl⟩
 have HFIN : Aside0 (∀ W, W0.grownBy W (some (w1.heap.size + 1)) → Below w.heap.size w W) := ⟨fun W hW => by
  have hB02 := below_step (below_step HBT.out HB1.out) hBW
  exact ⟨hW.os.trans hB02.os, hW.tape.trans hB02.tape, hW.output.trans hB02.output, Nat.le_trans hB02.size hW.size, fun k hk => (hW.block k (by omega) (fun e => by have := Option.some.inj e; omega)).trans (hB02.block k hk)⟩⟩
 have HLOW := Aside0.mk hlow
 have HALL : Aside0 (∀ W, W0.grownBy W (some (w1.heap.size + 1)) → Calls Tryd.prog 67 #[.slice Ag G.length cg] W fun e w' => e = .returned (.int .i64 ((2 ^ G.length - 1 : Nat) : Int)) ∧ Below W.heap.size W w') := ⟨fun W hW => all_callsO hG Ag cg hcg W (HLOW.out W hW).2.1⟩
 have HDEG : Aside0 (∀ (W : World) (gone v : Nat), gone < 2 ^ G.length → v < G.length → W0.grownBy W (some (w1.heap.size + 1)) → Calls Tryd.prog 75 #[.slice Ag G.length cg, .int .i64 (v : Int), .int .i64 (gone : Int)] W fun e w' => e = .returned (.int .i64 ((dg G gone v : Nat) : Int)) ∧ Below W.heap.size W w') := ⟨fun W gone v hg hv hW => degree_callsO hG hg hv Ag cg hcg W (HLOW.out W hW).1 (HLOW.out W hW).2.1⟩
 have HCAN : Aside0 (∀ (V : World) (gone : Nat), gone < 2 ^ G.length → KM W0 V (w1.heap.size + 1) 512 (canB G bs) → Calls Tryd.prog 97 #[.int .i64 (gone : Int), .pointer (some ⟨w.heap.size, 0, none⟩), .pointer (some ⟨w1.heap.size + 1 + 1, 0, none⟩), .pointer (some ⟨w1.heap.size, 0, none⟩), .pointer (some ⟨w1.heap.size + 1 + 1 + 1, 0, none⟩)] V fun e w' => e = .returned (.bool (canB G bs gone)) ∧ KM W0 w' (w1.heap.size + 1) 512 (canB G bs) ∧ V.grownBy w' (some (w1.heap.size + 1))) := ⟨fun V gone hg hV => can_grow w.heap.size (w1.heap.size + 1 + 1) w1.heap.size (w1.heap.size + 1 + 1 + 1) (w1.heap.size + 1) W0 (by omega) Ag cg G hG hcg bs hlow _ gone V rfl hg hV⟩
 have HKM0 := Aside0.mk hKM0
 have h2n := Nat.two_pow_pos G.length
 have hpc0 : pc (lft G 0) 9 = G.length := by
  have e : lft G 0 = 2 ^ G.length - 1 := eq_bits fun j => by rw [lft_bit, all_bit]; simp [bset]
  rw [e]
  have : ∀ i : Fin 10, pc (2 ^ i.val - 1) 9 = i.val := by decide
  exact this ⟨G.length, by omega⟩
 have hc0 : canB G bs 0 = true := (canB_zero hn hG).2 ((hbs bs).1 (Nat.le_refl _))
 have HC0 := Aside0.mk hc0
 have HBS := Aside0.mk hbs
 have HGR := Aside0.mk hG
 have H2N := Aside0.mk h2n
 have hmB : w1.heap.size + 1 < W0.heap.size := by omega
 clear hbt hbb hbk hbc hmap hlow hBW hKM0 hwt htc hszt hbs hG hc0 h2n
 go_loopg [6, 7] G.length (fun kq v6 v7 w' => ∃ (gone : Nat) (M : List Nat), v7 = .int .i64 (gone : Int) ∧ pc (lft G gone) 9 = kq ∧ M.length + kq = G.length ∧ Aside0 (gone < 2 ^ G.length) ∧ Aside0 (canB G bs gone = true) ∧ Aside0 (M ++ ordD G bs kq gone = ordL G bs) ∧ Aside0 (KM W0 w' (w1.heap.size + 1) 512 (canB G bs) ∧ w'.ownsRow W0.heap.size 3 1 v6 M.length ((gi M).map (Value.int .i64))))
 case atStart => exact ⟨0, [], rfl, hpc0, by simp, H2N, HC0, ⟨rfl⟩, ⟨HKM0.out, ⟨rfl, .inl ⟨rfl, rfl⟩⟩⟩⟩
 case round =>
  clear HC0 hpc0
  obtain ⟨gone, M, rfl, hpc, hMl, HG1, HC1, HM1, HX1⟩ := hrel
  obtain ⟨A6, c6, e6⟩ := ownsRow_form2 HX1.out.2
  subst e6
  have ht0 : wr.cell? ⟨w.heap.size, 0, none⟩ = some (.slice Ag G.length cg) := (HLOW.out wr HX1.out.1.grown).2.2.1
  have hg512 := smallO hn HG1.out
  have hall512 : 2 ^ G.length - 1 < 512 := by
   have h2 : 2 ^ G.length ≤ 2 ^ 9 := Nat.pow_le_pow_right (by omega) hn
   have h3 := H2N.out
   omega
  by_cases hall : gone = 2 ^ G.length - 1
  ·have hk0 : gk = 0 := by rw [← hpc, hall, lft_all]; rfl
   subst hk0
   have hne : (((gone : Int)) != ((2 ^ G.length - 1 : Nat) : Int)) = false := by rw [hall]; simp
   have HAL := Aside0.mk (HALL.out wr HX1.out.1.grown)
   rw [← hall] at HAL
   have HM2 : Aside0 (M = ordL G bs) := ⟨by have := HM1.out; simpa [ordD] using this⟩
   clear hall hall512 hne
   go_wp2_with (go_at_call 67; refine HAL.out.mono ?_; rintro e w3 ⟨rfl, hb3⟩; have HB3 := Aside0.mk hb3; clear hb3)
   go_ret
   refine ⟨_, rfl, ?_, HFIN.out _ ((HX1.out.1.low (grown_of_below HB3.out none)).grown)⟩
   have ho := own_kept HX1.out.2 (grown_of_below HB3.out none) (fun _ _ e => by cases e)
   rw [← HM2.out]
   rw [← gi_length M] at ho
   have hR := Kd.R_of_own (h1 := fun _ => rfl) (ok := fun _ => True) ho (fun _ _ => trivial)
   rw [gi_length] at hR
   have hR2 := Kd.R_lower hR (show w.heap.size ≤ W0.heap.size by omega)
   exact hR2
  ·have hne : (((gone : Int)) != ((2 ^ G.length - 1 : Nat) : Int)) = true := by
    have : (((gone : Int)) == ((2 ^ G.length - 1 : Nat) : Int)) = false := beq_eq_false_iff_ne.2 (by omega)
    rw [bne, this]; rfl
   have hne2 : (((gone : Int)) == ((2 ^ G.length - 1 : Nat) : Int)) = false := beq_eq_false_iff_ne.2 (by omega)
   cases gk with
   | zero => exact absurd hpc (pc_pos (smallO hn (lft_lt G gone)) (lft_ne HG1.out hall))
   | succ d =>
   have hand : Go.bits .andNot .i64 ((2 ^ G.length - 1 : Nat) : Int) (gone : Int) = ((lft G gone : Nat) : Int) := b_andNot _ _ (by omega) (by omega)
   obtain ⟨L, hL⟩ : ∃ L : List Nat, L = els (lft G gone) 9 := ⟨_, rfl⟩
   have hfind : ∃ x, L.find? (nextP G bs gone) = some x := by
    obtain ⟨v, h1, h2, h3⟩ := (canB_true hn HG1.out hall).1 HC1.out
    have hm : v ∈ L := by rw [hL]; exact mem_els.2 ⟨bit_lt (lft_small hn gone) h1, h1⟩
    cases hf : L.find? (nextP G bs gone) with
    | some x => exact ⟨x, rfl⟩
    | none =>
     have := List.find?_eq_none.1 hf v hm
     unfold nextP at this
     rw [h3, decide_eq_true h2] at this
     simp at this
   obtain ⟨x, hx⟩ := hfind
   have HM2 : Aside0 (M ++ x :: ordD G bs d (gone ||| 2 ^ x) = ordL G bs) := ⟨by
    have := HM1.out
    rw [ordD, ← hL, hx] at this
    exact this⟩
   have hxL : x ∈ L := List.mem_of_find?_eq_some hx
   have hxp : nextP G bs gone x = true := List.find?_some hx
   have hLb : ∀ u ∈ L, bset (lft G gone) u := fun u hu => by rw [hL] at hu; exact (mem_els.1 hu).2
   have hLlen : L.length ≤ 9 := by rw [hL, els_length]; exact pc_le _ 9
   have HND : Aside0 (∀ W, GL W → w1.heap.size + 1 < W.heap.size → Calls Tryd.prog 98 #[.int .i64 ((lft G gone : Nat) : Int)] W fun e w' => ∃ A c, e = .returned (.slice A L.length c) ∧ L.length ≤ c ∧ (∀ V, w'.grownBy V (some (w1.heap.size + 1)) → Kd.C (Kd.int .i64) V A L.length (gi L)) ∧ Below W.heap.size W w') := ⟨fun W hGLW hW => by
    rw [hL]
    exact nodes_callsO (smallO hn (lft_lt G gone)) (w1.heap.size + 1) W hW hGLW⟩
   have HLB := Aside0.mk hLb
   have HXB := Aside0.mk (hLb x hxL)
   have HXP := Aside0.mk hxp
   have HF0 : Aside0 ((L.drop 0).find? (nextP G bs gone) = some x) := ⟨hx⟩
   have HPC : Aside0 (pc (lft G (gone ||| 2 ^ x)) 9 = d) := ⟨by have := pc_lft hn (hLb x hxL); omega⟩
   have HAL := Aside0.mk (fun W hW => HALL.out W hW)
   obtain ⟨z, hz⟩ : ∃ z : Nat, z = 2 ^ G.length - 1 := ⟨_, rfl⟩
   rw [← hz] at hne hne2 hand HAL
   generalize hlf : lft G gone = lf at HND hand
   clear hL hx hxL hxp hLb hpc hall hall512 hz HM1 HALL
   go_wp2_with (first
    | (go_at_call 67; refine (HAL.out _ (by first | exact (HX1.out.1.low (grown_of_below HBA.out none)).grown | exact HX1.out.1.grown)).mono ?_; rintro e w3 ⟨rfl, hb3⟩; have HBA := Aside0.mk (by first | exact below_step HBA.out hb3 | exact hb3); have ht3 := (hb3.cell (World.block_lt_of_cell? _ _ (by assumption))).trans (by assumption); clear hb3)
    | (go_at_call 98; refine (HND.out _ (HLOW.out _ (HX1.out.1.low (grown_of_below HBA.out none)).grown).1 (Nat.lt_of_lt_of_le hmB (HX1.out.1.low (grown_of_below HBA.out none)).grown.size)).mono ?_; rintro e w5 ⟨An, cn, rfl, hcn, hCn, hb5⟩; have HCN := Aside0.mk hCn; have HB5 := Aside0.mk (below_step HBA.out hb5); clear hCn hb5))
   have HX5 : Aside0 (KM W0 w5 (w1.heap.size + 1) 512 (canB G bs) ∧ w5.ownsRow W0.heap.size 3 1 (.slice A6 M.length c6) M.length ((gi M).map (Value.int .i64))) := ⟨HX1.out.1.low (grown_of_below HB5.out none), own_kept HX1.out.2 (grown_of_below HB5.out none) (fun _ _ e => by cases e)⟩
   clear HX1 HND HAL hand hne hne2
   obtain ⟨wo, rfl⟩ : ∃ wo : World, wo = w5 := ⟨_, rfl⟩
   go_loopg [24, 6, 7] L.length (fun iq v24 v6 v7 w' => ∃ i : Nat, v24 = .int .i64 (i : Int) ∧ v6 = .slice A6 M.length c6 ∧ v7 = .int .i64 (gone : Int) ∧ i + iq = L.length ∧ Aside0 ((L.drop i).find? (nextP G bs gone) = some x) ∧ Aside0 (KM W0 w' (w1.heap.size + 1) 512 (canB G bs) ∧ wo.grownBy w' (some (w1.heap.size + 1))))
   case atStart => exact ⟨0, rfl, rfl, rfl, by omega, HF0, ⟨HX5.out.1, World.grownBy.refl _ _⟩⟩
   case round =>
    clear HF0
    obtain ⟨i, rfl, rfl, rfl, hi, HF, HW⟩ := hrel
    have hil : i < L.length := Nat.lt_of_not_le fun h => by
     have := HF.out
     rw [List.drop_eq_nil_of_le h] at this
     cases this
    have hi1 : ((i : Int) < (L.length : Int)) = True := eq_true (by omega)
    have hi2 : decide ((i : Int) < (L.length : Int)) = true := decide_eq_true (by omega)
    cases gk with
    | zero => omega
    | succ gi' =>
    obtain ⟨ad, e1, hgx⟩ := Kd.at_int (HCN.out wr HW.out.2) (i : Int) (by omega) (by omega)
    subst e1
    rw [rd_gi, Int.toNat_natCast] at hgx
    have hf := HF.out
    rw [List.drop_eq_getElem_cons hil, List.find?_cons] at hf
    have hum : L[i] ∈ L := List.getElem_mem hil
    have hue : L.getD i 0 = L[i] := by rw [List.getD_eq_getElem?_getD, List.getElem?_eq_getElem hil]; rfl
    rw [hue] at hgx
    generalize L[i] = u at *
    have hub := HLB.out u hum
    have hun : u < G.length := ((lft_bit G gone u).1 hub).1
    obtain ⟨q1, q2, q3, q4, q5, q6⟩ := HLOW.out wr HW.out.1.grown
    have c0d : wr.drew.cell? ⟨w.heap.size, 0, none⟩ = some (.slice Ag G.length cg) := q3
    have c1d : wr.drew.cell? ⟨w1.heap.size, 0, none⟩ = some (.int .i64 (bs : Int)) := q5
    have c2d : wr.drew.cell? ⟨w1.heap.size + 1 + 1 + 1, 0, none⟩ = some (.func (.func 97) #[] #[.pointer (some ⟨w.heap.size, 0, none⟩), .pointer (some ⟨w1.heap.size + 1 + 1, 0, none⟩), .pointer (some ⟨w1.heap.size, 0, none⟩), .pointer (some ⟨w1.heap.size + 1 + 1 + 1, 0, none⟩)]) := q6
    have c3d : Below wr.heap.size wr wr.drew := below_drew (Below.refl _ _)
    have HKR := Aside0.mk HW.out.1
    have HGR2 := Aside0.mk HW.out.2
    obtain ⟨N, ⟨hS1, hS2, hS3⟩, hNv⟩ := shK u (by omega)
    have h2u : 2 ^ u < 2 ^ G.length := Nat.pow_lt_pow_right (by omega) hun
    have hor : Go.bits .or .i64 (gone : Int) N = ((gone ||| 2 ^ u : Nat) : Int) := by
     rw [hNv, b_or _ _ (Nat.lt_of_lt_of_le hg512 (by decide)) (Nat.lt_of_lt_of_le (smallO hn h2u) (by decide))]
    have HDG : Aside0 (∀ W, (W.cell? ⟨w.heap.size, 0, none⟩ = some (.slice Ag G.length cg) ∧ W.cell? ⟨w1.heap.size, 0, none⟩ = some (.int .i64 (bs : Int)) ∧ W.cell? ⟨w1.heap.size + 1 + 1 + 1, 0, none⟩ = some (.func (.func 97) #[] #[.pointer (some ⟨w.heap.size, 0, none⟩), .pointer (some ⟨w1.heap.size + 1 + 1, 0, none⟩), .pointer (some ⟨w1.heap.size, 0, none⟩), .pointer (some ⟨w1.heap.size + 1 + 1 + 1, 0, none⟩)]) ∧ Below wr.heap.size wr W) → Calls Tryd.prog 75 #[.slice Ag G.length cg, .int .i64 (u : Int), .int .i64 (gone : Int)] W fun e w' => e = .returned (.int .i64 ((dg G gone u : Nat) : Int)) ∧ w'.cell? ⟨w.heap.size, 0, none⟩ = some (.slice Ag G.length cg) ∧ w'.cell? ⟨w1.heap.size, 0, none⟩ = some (.int .i64 (bs : Int)) ∧ w'.cell? ⟨w1.heap.size + 1 + 1 + 1, 0, none⟩ = some (.func (.func 97) #[] #[.pointer (some ⟨w.heap.size, 0, none⟩), .pointer (some ⟨w1.heap.size + 1 + 1, 0, none⟩), .pointer (some ⟨w1.heap.size, 0, none⟩), .pointer (some ⟨w1.heap.size + 1 + 1 + 1, 0, none⟩)]) ∧ Below wr.heap.size wr w') := ⟨by
     rintro W ⟨s0, s1, s2, s3⟩
     refine (HDEG.out W gone u HG1.out hun ((HKR.out.low (grown_of_below s3 none)).grown)).mono ?_
     rintro e w' ⟨rfl, hb⟩
     exact ⟨rfl, (hb.cell (World.block_lt_of_cell? W _ s0)).trans s0, (hb.cell (World.block_lt_of_cell? W _ s1)).trans s1, (hb.cell (World.block_lt_of_cell? W _ s2)).trans s2, below_step s3 hb⟩⟩
    have HREC : Aside0 (∀ V, KM W0 V (w1.heap.size + 1) 512 (canB G bs) → Calls Tryd.prog 97 #[.int .i64 ((gone ||| 2 ^ u : Nat) : Int), .pointer (some ⟨w.heap.size, 0, none⟩), .pointer (some ⟨w1.heap.size + 1 + 1, 0, none⟩), .pointer (some ⟨w1.heap.size, 0, none⟩), .pointer (some ⟨w1.heap.size + 1 + 1 + 1, 0, none⟩)] V fun e w' => e = .returned (.bool (canB G bs (gone ||| 2 ^ u))) ∧ KM W0 w' (w1.heap.size + 1) 512 (canB G bs) ∧ V.grownBy w' (some (w1.heap.size + 1))) := ⟨fun V hV => HCAN.out V _ (or_in HG1.out hub) hV⟩
    have HOR : Aside0 (gone ||| 2 ^ u < 2 ^ G.length) := ⟨or_in HG1.out hub⟩
    clear HF HW q1 q2 q3 q4 q5 q6 hNv h2u hum hue hub
    by_cases hp : nextP G bs gone u = true
    ·rw [hp] at hf
     obtain rfl : u = x := Option.some.inj hf
     have hp2 := hp
     unfold nextP at hp2
     rw [Bool.and_eq_true, decide_eq_true_eq] at hp2
     obtain ⟨hle, hcan⟩ := hp2
     rw [hcan] at HREC
     have HCANT := Aside0.mk hcan
     generalize gone ||| 2 ^ u = gone' at *
     generalize dg G gone u = dv at *
     have hdec1 : ((dv : Int) ≤ (bs : Int)) = True := eq_true (by omega)
     have hdec2 : decide ((dv : Int) ≤ (bs : Int)) = true := decide_eq_true (by omega)
     clear hf hp hcan HXP HXB HLB
     go_wp2
     refine start_ (n := 14) (S := fun w' => w'.cell? ⟨w.heap.size, 0, none⟩ = some (.slice Ag G.length cg) ∧ w'.cell? ⟨w1.heap.size, 0, none⟩ = some (.int .i64 (bs : Int)) ∧ w'.cell? ⟨w1.heap.size + 1 + 1 + 1, 0, none⟩ = some (.func (.func 97) #[] #[.pointer (some ⟨w.heap.size, 0, none⟩), .pointer (some ⟨w1.heap.size + 1 + 1, 0, none⟩), .pointer (some ⟨w1.heap.size, 0, none⟩), .pointer (some ⟨w1.heap.size + 1 + 1 + 1, 0, none⟩)]) ∧ Below wr.heap.size wr w') (ds := [12]) (Qbz 14 0) (by kernel_rfl) rfl rfl ⟨c0d, c1d, c2d, c3d⟩ (fun hHeld => ?_)
     refine Qpu 1 29 ?_ ?_ (Qbz 14 2) (by kernel_rfl) ?_
     refine Qpu 2 30 ?_ ?_ (Qbz 14 6) (by kernel_rfl) ?_
     refine take_ (i := 0) (N := some 28) (v := ?_) (a' := ?_) (Qbz 14 7) rfl rfl (by kernel_rfl) (fun _ _ _ h => h) (Or.inl ⟨by rfl, ?_⟩) hHeld ?_ ?_;rotate_left;(·rintro w' ⟨s0, s1, s2, s3⟩;go_simp;with_reducible rfl);rotate_left;(·simp only [Act.put, Qp1, Qp2, Qp3, i64_w, i32_w];rfl)
     refine take_ (i := 4) (N := some 32) (v := ?_) (a' := ?_) (Qbz 14 23) rfl rfl (by kernel_rfl) (fun _ _ _ h => h) (Or.inl ⟨by rfl, ?_⟩) hHeld ?_ ?_;rotate_left;(·rintro w' ⟨s0, s1, s2, s3⟩;go_simp;with_reducible rfl);rotate_left;(·simp only [Act.put, Qp1, Qp2, Qp3, i64_w, i32_w];rfl)
     refine one_ (i := 3) (N := some 31) (Qbz 14 31) rfl rfl (by kernel_rfl) (by decide) (fun K hK => ?_)
     refine goes_ Tryd.func75 (by kernel_rfl) rfl #[.slice Ag G.length cg, .int .i64 (u : Int), .int .i64 (gone : Int)] (by rfl) rfl rfl (by simp only [List.map_toArray, List.map_cons, List.map_nil]; rfl) ?_
     with_reducible refine (HDG.out _ hHeld).mono ?_
     rintro e w9 ⟨rfl, k0, k1, k2, kB9⟩
     refine ⟨_, rfl, ?_⟩
     refine hK.out _ _ ⟨k0, k1, k2, kB9⟩ (fun hHeld => ?_)
     clear hK K
     refine norm_ (a' := ?_) ?_ ?_
     rotate_left
     ·show Act.put _ (some 31) _ = _
      simp only [Act.put, Qp1, Qp2, Qp3, i64_w, i32_w]
      rfl
     refine Qpu 5 33 ?_ ?_ (Qbz 14 63) (by kernel_rfl) ?_
     refine Qpu 6 34 ?_ ?_ (Qbz 14 127) (by kernel_rfl) ?_
     refine Qpu 8 36 ?_ ?_ (Qbz 14 383) (by kernel_rfl) ?_
     refine Qpu 9 37 ?_ ?_ (Qbz 14 895) (by kernel_rfl) ?_
     refine Qpu 10 38 ?_ ?_ (Qbz 14 1919) (by kernel_rfl) ?_
     refine Qpu 11 39 ?_ ?_ (Qbz 14 3967) (by kernel_rfl) ?_
     refine take_ (i := 7) (N := some 35) (v := ?_) (a' := ?_) (Qbz 14 4095) rfl rfl (by kernel_rfl) (fun _ _ _ h => h) (Or.inl ⟨by rfl, ?_⟩) hHeld ?_ ?_;rotate_left;(·rintro w' ⟨s0, s1, s2, s3⟩;go_simp;with_reducible rfl);rotate_left;(·simp only [Act.put, Qp1, Qp2, Qp3, i64_w, i32_w];rfl)
     refine last_ (i := 12) (N := some 40) (Qbz 14 8191) rfl rfl (by kernel_rfl) (by decide) (fun K hK => ?_)
     refine goesK_ Tryd.func97 (by kernel_rfl) rfl #[.int .i64 (gone' : Int)] #[.pointer (some ⟨w.heap.size, 0, none⟩), .pointer (some ⟨w1.heap.size + 1 + 1, 0, none⟩), .pointer (some ⟨w1.heap.size, 0, none⟩), .pointer (some ⟨w1.heap.size + 1 + 1 + 1, 0, none⟩)] #[.int .i64 (gone' : Int), .pointer (some ⟨w.heap.size, 0, none⟩), .pointer (some ⟨w1.heap.size + 1 + 1, 0, none⟩), .pointer (some ⟨w1.heap.size, 0, none⟩), .pointer (some ⟨w1.heap.size + 1 + 1 + 1, 0, none⟩)] (.tmp 35) (by rfl) rfl rfl (by rfl) (by simp only [List.map_toArray, List.map_cons, List.map_nil]; rfl) rfl ?_
     with_reducible refine (HREC.out _ (HKR.out.low (grown_of_below hHeld.2.2.2 none))).mono ?_
     rintro e w10 ⟨rfl, hK10, hG10⟩
     have HK10 := Aside0.mk hK10
     have HG10 := Aside0.mk hG10
     have HB9 := Aside0.mk kB9
     clear hK10 hG10 kB9
     refine ⟨_, rfl, ?_⟩
     refine hK.out _ _ ?_
     clear hK K
     refine norm_ (a' := ?_) ?_ ?_
     rotate_left
     ·show Act.put _ (some 40) _ = _
      simp only [Act.put, Qp1, Qp2, Qp3, i64_w, i32_w]
      rfl
     refine Qpu 13 41 ?_ ?_ (Qbz 14 16383) (by kernel_rfl) ?_
     refine done_ (by kernel_rfl) ?_
     have hK10 := HK10.out
     have hG510 := grown_then HGR2.out (grown_then (grown_of_below HB9.out (some (w1.heap.size + 1))) HG10.out)
     have hO10 := own_kept HX5.out.2 hG510 (fun b hb e => by have := own_base2 HX5.out.2 b hb; have e2 := Option.some.inj e; omega)
     have HO10 := Aside0.mk hO10
     obtain ⟨i3, hi3, hq0, hq1, hq2⟩ := info_parts info3
     clear hO10 hG510 hK10
     go_wp2_with (at_builtin; refine wpList_append_own_at _ rfl _ _ 22 rfl W0.heap.size 3 i3 (.int .i64 0) 1 8 undS hi3 hq0 hq1 hq2 rfl (by decide) (.slice A6 M.length c6) M.length ((gi M).map (Value.int .i64)) rfl (HO10.out.alloc _) ⟨w10.heap.size, 0, none⟩ 1 1 [.int .i64 (u : Int)] rfl rfl (cell_one_new _ _ _) (by simp [Value.oneCell']) (by unfold maxLen; omega) (by omega) (by have := HK10.out.grown.size; simp; omega) ?_; intro v8 w8 hown8 hg8 _ hfb8; have HOWN8 := Aside0.mk hown8; have HG8 := Aside0.mk hg8; clear hown8 hg8 hfb8)
     go_roundg d
     case measure => omega
     case rel =>
      have hbase := fun j (e : (Value.slice A6 M.length c6).ownBlock = some j) => own_base2 HO10.out j e
      have k1 := HK10.out.low (World.grownBy_alloc w10 (.cells #[.int .i64 (u : Int)] 3) none)
      have k2 := k1.lowR hmB HG8.out (fun j e => hbase j e)
      refine ⟨gone', M ++ [u], rfl, HPC.out, by simp; omega, HOR, HCANT, ⟨by have := HM2.out; simpa using this⟩, ⟨k2, ?_⟩⟩
      have ho := HOWN8.out
      rw [show (M ++ [u]).length = M.length + 1 by simp, show (gi (M ++ [u])).map (Value.int .i64) = (gi M).map (Value.int .i64) ++ [.int .i64 (u : Int)] by simp [gi]]
      exact ho
    ·have hpf : nextP G bs gone u = false := by simpa using hp
     rw [hpf] at hf
     have HF2 : Aside0 ((L.drop (i + 1)).find? (nextP G bs gone) = some x) := ⟨hf⟩
     have hp2 := hpf
     unfold nextP at hp2
     clear hf hp hpf
     by_cases hle : dg G gone u ≤ bs
     ·rw [decide_eq_true hle, Bool.true_and] at hp2
      rw [hp2] at HREC
      generalize gone ||| 2 ^ u = gone' at *
      generalize dg G gone u = dv at *
      have hdec1 : ((dv : Int) ≤ (bs : Int)) = True := eq_true (by omega)
      have hdec2 : decide ((dv : Int) ≤ (bs : Int)) = true := decide_eq_true (by omega)
      clear hp2
      go_wp2
      refine start_ (n := 14) (S := fun w' => w'.cell? ⟨w.heap.size, 0, none⟩ = some (.slice Ag G.length cg) ∧ w'.cell? ⟨w1.heap.size, 0, none⟩ = some (.int .i64 (bs : Int)) ∧ w'.cell? ⟨w1.heap.size + 1 + 1 + 1, 0, none⟩ = some (.func (.func 97) #[] #[.pointer (some ⟨w.heap.size, 0, none⟩), .pointer (some ⟨w1.heap.size + 1 + 1, 0, none⟩), .pointer (some ⟨w1.heap.size, 0, none⟩), .pointer (some ⟨w1.heap.size + 1 + 1 + 1, 0, none⟩)]) ∧ Below wr.heap.size wr w') (ds := [12]) (Qbz 14 0) (by kernel_rfl) rfl rfl ⟨c0d, c1d, c2d, c3d⟩ (fun hHeld => ?_)
      refine Qpu 1 29 ?_ ?_ (Qbz 14 2) (by kernel_rfl) ?_
      refine Qpu 2 30 ?_ ?_ (Qbz 14 6) (by kernel_rfl) ?_
      refine take_ (i := 0) (N := some 28) (v := ?_) (a' := ?_) (Qbz 14 7) rfl rfl (by kernel_rfl) (fun _ _ _ h => h) (Or.inl ⟨by rfl, ?_⟩) hHeld ?_ ?_;rotate_left;(·rintro w' ⟨s0, s1, s2, s3⟩;go_simp;with_reducible rfl);rotate_left;(·simp only [Act.put, Qp1, Qp2, Qp3, i64_w, i32_w];rfl)
      refine take_ (i := 4) (N := some 32) (v := ?_) (a' := ?_) (Qbz 14 23) rfl rfl (by kernel_rfl) (fun _ _ _ h => h) (Or.inl ⟨by rfl, ?_⟩) hHeld ?_ ?_;rotate_left;(·rintro w' ⟨s0, s1, s2, s3⟩;go_simp;with_reducible rfl);rotate_left;(·simp only [Act.put, Qp1, Qp2, Qp3, i64_w, i32_w];rfl)
      refine one_ (i := 3) (N := some 31) (Qbz 14 31) rfl rfl (by kernel_rfl) (by decide) (fun K hK => ?_)
      refine goes_ Tryd.func75 (by kernel_rfl) rfl #[.slice Ag G.length cg, .int .i64 (u : Int), .int .i64 (gone : Int)] (by rfl) rfl rfl (by simp only [List.map_toArray, List.map_cons, List.map_nil]; rfl) ?_
      with_reducible refine (HDG.out _ hHeld).mono ?_
      rintro e w9 ⟨rfl, k0, k1, k2, kB9⟩
      refine ⟨_, rfl, ?_⟩
      refine hK.out _ _ ⟨k0, k1, k2, kB9⟩ (fun hHeld => ?_)
      clear hK K
      refine norm_ (a' := ?_) ?_ ?_
      rotate_left
      ·show Act.put _ (some 31) _ = _
       simp only [Act.put, Qp1, Qp2, Qp3, i64_w, i32_w]
       rfl
      refine Qpu 5 33 ?_ ?_ (Qbz 14 63) (by kernel_rfl) ?_
      refine Qpu 6 34 ?_ ?_ (Qbz 14 127) (by kernel_rfl) ?_
      refine Qpu 8 36 ?_ ?_ (Qbz 14 383) (by kernel_rfl) ?_
      refine Qpu 9 37 ?_ ?_ (Qbz 14 895) (by kernel_rfl) ?_
      refine Qpu 10 38 ?_ ?_ (Qbz 14 1919) (by kernel_rfl) ?_
      refine Qpu 11 39 ?_ ?_ (Qbz 14 3967) (by kernel_rfl) ?_
      refine take_ (i := 7) (N := some 35) (v := ?_) (a' := ?_) (Qbz 14 4095) rfl rfl (by kernel_rfl) (fun _ _ _ h => h) (Or.inl ⟨by rfl, ?_⟩) hHeld ?_ ?_;rotate_left;(·rintro w' ⟨s0, s1, s2, s3⟩;go_simp;with_reducible rfl);rotate_left;(·simp only [Act.put, Qp1, Qp2, Qp3, i64_w, i32_w];rfl)
      refine last_ (i := 12) (N := some 40) (Qbz 14 8191) rfl rfl (by kernel_rfl) (by decide) (fun K hK => ?_)
      refine goesK_ Tryd.func97 (by kernel_rfl) rfl #[.int .i64 (gone' : Int)] #[.pointer (some ⟨w.heap.size, 0, none⟩), .pointer (some ⟨w1.heap.size + 1 + 1, 0, none⟩), .pointer (some ⟨w1.heap.size, 0, none⟩), .pointer (some ⟨w1.heap.size + 1 + 1 + 1, 0, none⟩)] #[.int .i64 (gone' : Int), .pointer (some ⟨w.heap.size, 0, none⟩), .pointer (some ⟨w1.heap.size + 1 + 1, 0, none⟩), .pointer (some ⟨w1.heap.size, 0, none⟩), .pointer (some ⟨w1.heap.size + 1 + 1 + 1, 0, none⟩)] (.tmp 35) (by rfl) rfl rfl (by rfl) (by simp only [List.map_toArray, List.map_cons, List.map_nil]; rfl) rfl ?_
      with_reducible refine (HREC.out _ (HKR.out.low (grown_of_below hHeld.2.2.2 none))).mono ?_
      rintro e w10 ⟨rfl, hK10, hG10⟩
      have HK10 := Aside0.mk hK10
      have HG10 := Aside0.mk hG10
      have HB9 := Aside0.mk kB9
      clear hK10 hG10 kB9
      refine ⟨_, rfl, ?_⟩
      refine hK.out _ _ ?_
      clear hK K
      refine norm_ (a' := ?_) ?_ ?_
      rotate_left
      ·show Act.put _ (some 40) _ = _
       simp only [Act.put, Qp1, Qp2, Qp3, i64_w, i32_w]
       rfl
      refine Qpu 13 41 ?_ ?_ (Qbz 14 16383) (by kernel_rfl) ?_
      refine done_ (by kernel_rfl) ?_
      go_wp2
      go_roundg gi'
      case measure => omega
      case rel => exact ⟨i + 1, by go_num, rfl, rfl, by omega, HF2, ⟨HK10.out, grown_then HGR2.out (grown_then (grown_of_below HB9.out (some (w1.heap.size + 1))) HG10.out)⟩⟩
     ·generalize gone ||| 2 ^ u = gone' at *
      generalize dg G gone u = dv at *
      have hdec1 : ((dv : Int) ≤ (bs : Int)) = False := eq_false (by omega)
      have hdec2 : decide ((dv : Int) ≤ (bs : Int)) = false := decide_eq_false (by omega)
      clear hp2 HREC
      go_wp2
      refine start_ (n := 14) (S := fun w' => w'.cell? ⟨w.heap.size, 0, none⟩ = some (.slice Ag G.length cg) ∧ w'.cell? ⟨w1.heap.size, 0, none⟩ = some (.int .i64 (bs : Int)) ∧ w'.cell? ⟨w1.heap.size + 1 + 1 + 1, 0, none⟩ = some (.func (.func 97) #[] #[.pointer (some ⟨w.heap.size, 0, none⟩), .pointer (some ⟨w1.heap.size + 1 + 1, 0, none⟩), .pointer (some ⟨w1.heap.size, 0, none⟩), .pointer (some ⟨w1.heap.size + 1 + 1 + 1, 0, none⟩)]) ∧ Below wr.heap.size wr w') (ds := []) (Qbz 14 0) (by kernel_rfl) rfl rfl ⟨c0d, c1d, c2d, c3d⟩ (fun hHeld => ?_)
      refine Qpu 1 29 ?_ ?_ (Qbz 14 2) (by kernel_rfl) ?_
      refine Qpu 2 30 ?_ ?_ (Qbz 14 6) (by kernel_rfl) ?_
      refine take_ (i := 0) (N := some 28) (v := ?_) (a' := ?_) (Qbz 14 7) rfl rfl (by kernel_rfl) (fun _ _ _ h => h) (Or.inl ⟨by rfl, ?_⟩) hHeld ?_ ?_;rotate_left;(·rintro w' ⟨s0, s1, s2, s3⟩;go_simp;with_reducible rfl);rotate_left;(·simp only [Act.put, Qp1, Qp2, Qp3, i64_w, i32_w];rfl)
      refine take_ (i := 4) (N := some 32) (v := ?_) (a' := ?_) (Qbz 14 23) rfl rfl (by kernel_rfl) (fun _ _ _ h => h) (Or.inl ⟨by rfl, ?_⟩) hHeld ?_ ?_;rotate_left;(·rintro w' ⟨s0, s1, s2, s3⟩;go_simp;with_reducible rfl);rotate_left;(·simp only [Act.put, Qp1, Qp2, Qp3, i64_w, i32_w];rfl)
      refine one_ (i := 3) (N := some 31) (Qbz 14 31) rfl rfl (by kernel_rfl) (by decide) (fun K hK => ?_)
      refine goes_ Tryd.func75 (by kernel_rfl) rfl #[.slice Ag G.length cg, .int .i64 (u : Int), .int .i64 (gone : Int)] (by rfl) rfl rfl (by simp only [List.map_toArray, List.map_cons, List.map_nil]; rfl) ?_
      with_reducible refine (HDG.out _ hHeld).mono ?_
      rintro e w9 ⟨rfl, k0, k1, k2, kB9⟩
      refine ⟨_, rfl, ?_⟩
      refine hK.out _ _ ⟨k0, k1, k2, kB9⟩ (fun hHeld => ?_)
      clear hK K
      refine norm_ (a' := ?_) ?_ ?_
      rotate_left
      ·show Act.put _ (some 31) _ = _
       simp only [Act.put, Qp1, Qp2, Qp3, i64_w, i32_w]
       rfl
      refine Qpu 5 33 ?_ ?_ (Qbz 14 63) (by kernel_rfl) ?_
      refine Qpu 6 34 ?_ ?_ (Qbz 14 127) (by kernel_rfl) ?_
      refine Qpn 7 35 ?_ (Qbz 14 255) (by kernel_rfl) ?_
      refine Qpn 8 36 ?_ (Qbz 14 511) (by kernel_rfl) ?_
      refine Qpn 9 37 ?_ (Qbz 14 1023) (by kernel_rfl) ?_
      refine Qpn 10 38 ?_ (Qbz 14 2047) (by kernel_rfl) ?_
      refine Qpn 11 39 ?_ (Qbz 14 4095) (by kernel_rfl) ?_
      refine Qpn 12 40 ?_ (Qbz 14 8191) (by kernel_rfl) ?_
      refine Qpu 13 41 ?_ ?_ (Qbz 14 16383) (by kernel_rfl) ?_
      refine done_ (by kernel_rfl) ?_
      go_wp2
      go_roundg gi'
      case measure => omega
      case rel => exact ⟨i + 1, by go_num, rfl, rfl, by omega, HF2, ⟨HKR.out.low (grown_of_below hHeld.2.2.2 none), grown_then HGR2.out (grown_of_below hHeld.2.2.2 (some (w1.heap.size + 1)))⟩⟩
theorem gi_toNatO (G : List Nat) : (gi G).map Int.toNat = G := by
 unfold gi
 rw [List.map_map]
 conv => rhs; rw [← List.map_id G]
 exact List.map_congr_left fun x _ => by simp
open Classical in
noncomputable def widthN (G : List Nat) : Nat := if h : ∃ W, IsWidth G W then Classical.choose h else 0
theorem widthN_is {m : Nat} {G : List Nat} (hG : Gr m G) : IsWidth G (widthN G) := by
 obtain ⟨W, hW, _⟩ := width_exists hG
 have h : ∃ W, IsWidth G W := ⟨W, hW⟩
 unfold widthN
 rw [dif_pos h]
 exact Classical.choose_spec h
noncomputable def width_town_order.f (g : List Int) : Option (List Int) :=
 if chk 9 g = true then some (gi (ordL (g.map Int.toNat) (widthN (g.map Int.toNat)))) else none
theorem width_town_order.calls (A0 : Option Addr) (c0 : Nat) (l0 : List Int) (r1 : List Int) (w : World) (hGL : GL w) (hr0 : Kd.C (Kd.int .i64) w A0 l0.length l0) (hc0 : l0.length ≤ c0) (h : width_town_order.f l0 = some r1) :
  Calls Tryd.prog 73 #[.slice A0 l0.length c0] w fun e w' => ∃ v, e = .returned v ∧ Kd.R (Kd.int .i64) 3 w' w.heap.size (fun _ => True) v r1 ∧ Below w.heap.size w w' := by
 unfold width_town_order.f at h
 by_cases hc : chk 9 l0 = true
 ·rw [if_pos hc] at h
  obtain ⟨G, rfl, hG⟩ := (chk_iff 9 (by omega) _).1 hc
  rw [gi_toNatO] at h
  have h := Option.some.inj h
  subst h
  have := order_calls A0 c0 G hG (by rw [gi_length] at hc0; exact hc0) (widthN G) (widthN_is hG) w hGL hr0
  rw [gi_length]
  exact this
 ·rw [if_neg hc] at h; cases h
noncomputable abbrev pI : Value → Option (DataW Unit × List MemPlace) := plainElem Tryd.prog 3
theorem wf3 (z : Nat) (h : z < 2 ^ 62) : (Lit.int .i64 (z : Int)).wf = true := by
 have h1 : (IntKind.i64.min : Int) = -9223372036854775808 := by decide
 have h2 : (IntKind.i64.max : Int) = 9223372036854775807 := by decide
 simp only [Lit.wf, decide_eq_true_eq, Bool.and_eq_true, h1, h2]
 omega
theorem pI_mk (z : Nat) (h : z < 2 ^ 62) : pI (.int .i64 (z : Int)) = some (.lit (.int .i64 (z : Int)), []) := plainElem_int und3 (wf3 z h)
theorem Tab.step {p : Nat → Prop} {f : Nat → Nat} {D : DataW Unit} (h : Tab p f D) {x c : Int} (hat : ∀ zd, D.atKey (.int .i64 x) zd = .lit (.int .i64 c)) : ∃ g, p g ∧ x = (g : Int) ∧ c = (f g : Int) := by
 obtain ⟨g, hg, e⟩ := (h.keys _).1 (Maps.has_true_of_atKey hat)
 injection e with _ e
 subst e
 have := h.vals g hg
 rw [hat] at this
 injection this with this
 injection this with _ this
 exact ⟨g, hg, rfl, this⟩
def outP (G : List Nat) (K S v : Nat) (cs : List Nat) (left : Lit → Bool) (y : Nat) : Prop := ∃ c, c ∈ cs ∧ left (kI c) = false ∧ ∃ k, k < K ∧ okB G S c v k = true ∧ y = putc c v k
def outQ (G : List Nat) (K S v : Nat) (cs : List Nat) (left : Lit → Bool) (c0 kk : Nat) (y : Nat) : Prop := outP G K S v cs left y ∨ ∃ k, k < kk ∧ okB G S c0 v k = true ∧ y = putc c0 v k
theorem put_inj {c d v k l : Nat} (hk : k < 16) (hl : l < 16) (hc : col c v = 0) (hd : col d v = 0) (h : putc c v k = putc d v l) : c = d ∧ k = l := by
 refine ⟨eq_col fun u => ?_, ?_⟩
 ·by_cases e : u = v
  ·rw [e, hc, hd]
  ·rw [← col_put_other hk e, h, col_put_other hl e]
 ·rw [← col_put hk hc, h, col_put hl hd]
theorem outQ_start {G : List Nat} {K S v : Nat} {cs : List Nat} {left : Lit → Bool} {c0 : Nat} (y : Nat) : outP G K S v cs left y ↔ outQ G K S v cs left c0 0 y := ⟨.inl, fun h => h.elim id fun ⟨k, hk, _⟩ => absurd hk (by omega)⟩
theorem outQ_end {G : List Nat} {K S v : Nat} {cs : List Nat} {left : Lit → Bool} {c0 : Nat} (hm : c0 ∈ cs) (y : Nat) : outQ G K S v cs left c0 K y ↔ outP G K S v cs (fun z => left z && !z.sameKey (kI c0)) y := by
 constructor
 ·rintro (⟨c, h1, h2, h3⟩ | h)
  ·exact ⟨c, h1, show (left (kI c) && !(kI c).sameKey (kI c0)) = false by rw [h2]; rfl, h3⟩
  ·exact ⟨c0, hm, by simp [Lit.sameKey], h⟩
 ·rintro ⟨c, h1, h2, h3⟩
  by_cases e : c = c0
  ·exact .inr (e ▸ h3)
  ·have : (kI c).sameKey (kI c0) = false := Maps.sameKey_ne fun h => e (kI_inj h)
   have h2 : (left (kI c) && !(kI c).sameKey (kI c0)) = false := h2
   rw [this] at h2
   exact .inl ⟨c, h1, by simpa using h2, h3⟩
structure GrS (w0 W : World) (mX mB r N : Nat) (D : DataW Unit) (left : Lit → Bool) (cnt : Nat) (p : Nat → Prop) : Prop where
 rng : W.ranges Tryd.prog 3 pI mX r N D left cnt
 out : ∃ E, W.ownsMap Tryd.prog 3 pI mB N E ∧ Tab p (fun _ => 1) E
 below : Below w0.heap.size w0 W
section
variable {w0 W V : World} {mX mB r N : Nat} {D : DataW Unit} {left : Lit → Bool} {cnt : Nat} {p q : Nat → Prop}
theorem GrS.kept (h : GrS w0 W mX mB r N D left cnt p) (hb : Below W.heap.size W V) : GrS w0 V mX mB r N D left cnt p := by
 obtain ⟨h1, ⟨E, h2, h3⟩, h4⟩ := h
 exact ⟨h1.kept (grown_of_below hb none) (by simp) (by simp), ⟨E, h2.kept (grown_of_below hb none) (by simp), h3⟩, below_step h4 hb⟩
theorem GrS.ext (h : GrS w0 W mX mB r N D left cnt p) (hp : ∀ x, p x ↔ q x) : GrS w0 W mX mB r N D left cnt q := by
 obtain ⟨h1, ⟨E, h2, h3⟩, h4⟩ := h
 exact ⟨h1, ⟨E, h2, h3.ext hp fun _ _ => rfl⟩, h4⟩
end
theorem nodes_callsC {x : Nat} (hx : x < 512) (w : World) (hGL : GL w) :
  Calls Tryd.prog 98 #[.int .i64 (x : Int)] w fun e w' => ∃ A c, e = .returned (.slice A (els x 9).length c) ∧ (els x 9).length ≤ c ∧ Kd.C (Kd.int .i64) w' A (els x 9).length (gi (els x 9)) ∧ Below w.heap.size w w' := by
 obtain ⟨K, hK⟩ := nodes_ev x hx
 refine (width_nodes.calls K (x : Int) _ w hGL (hK K (Nat.le_refl _))).mono ?_
 rintro e w' ⟨u, rfl, hu, hb⟩
 obtain ⟨A, c, eu, hc, hC⟩ := Kd.R_reads hu
 subst eu
 rw [gi_length] at *
 exact ⟨A, c, rfl, hc, hC, hb⟩
theorem outQ_no {G : List Nat} {K S v : Nat} {cs : List Nat} {left : Lit → Bool} {c0 kk : Nat} (h : okB G S c0 v kk = false) (y : Nat) : outQ G K S v cs left c0 kk y ↔ outQ G K S v cs left c0 (kk + 1) y := by
 constructor
 ·rintro (h1 | ⟨k, h1, h2⟩)
  ·exact .inl h1
  ·exact .inr ⟨k, by omega, h2⟩
 ·rintro (h1 | ⟨k, h1, h2, h3⟩)
  ·exact .inl h1
  ·by_cases e : k = kk
   ·rw [e, h] at h2; cases h2
   ·exact .inr ⟨k, by omega, h2, h3⟩
theorem outQ_yes {G : List Nat} {K S v : Nat} {cs : List Nat} {left : Lit → Bool} {c0 kk : Nat} (h : okB G S c0 v kk = true) (y : Nat) : (outQ G K S v cs left c0 kk y ∨ y = putc c0 v kk) ↔ outQ G K S v cs left c0 (kk + 1) y := by
 constructor
 ·rintro ((h1 | ⟨k, h1, h2⟩) | h1)
  ·exact .inl h1
  ·exact .inr ⟨k, by omega, h2⟩
  ·exact .inr ⟨kk, by omega, h, h1⟩
 ·rintro (h1 | ⟨k, h1, h2, h3⟩)
  ·exact .inl (.inl h1)
  ·by_cases e : k = kk
   ·rw [e] at h3; exact .inr h3
   ·exact .inl (.inr ⟨k, by omega, h2, h3⟩)
theorem outQ_new {G : List Nat} {K S v : Nat} {cs : List Nat} {left : Lit → Bool} {c0 kk : Nat} (hK : K ≤ 16) (hcs : ∀ c ∈ cs, c < 2 ^ 36 ∧ col c v = 0) (hc0 : c0 ∈ cs) (hl : left (kI c0) = true) (hkk : kk < K) : ¬ outQ G K S v cs left c0 kk (putc c0 v kk) := by
 rintro (⟨c, h1, h2, k, h3, _, h4⟩ | ⟨k, h1, _, h2⟩)
 ·have := (put_inj (by omega) (by omega) (hcs c0 hc0).2 (hcs c h1).2 h4).1
  rw [this, h2] at hl; cases hl
 ·have := (put_inj (by omega) (by omega) (hcs c0 hc0).2 (hcs c0 hc0).2 h2).2
  omega
theorem any_ok {G : List Nat} {S c v k : Nat} : (gi (els (G.getD v 0 &&& S) 9)).any (fun x => ((col c x.toNat : Nat) : Int) == (k : Int)) = !okB G S c v k := by
 unfold okB gi
 rw [List.any_map]
 generalize els (G.getD v 0 &&& S) 9 = L
 induction L with
 | nil => rfl
 | cons a L ih =>
  rw [List.any_cons, List.all_cons, ih]
  simp only [Function.comp, Int.toNat_natCast]
  by_cases e : col c a = k
  ·simp [e]
  ·have h1 : (((col c a : Nat) : Int) == (k : Int)) = false := by simp; omega
   rw [h1]
   simp [e]
theorem grow_below {w w1 : World} (h : w.grownBy w1 none) : Below w.heap.size w w1 := ⟨h.os, h.tape, h.output, h.size, fun k hk => h.block k hk (by simp)⟩
theorem below_grow {w0 w w1 : World} {b : Nat} (hb : Below w0.heap.size w0 w) (h : w.grownBy w1 (some b)) (hle : w0.heap.size ≤ b) : Below w0.heap.size w0 w1 := ⟨h.os.trans hb.os, h.tape.trans hb.tape, h.output.trans hb.output, Nat.le_trans hb.size h.size, fun k hk => (h.block k (Nat.lt_of_lt_of_le hk hb.size) (fun e => by have := Option.some.inj e; omega)).trans (hb.block k hk)⟩
theorem w1C : wrap64 1 = ((1 : Nat) : Int) := (w64_small 1 (by omega) (by omega)).trans rfl
theorem outP_lt {G : List Nat} {K S v : Nat} {cs : List Nat} {left : Lit → Bool} (hK : K ≤ 16) (hv : v < 9) (hcs : ∀ c ∈ cs, c < 2 ^ 36 ∧ col c v = 0) {y : Nat} (h : outP G K S v cs left y) : y < 2 ^ 36 := by
 obtain ⟨c, h1, _, k, h3, _, rfl⟩ := h
 exact putc36 (hcs c h1).1 hv (by omega)
theorem outQ_lt {G : List Nat} {K S v : Nat} {cs : List Nat} {left : Lit → Bool} {c0 kk : Nat} (hK : K ≤ 16) (hv : v < 9) (hcs : ∀ c ∈ cs, c < 2 ^ 36 ∧ col c v = 0) (hc0 : c0 ∈ cs) (hk : kk ≤ K) {y : Nat} (h : outQ G K S v cs left c0 kk y) : y < 2 ^ 36 := by
 rcases h with h | ⟨k, h3, _, rfl⟩
 ·exact outP_lt hK hv hcs h
 ·exact putc36 (hcs c0 hc0).1 hv (by omega)
theorem cells_ne_map {W : World} {a b n : Nat} {cs : Array Value} {t : TypeId} {D : DataW Unit} (h : W.heap[a]? = some (.cells cs t (0, 0))) (hm : W.ownsMap Tryd.prog 3 pI b n D) : a ≠ b := by
 obtain ⟨es, clock, hb, _⟩ := hm
 intro e
 rw [e, hb] at h
 cases h
theorem shlC {k v : Nat} (hk : k < 16) (hv : v < 9) : ∃ J4 J : Int, (wrap64 (4 * (v : Int)) = J4 ∧ IntKind.i64.wrap (4 * (v : Int)) = J4) ∧ 0 ≤ J4 ∧ shl .i64 (k : Int) J4 = J ∧ (wrap64 ((k : Int) * 2 ^ min J4.toNat 64) = J ∧ IntKind.i64.wrap ((k : Int) * 2 ^ min J4.toNat 64) = J) ∧ (wrap64 ((k : Int) * 2 ^ J4.toNat) = J ∧ IntKind.i64.wrap ((k : Int) * 2 ^ J4.toNat) = J) ∧ J = ((k <<< (4 * v) : Nat) : Int) := by
 have h1 : wrap64 (4 * (v : Int)) = ((4 * v : Nat) : Int) := by rw [w64_small _ (by omega) (by omega)]; omega
 have h2 := shl4 hk hv
 have h3 := h2
 unfold shl at h3
 have h4 := h3
 rw [Nat.min_eq_left (by rw [Int.toNat_natCast]; show 4 * v ≤ 64; omega)] at h4
 exact ⟨_, _, ⟨h1, (i64_w _).trans h1⟩, by omega, h2, ⟨(i64_w _).symm.trans h3, h3⟩, ⟨(i64_w _).symm.trans h4, h4⟩, rfl⟩
set_option maxHeartbeats 8000000 in
set_option maxRecDepth 100000 in
theorem grown_calls {G : List Nat} (hG : Gr 9 G) {K S v : Nat} (hK : K ≤ 6) (hS : S < 512) (hv : v < G.length) (Ag : Option Addr) (cg : Nat) (hcg : G.length ≤ cg) (mX N : Nat) (hN : N < maxLen) (h36 : 2 ^ 36 ≤ N) (cs : List Nat) (hcs : ∀ c ∈ cs, c < 2 ^ 36 ∧ col c v = 0)
  (D : DataW Unit) (w : World) (hGL : GL w) (hrg : Kd.C (Kd.int .i64) w Ag (gi G).length (gi G)) (hown : w.ownsMap Tryd.prog 3 pI mX N D) (hT : Tab (fun g => g ∈ cs) (fun _ => 1) D) :
  Calls Tryd.prog 105 #[.slice Ag G.length cg, .map (some mX), .int .i64 (v : Int), .int .i64 (S : Int), .int .i64 (K : Int)] w fun e w' => ∃ mB E, e = .returned (.map (some mB)) ∧ w.heap.size ≤ mB ∧ w'.ownsMap Tryd.prog 3 pI mB N E ∧ Tab (outP G K S v cs (fun _ => false)) (fun _ => 1) E ∧ Below w.heap.size w w' := by
 have hn := hG.most
 obtain ⟨x, hx⟩ : ∃ x, x = G.getD v 0 &&& S := ⟨_, rfl⟩
 have hx5 : x < 512 := by rw [hx]; exact Nat.lt_of_le_of_lt Nat.and_le_right hS
 have hrow : G.getD v 0 < 512 := smallO hn (hG.row v)
 have hand : Go.bits .and .i64 ((G.getD v 0 : Nat) : Int) (S : Int) = (x : Int) := by rw [hx]; exact b_and _ _ (by omega) (by omega)
 have HND : Aside0 (∀ W, Below w.heap.size w W → Calls Tryd.prog 98 #[.int .i64 (x : Int)] W fun e w' => ∃ A c, e = .returned (.slice A (els x 9).length c) ∧ Kd.C (Kd.int .i64) w' A (els x 9).length (gi (els x 9)) ∧ Below W.heap.size W w') := ⟨fun W hW => (nodes_callsC hx5 W (GL_below hGL hW)).mono fun e w' ⟨A, c, h1, _, h3, h4⟩ => ⟨A, c, h1, h3, h4⟩⟩
 have HCT : Aside0 (∀ (W : World) A c cB kB g k, g < 2 ^ 36 → Kd.C (Kd.int .i64) W A (els x 9).length (gi (els x 9)) → W.cell? ⟨cB, 0, none⟩ = some (.int .i64 ((g : Nat) : Int)) → W.cell? ⟨kB, 0, none⟩ = some (.int .i64 ((k : Nat) : Int)) → Calls Tryd.prog 54 #[.slice A (els x 9).length c, .func (.func 118) #[] #[.pointer (some ⟨cB, 0, none⟩), .pointer (some ⟨kB, 0, none⟩)]] W fun e w' => e = .returned (.bool (!okB G S g v k)) ∧ Below W.heap.size W w') := ⟨by
  intro W A c cB kB g k hg hC h0 h1
  have := contains_grown A c (gi (els x 9)) (fun y => ((col g y.toNat : Nat) : Int) == (k : Int)) cB kB W (by rw [gi_length]; exact hC) (by rw [gi_length, els_length]; have := pc_le x 9; omega) (fun V hV y hy => by
   obtain ⟨u, hu, rfl⟩ := List.mem_map.1 hy
   have := grown1 cB kB g k u hg (mem_els.1 hu).1 V ((hV.cell (World.block_lt_of_cell? W _ h0)).trans h0) ((hV.cell (World.block_lt_of_cell? W _ h1)).trans h1)
   rw [Int.toNat_natCast]
   exact this)
  rw [gi_length, hx, any_ok, ← hx] at this
  exact this⟩
 have HROW : Aside0 (∀ W, Below w.heap.size w W → ∃ ad, Ag = some ad ∧ W.cell? (ad.add v) = some (.int .i64 ((G.getD v 0 : Nat) : Int))) := ⟨fun W hW => by
  obtain ⟨ad, e1, hgx⟩ := Kd.at_int (Kd.C_below hrg hW) (v : Int) (by omega) (by rw [gi_length]; omega)
  rw [rd_gi, Int.toNat_natCast] at hgx
  exact ⟨ad, e1, hgx⟩⟩
 have HNX : Aside0 (mX < w.heap.size) := ⟨hown.lt⟩
 have hst : ∀ y, False ↔ outP G K S v cs (Maps.has D) y := fun y => ⟨fun h => h.elim, fun ⟨c, h1, h2, _⟩ => by
  have := (hT.has c).2 h1
  rw [h2] at this
  cases this⟩
 obtain ⟨ad, e1, _⟩ := HROW.out w (Below.refl _ _)
 subst e1
 obtain ⟨rv, hrv⟩ : ∃ rv : Nat, rv = G.getD v 0 := ⟨_, rfl⟩
 rw [← hrv] at HROW hand hrow
 have hvl : ((v : Int) < (G.length : Int)) = True := eq_true (by omega)
 have hv0 : (0 : Int) ≤ (v : Int) := by omega
 obtain ⟨ln, hln⟩ : ∃ ln : Nat, ln = (els x 9).length := ⟨_, rfl⟩
 rw [← hln] at HND HCT
 have HT := Aside0.mk hT
 have HCS := Aside0.mk hcs
 have HOWN := Aside0.mk hown
 have HGL := Aside0.mk hGL
 have HST := Aside0.mk hst
 have H36 := Aside0.mk h36
 have hlen : G.length = (G.length : Nat) := rfl
 generalize hGl : G.length = n at *
 have HGl := Aside0.mk hGl
 clear hT hcs hown hGL hst hrg hG hx hx5 hS hGl hlen hrv hln h36
 go_enter Tryd.func105, Tryd.ntmps105
 go_wp2_with (at_range; refine wpList_range_own _ rfl _ _ rfl 3 3 law3 undT pI mX N D rfl (HOWN.out.alloc _) ?_; intro w1 hrg1 hg1 hs1)
 go_frame
 have hA1 : (w.alloc (Obj.map #[] 0)).heap.size = w.heap.size + 1 := by simp
 rw [hA1] at hrg1 hs1 ⊢
 have HS0 : Aside0 (GrS w w1 mX w.heap.size (w.heap.size + 1) N D (Maps.has D) (Maps.size D) (outP G K S v cs (Maps.has D))) := ⟨⟨hrg1, ⟨_, ((World.ownsMap_made w Tryd.prog 3 pI).kept hg1 (by simp)).mono (Nat.zero_le _), (Tab.nil (fun _ => 1)).ext HST.out (fun _ h => h.elim)⟩, below_step (below_alloc (Below.refl _ _) _) (grow_below hg1)⟩⟩
 clear hrg1 hg1 hs1 hA1 HST HOWN
 go_loopg [13] (Maps.size D) (fun kq v13 w' => ∃ left, Aside0 (GrS w w' mX w.heap.size (w.heap.size + 1) N D left kq (outP G K S v cs left)))
 case atStart => exact ⟨_, HS0⟩
 case round =>
  clear HS0
  obtain ⟨left, HR⟩ := hrel
  have hrg := HR.out.rng
  go_wp2_with (at_next; refine wpList_next_ranges_ii _ rfl _ rfl 3 3 .i64 .i64 law3 und3 und3 mX (w.heap.size + 1) N D left gk rfl hrg ?_ ?_)
  ·intro hc0 hl0
   clear hrg
   have HR2 := Aside0.mk (HR.out.ext (q := outP G K S v cs (fun _ => false)) fun y => by
    have e : left = fun _ => false := funext hl0
    rw [e])
   clear hl0 HR
   go_wp2
   go_ret
   obtain ⟨E, h1, h2⟩ := HR2.out.out
   exact ⟨_, E, rfl, Nat.le_refl _, h1, h2, HR2.out.below⟩
  ·intro x0 c0 w2 cnt2 hwx hwc hlx hat hrg2 hlt hg2 hs2 hen
   obtain ⟨g, hgc, rfl, rfl⟩ := HT.out.step hat
   have HR2 : Aside0 (GrS w w2 mX w.heap.size (w.heap.size + 1) N D (fun z => left z && !z.sameKey (kI g)) cnt2 (outP G K S v cs left)) := ⟨⟨hrg2, by
    obtain ⟨E, h1, h2⟩ := HR.out.out
    exact ⟨E, h1.kept hg2 (by simp), h2⟩, below_grow HR.out.below hg2 (by omega)⟩⟩
   have HGC := Aside0.mk hgc
   have HLX := Aside0.mk hlx
   clear hrg hrg2 hat hwx hwc hg2 HR hgc hlx
   go_wp2
   obtain ⟨w3, hw3⟩ : ∃ W : World, W = w2.alloc (Obj.cells #[Value.int IntKind.i64 (g : Int)] 3) := ⟨_, rfl⟩
   rw [← hw3]
   have hb3 : Below w2.heap.size w2 w3 := by rw [hw3]; exact below_alloc (Below.refl _ _) _
   have HBLK : Aside0 (w3.heap[wr.heap.size]? = some (.cells #[.int .i64 (g : Int)] 3 (0, 0))) := ⟨by rw [hw3, ← hs2]; exact Array.getElem?_push_size⟩
   have HR3 := Aside0.mk ((HR2.out.kept hb3).ext (outQ_start (c0 := g)))
   have HLE : Aside0 (w.heap.size ≤ wr.heap.size) := ⟨by rw [← hs2]; exact HR2.out.below.size⟩
   clear hb3 hw3 HR2 hs2 hen
   generalize wr.heap.size = cB at *
   obtain ⟨gk0, rfl⟩ : ∃ gk0, gk0 = gk := ⟨_, rfl⟩
   obtain ⟨wo, rfl⟩ : ∃ wo : World, wo = wr := ⟨_, rfl⟩
   go_loopg [24] K (fun kq v24 w' => ∃ kk : Nat, v24 = .int .i64 (kk : Int) ∧ kk + kq = K ∧ Aside0 (GrS w w' mX w.heap.size (w.heap.size + 1) N D (fun z => left z && !z.sameKey (kI g)) cnt2 (outQ G K S v cs left g kk)) ∧ Aside0 (w'.heap[cB]? = some (.cells #[.int .i64 (g : Int)] 3 (0, 0))))
   case atStart => exact ⟨0, rfl, by omega, HR3, HBLK⟩
   case round =>
    clear HR3 HBLK
    obtain ⟨kk, rfl, hkq, HQ, HB4⟩ := hrel
    by_cases hkk : kk < K
    ·have hi1 : ((kk : Int) < (K : Int)) = True := eq_true (by omega)
     have hi2 : decide ((kk : Int) < (K : Int)) = true := decide_eq_true (by omega)
     cases gk with
     | zero => omega
     | succ gi' =>
     have hb5 : Below w.heap.size w (wr.alloc (Obj.cells #[Value.int IntKind.i64 (kk : Int)] 3)) := below_alloc HQ.out.below _
     have hcB : cB < wr.heap.size := (Array.getElem?_eq_some_iff.1 HB4.out).1
     obtain ⟨_, hea, hcell⟩ := HROW.out _ hb5
     obtain rfl := Option.some.inj hea
     have HB5 := Aside0.mk hb5
     have HQ5 := Aside0.mk (HQ.out.kept (below_alloc (Below.refl wr.heap.size wr) (Obj.cells #[Value.int IntKind.i64 (kk : Int)] 3)))
     have HC5 : Aside0 ((wr.alloc (Obj.cells #[Value.int IntKind.i64 (kk : Int)] 3)).heap[cB]? = some (.cells #[.int .i64 (g : Int)] 3 (0, 0))) := ⟨blk_alloc HB4.out _⟩
     have HK5 : Aside0 ((wr.alloc (Obj.cells #[Value.int IntKind.i64 (kk : Int)] 3)).heap[wr.heap.size]? = some (.cells #[.int .i64 (kk : Int)] 3 (0, 0))) := ⟨Array.getElem?_push_size⟩
     clear hb5 hea HQ HB4
     have HND5 : Aside0 (Calls Tryd.prog 98 #[.int .i64 (x : Int)] (wr.alloc (Obj.cells #[Value.int IntKind.i64 (kk : Int)] 3)) fun e w' => ∃ A c, e = .returned (.slice A ln c) ∧ Kd.C (Kd.int .i64) w' A ln (gi (els x 9)) ∧ Below (wr.alloc (Obj.cells #[Value.int IntKind.i64 (kk : Int)] 3)).heap.size (wr.alloc (Obj.cells #[Value.int IntKind.i64 (kk : Int)] 3)) w') := ⟨HND.out _ HB5.out⟩
     by_cases ho : okB G S g v kk = true
     ·have hg36 := (HCS.out g HGC.out).1
      have HCT6 : Aside0 (∀ (W : World) A c, Kd.C (Kd.int .i64) W A ln (gi (els x 9)) → W.heap[cB]? = some (.cells #[.int .i64 (g : Int)] 3 (0, 0)) → W.heap[wr.heap.size]? = some (.cells #[.int .i64 (kk : Int)] 3 (0, 0)) → Calls Tryd.prog 54 #[.slice A ln c, .func (.func 118) #[] #[.pointer (some ⟨cB, 0, none⟩), .pointer (some ⟨wr.heap.size, 0, none⟩)]] W fun e w' => e = .returned (.bool false) ∧ Below W.heap.size W w') := ⟨fun W A c hC h0 h1 => by
       have := HCT.out W A c cB wr.heap.size g kk hg36 hC ((blk_cell h0 0).trans rfl) ((blk_cell h1 0).trans rfl)
       rw [ho] at this
       exact this⟩
      have HO := Aside0.mk ho
      clear ho hg36
      go_wp2_with (first | (go_at_call 98; refine HND5.out.mono ?_; rintro e w6 ⟨A6, c6, rfl, hC6, hb6⟩; have HC6 := Aside0.mk hC6; have HB6 := Aside0.mk hb6; clear hC6 hb6) | (go_at_call 54; refine (HCT6.out _ _ _ HC6.out (blk_below HC5.out HB6.out) (blk_below HK5.out HB6.out)).mono ?_; rintro e w7 ⟨rfl, hb7⟩; have HB7 := Aside0.mk (below_step HB6.out hb7); clear hb7))
      obtain ⟨E, hE1, hE2⟩ := (HQ5.out.kept HB7.out).out
      obtain ⟨J4, J, ⟨hJ1, hJ1'⟩, hJ2, hJ3, ⟨hJ4, hJ4'⟩, ⟨hJ5, hJ5'⟩, hJ6⟩ := shlC (k := kk) (v := v) (by omega) (by omega)
      have hg36 := (HCS.out g HGC.out).1
      have hor : Go.bits .or .i64 (g : Int) J = ((putc g v kk : Nat) : Int) := by rw [hJ6]; exact or_put hg36 (by omega) (by omega)
      have HY36 : Aside0 (putc g v kk < 2 ^ 36) := ⟨putc36 hg36 (by omega) (by omega)⟩
      have HNEW : Aside0 (¬ outQ G K S v cs left g kk (putc g v kk)) := ⟨outQ_new (by omega) HCS.out HGC.out HLX.out hkk⟩
      obtain ⟨y, hy⟩ : ∃ y, y = putc g v kk := ⟨_, rfl⟩
      have HYE := Aside0.mk hy
      rw [← hy] at hor HY36 HNEW
      have hky : keyOf Tryd.prog 3 (.int .i64 (y : Int)) = some (kI y) := key3 y (p36 HY36.out)
      obtain ⟨z, hz1, hz2, _⟩ := hE1.lookup_int law3 undT und3 (zero3 w7) hky
      have hz0 : z = 0 := by
       rcases hE2.look y hz2 with ⟨h, _⟩ | ⟨_, h⟩
       ·exact absurd h HNEW.out
       ·exact h
      subst hz0
      have f0d : w7.drew.cell? ⟨cB, 0, none⟩ = some (.int .i64 (g : Int)) := (blk_cell (blk_below HC5.out HB7.out) 0).trans rfl
      have f1d : w7.drew.cell? ⟨wr.heap.size, 0, none⟩ = some (.int .i64 (kk : Int)) := (blk_cell (blk_below HK5.out HB7.out) 0).trans rfl
      have fEd : w7.drew.ownsMap Tryd.prog 3 pI w.heap.size N E := hE1.drew
      obtain ⟨z, hz1', hz2', _⟩ := fEd.lookup_int law3 undT und3 (zero3 w7.drew) hky
      have hz0 : z = 0 := by
       rcases hE2.look y hz2' with ⟨h, _⟩ | ⟨_, h⟩
       ·exact absurd h HNEW.out
       ·exact h
      subst hz0
      have fbd : Below w7.heap.size w7 w7.drew := below_drew (Below.refl _ _)
      have HE2 := Aside0.mk hE2
      clear hE1 hE2 hz1 hz2 hz2' hJ6 hy hg36
      refine start_ (n := 11) (S := fun w' => w'.cell? ⟨cB, 0, none⟩ = some (.int .i64 (g : Int)) ∧ w'.cell? ⟨wr.heap.size, 0, none⟩ = some (.int .i64 (kk : Int)) ∧ (Instr.lookup 86 (.map (some w.heap.size)) (.int .i64 (y : Int)) false).run Tryd.prog w' = .ok (.int .i64 0) w' ∧ w'.ownsMap Tryd.prog 3 pI w.heap.size N E ∧ Below w7.heap.size w7 w') (ds := [10]) (Qbz 11 0) (by kernel_rfl) rfl rfl ⟨f0d, f1d, hz1', fEd, fbd⟩ (fun hHeld => ?_)
      refine Qpu 0 37 ?_ ?_ (Qbz 11 1) (by kernel_rfl) ?_
      refine Qpu 3 40 ?_ ?_ (Qbz 11 9) (by kernel_rfl) ?_
      refine Qpu 4 41 ?_ ?_ (Qbz 11 25) (by kernel_rfl) ?_
      refine Qpu 8 45 ?_ ?_ (Qbz 11 281) (by kernel_rfl) ?_
      refine take_ (i := 1) (N := some 38) (v := ?_) (a' := ?_) (Qbz 11 283) rfl rfl (by kernel_rfl) (fun _ _ _ h => h) (Or.inl ⟨by rfl, ?_⟩) hHeld ?_ ?_;rotate_left;(·rintro w' ⟨s0, s1, s2, s3, s4⟩;go_simp;with_reducible rfl);rotate_left;(·simp only [Act.put, Qp1, Qp2, Qp3, i64_w, i32_w];rfl)
      refine take_ (i := 2) (N := some 39) (v := ?_) (a' := ?_) (Qbz 11 287) rfl rfl (by kernel_rfl) (fun _ _ _ h => h) (Or.inl ⟨by rfl, ?_⟩) hHeld ?_ ?_;rotate_left;(·rintro w' ⟨s0, s1, s2, s3, s4⟩;go_simp;with_reducible rfl);rotate_left;(·simp only [Act.put, Qp1, Qp2, Qp3, i64_w, i32_w];rfl)
      refine Qpu 5 42 ?_ ?_ (Qbz 11 319) (by kernel_rfl) ?_
      refine Qpu 6 43 ?_ ?_ (Qbz 11 383) (by kernel_rfl) ?_
      refine take_ (i := 7) (N := some 44) (v := ?_) (a' := ?_) (Qbz 11 511) rfl rfl (by kernel_rfl) (fun _ _ _ h => h) (Or.inl ⟨by rfl, ?_⟩) hHeld ?_ ?_;rotate_left;(·rintro w' ⟨s0, s1, s2, s3, s4⟩;go_simp;with_reducible rfl);rotate_left;(·simp only [Act.put, Qp1, Qp2, Qp3, i64_w, i32_w];rfl)
      refine Qpu 9 46 ?_ ?_ (Qbz 11 1023) (by kernel_rfl) ?_
      refine last_ (i := 10) (N := none) (Qbz 11 2047) rfl rfl (by kernel_rfl) (by decide) (fun K hK => ?_)
      obtain ⟨w8, hrun8, hown8, hgrow8⟩ := World.ownsMap.update hHeld.2.2.2.1 law3 undT hN hky (pI_mk 1 (by omega))
      have HW8 := Aside0.mk hown8
      have HG8 := Aside0.mk hgrow8
      clear hown8 hgrow8
      refine skip_ (w1 := w8) (by rfl) rfl ?_ ?_
      ·go_simp
       rw [w1C, hrun8]
       rfl
      refine hK.out _ _ ?_
      clear hK K
      refine done_ (by kernel_rfl) ?_
      go_wp2
      go_roundg gi'
      case measure => omega
      case rel =>
       refine ⟨kk + 1, by go_num, by omega, ?_, ?_⟩
       ·constructor
        have hk7 := (HQ5.out.kept HB7.out).kept hHeld.2.2.2.2
        have hp := HE2.out.put y 1 (p36 HY36.out)
        refine ⟨hk7.rng.kept HG8.out (by intro e; have := Option.some.inj e; have := HNX.out; omega) (by intro e; have := Option.some.inj e; omega), ⟨_, tab_bound HW8.out hp (fun g' hg' => ?_), hp.ext (fun z => ?_) (fun z _ => ?_)⟩, below_grow hk7.below HG8.out (Nat.le_refl _)⟩
        ·rcases hg' with hg' | rfl
         ·have := outQ_lt (by omega) (by omega) HCS.out HGC.out (by omega) hg'; have := H36.out; omega
         ·have := HY36.out; have := H36.out; omega
        ·rw [HYE.out]; exact outQ_yes HO.out z
        ·by_cases e : z = y
         ·rw [if_pos e]
         ·rw [if_neg e]
       ·have hc8 := blk_below (blk_below HC5.out HB7.out) hHeld.2.2.2.2
        have hne := cells_ne_map hc8 hHeld.2.2.2.1
        exact ⟨blk_grown hc8 HG8.out (by intro e; have := Option.some.inj e; omega)⟩
     ·have ho : okB G S g v kk = false := by simpa using ho
      have hg36 := (HCS.out g HGC.out).1
      have HCT6 : Aside0 (∀ (W : World) A c, Kd.C (Kd.int .i64) W A ln (gi (els x 9)) → W.heap[cB]? = some (.cells #[.int .i64 (g : Int)] 3 (0, 0)) → W.heap[wr.heap.size]? = some (.cells #[.int .i64 (kk : Int)] 3 (0, 0)) → Calls Tryd.prog 54 #[.slice A ln c, .func (.func 118) #[] #[.pointer (some ⟨cB, 0, none⟩), .pointer (some ⟨wr.heap.size, 0, none⟩)]] W fun e w' => e = .returned (.bool true) ∧ Below W.heap.size W w') := ⟨fun W A c hC h0 h1 => by
       have := HCT.out W A c cB wr.heap.size g kk hg36 hC ((blk_cell h0 0).trans rfl) ((blk_cell h1 0).trans rfl)
       rw [ho] at this
       exact this⟩
      have HO := Aside0.mk ho
      clear ho hg36
      go_wp2_with (first | (go_at_call 98; refine HND5.out.mono ?_; rintro e w6 ⟨A6, c6, rfl, hC6, hb6⟩; have HC6 := Aside0.mk hC6; have HB6 := Aside0.mk hb6; clear hC6 hb6) | (go_at_call 54; refine (HCT6.out _ _ _ HC6.out (blk_below HC5.out HB6.out) (blk_below HK5.out HB6.out)).mono ?_; rintro e w7 ⟨rfl, hb7⟩; have HB7 := Aside0.mk (below_step HB6.out hb7); clear hb7))
      go_roundg gi'
      case measure => omega
      case rel => exact ⟨kk + 1, by go_num, by omega, ⟨(HQ5.out.kept HB7.out).ext (outQ_no HO.out)⟩, ⟨blk_below HC5.out HB7.out⟩⟩
    ·have hk1 : kk = K := by omega
     subst hk1
     have hi1 : ((kk : Int) < (kk : Int)) = False := eq_false (by omega)
     have hi2 : decide ((kk : Int) < (kk : Int)) = false := decide_eq_false (by omega)
     clear hkk
     go_wp2
     go_roundg cnt2
     case measure => exact hlt
     case rel => exact ⟨_, ⟨HQ.out.ext (outQ_end HGC.out)⟩⟩
def kepP (s : Nat) (cs : List Nat) (left : Lit → Bool) (y : Nat) : Prop := ∃ c, c ∈ cs ∧ left (kI c) = false ∧ res c s = y
def kepF (s : Nat) (cs : List Nat) (f : Nat → Nat) (left : Lit → Bool) (y : Nat) : Nat := sm (cs.filter fun c => !left (kI c)) fun c => if res c s = y then f c else 0
theorem kep_step {s : Nat} {cs : List Nat} {f : Nat → Nat} {left : Lit → Bool} {g : Nat} (hnd : cs.Nodup) (hg : g ∈ cs) (hl : left (kI g) = true) (y : Nat) :
  ((kepP s cs left y ∨ y = res g s) ↔ kepP s cs (fun z => left z && !z.sameKey (kI g)) y) ∧
  (if y = res g s then kepF s cs f left y + f g else kepF s cs f left y) = kepF s cs f (fun z => left z && !z.sameKey (kI g)) y := by
 constructor
 ·constructor
  ·rintro (⟨c, h1, h2, h3⟩ | h)
   ·exact ⟨c, h1, show (left (kI c) && !(kI c).sameKey (kI g)) = false by rw [h2]; rfl, h3⟩
   ·exact ⟨g, hg, by simp [Lit.sameKey], h.symm⟩
  ·rintro ⟨c, h1, h2, h3⟩
   by_cases e : c = g
   ·exact .inr (by rw [← h3, e])
   ·have : (kI c).sameKey (kI g) = false := Maps.sameKey_ne fun h => e (kI_inj h)
    have h2 : (left (kI c) && !(kI c).sameKey (kI g)) = false := h2
    rw [this] at h2
    exact .inl ⟨c, h1, by simpa using h2, h3⟩
 ·have := sm_strike hnd hg hl fun c => if res c s = y then f c else 0
  unfold kepF
  rw [this]
  by_cases e : y = res g s
  ·rw [if_pos e, if_pos e.symm]
  ·rw [if_neg e, if_neg fun h => e h.symm, Nat.add_zero]
theorem kepF_none {s : Nat} {cs : List Nat} {f : Nat → Nat} {left : Lit → Bool} {y : Nat} (h : ¬ kepP s cs left y) : kepF s cs f left y = 0 := sm_zero fun c hc => by
 have h1 := List.mem_filter.1 hc
 rw [if_neg fun e => h ⟨c, h1.1, by simpa using h1.2, e⟩]
theorem kepF_le (s : Nat) (cs : List Nat) (f : Nat → Nat) (left : Lit → Bool) (y : Nat) : kepF s cs f left y ≤ sm cs f := by
 refine Nat.le_trans (sm_filter_le _ _ _) ?_
 unfold sm
 induction cs with
 | nil => exact Nat.le_refl _
 | cons a l ih =>
  simp only [List.map_cons, List.sum_cons]
  have : (if res a s = y then f a else 0) ≤ f a := by by_cases e : res a s = y <;> simp [e]
  omega
theorem kepF_step_le {s : Nat} {cs : List Nat} {f : Nat → Nat} {left : Lit → Bool} {g : Nat} (hnd : cs.Nodup) (hg : g ∈ cs) (hl : left (kI g) = true) : kepF s cs f left (res g s) + f g ≤ sm cs f := by
 have h1 := (kep_step (s := s) (f := f) hnd hg hl (res g s)).2
 rw [if_pos rfl] at h1
 rw [h1]
 exact kepF_le _ _ _ _ _
structure KeS (w0 W : World) (mX mB r N : Nat) (D : DataW Unit) (left : Lit → Bool) (cnt : Nat) (p : Nat → Prop) (F : Nat → Nat) : Prop where
 rng : W.ranges Tryd.prog 3 pI mX r N D left cnt
 out : ∃ E, W.ownsMap Tryd.prog 3 pI mB N E ∧ Tab p F E
 below : Below w0.heap.size w0 W
theorem mask_bits {L : List Nat} (hL : ∀ v ∈ L, v < 9) : ∀ (d i m : Nat), i + d = L.length → m < 2 ^ 36 → ((L.drop i).foldl (fun m v => m ||| (15 <<< (4 * v))) m) < 2 ^ 36 := by
 intro d
 induction d with
 | zero => intro i m hi hm; rw [List.drop_of_length_le (by omega)]; exact hm
 | succ d ih =>
  intro i m hi hm
  have hil : i < L.length := by omega
  rw [List.drop_eq_getElem_cons hil, List.foldl_cons]
  refine ih (i + 1) _ (by omega) ?_
  have := putc36 (c := m) (v := L[i]) (k := 15) hm (hL _ (List.getElem_mem hil)) (by omega)
  exact this
theorem shl15 {v : Nat} (hv : v < 9) : ∃ J4 J : Int, (wrap64 (4 * (v : Int)) = J4 ∧ IntKind.i64.wrap (4 * (v : Int)) = J4) ∧ 0 ≤ J4 ∧ shl .i64 15 J4 = J ∧ (wrap64 (15 * 2 ^ min J4.toNat 64) = J ∧ IntKind.i64.wrap (15 * 2 ^ min J4.toNat 64) = J) ∧ (wrap64 (15 * 2 ^ J4.toNat) = J ∧ IntKind.i64.wrap (15 * 2 ^ J4.toNat) = J) ∧ J = ((15 <<< (4 * v) : Nat) : Int) := shlC (k := 15) (by omega) hv
theorem addC {a b M : Nat} (h : a + b ≤ M) (hM : M < 2 ^ 60) : wrap64 ((a : Int) + (b : Int)) = ((a + b : Nat) : Int) := by rw [w64_small _ (by omega) (by omega)]; omega
theorem ltC {a M : Nat} (h : a ≤ M) (hM : M < 2 ^ 60) : a < 2 ^ 62 := by omega
set_option maxHeartbeats 8000000 in
set_option maxRecDepth 100000 in
theorem kept_calls {s : Nat} (hs : s < 512) (mX N M : Nat) (hN : N < maxLen) (h36 : 2 ^ 36 ≤ N) (cs : List Nat) (hcs : ∀ c ∈ cs, c < 2 ^ 36) (hnd : cs.Nodup) (f : Nat → Nat) (hf : sm cs f ≤ M) (hM : M < 2 ^ 60)
  (D : DataW Unit) (w : World) (hGL : GL w) (hown : w.ownsMap Tryd.prog 3 pI mX N D) (hT : Tab (fun g => g ∈ cs) f D) :
  Calls Tryd.prog 106 #[.map (some mX), .int .i64 (s : Int)] w fun e w' => ∃ mB E, e = .returned (.map (some mB)) ∧ w.heap.size ≤ mB ∧ w'.ownsMap Tryd.prog 3 pI mB N E ∧ Tab (kepP s cs (fun _ => false)) (kepF s cs f (fun _ => false)) E ∧ Below w.heap.size w w' := by
 have HND := Aside0.mk (nodes_callsC hs w hGL)
 have hL9 : ∀ v ∈ els s 9, v < 9 := fun v hv => (mem_els.1 hv).1
 have hll : (els s 9).length ≤ 9 := by rw [els_length]; exact pc_le s 9
 have hmk : (els s 9).foldl (fun m v => m ||| (15 <<< (4 * v))) 0 = mskL (els s 9) := rfl
 have HRES : Aside0 (∀ c, c &&& mskL (els s 9) = res c s) := ⟨fun c => rfl⟩
 have hm36 : mskL (els s 9) < 2 ^ 36 := by have := mask_bits hL9 (els s 9).length 0 0 (by omega) (by omega); exact this
 have hst : ∀ y, False ↔ kepP s cs (Maps.has D) y := fun y => ⟨fun h => h.elim, fun ⟨c, h1, h2, _⟩ => by
  have := (hT.has c).2 h1
  rw [h2] at this
  cases this⟩
 have HNX : Aside0 (mX < w.heap.size) := ⟨hown.lt⟩
 have HL9 := Aside0.mk hL9
 have HMK := Aside0.mk hmk
 have HM36 := Aside0.mk hm36
 have HT := Aside0.mk hT
 have HCS := Aside0.mk hcs
 have HF := Aside0.mk hf
 have HND1 := Aside0.mk hnd
 have HOWN := Aside0.mk hown
 have HST := Aside0.mk hst
 have H36 := Aside0.mk h36
 have HM := Aside0.mk hM
 clear hT hcs hown hGL hst hs h36 hm36 hmk hL9 hf hM hnd
 generalize els s 9 = L at *
 go_enter Tryd.func106, Tryd.ntmps106
 go_wp2_with (go_at_call 98; refine HND.out.mono ?_; rintro e w1 ⟨A1, c1, rfl, hc1, hC1, hb1⟩; have HC1 := Aside0.mk hC1; have HB1 := Aside0.mk hb1; clear hC1 hb1 hc1)
 clear HND
 go_loopg [5, 14] L.length (fun kq v5 v14 w' => ∃ i m : Nat, v14 = .int .i64 (i : Int) ∧ v5 = .int .i64 (m : Int) ∧ i + kq = L.length ∧ Aside0 (m < 2 ^ 36) ∧ Aside0 ((L.drop i).foldl (fun m v => m ||| (15 <<< (4 * v))) m = mskL L) ∧ w' = w1)
 case atStart => exact ⟨0, 0, rfl, rfl, by omega, ⟨by omega⟩, ⟨HMK.out⟩, rfl⟩
 case round =>
  obtain ⟨i, m, rfl, rfl, hi, HM1, HM2, rfl⟩ := hrel
  by_cases hil : i < L.length
  ·have hi1 : ((i : Int) < (L.length : Int)) = True := eq_true (by omega)
   have hi2 : decide ((i : Int) < (L.length : Int)) = true := decide_eq_true (by omega)
   cases gk with
   | zero => omega
   | succ gi' =>
   obtain ⟨ad, e1, hgx⟩ := Kd.at_int HC1.out (i : Int) (by omega) (by omega)
   obtain rfl := e1
   rw [rd_gi, List.getD_eq_getElem?_getD, List.getElem?_eq_getElem hil, Int.toNat_natCast] at hgx
   have hv9 := HL9.out L[i] (List.getElem_mem hil)
   have HM3 := HM2.out
   rw [List.drop_eq_getElem_cons hil, List.foldl_cons] at HM3
   have HM3 := Aside0.mk HM3
   simp only [Option.getD_some] at hgx
   generalize L[i] = v at *
   obtain ⟨J4, J, ⟨hJ1, hJ1'⟩, hJ2, hJ3, ⟨hJ4, hJ4'⟩, ⟨hJ5, hJ5'⟩, hJ6⟩ := shl15 hv9
   have hor : Go.bits .or .i64 (m : Int) J = ((m ||| 15 <<< (4 * v) : Nat) : Int) := by rw [hJ6]; exact or_put (k := 15) HM1.out hv9 (by omega)
   have HM4 : Aside0 (m ||| 15 <<< (4 * v) < 2 ^ 36) := ⟨putc36 (k := 15) HM1.out hv9 (by omega)⟩
   clear hJ6 HM2 HM1
   generalize m ||| 15 <<< (4 * v) = m2 at *
   go_wp2
   go_roundg gi'
   case measure => omega
   case rel => exact ⟨i + 1, m2, by go_num, rfl, by omega, HM4, HM3, rfl⟩
  ·have hi1 : ((i : Int) < (L.length : Int)) = False := eq_false (by omega)
   have hi2 : decide ((i : Int) < (L.length : Int)) = false := decide_eq_false (by omega)
   have hm := HM2.out
   rw [List.drop_of_length_le (by omega), List.foldl_nil] at hm
   subst hm
   have HOW1 := Aside0.mk (HOWN.out.kept (grown_of_below HB1.out none) (by simp))
   clear HM2 HM1 hil
   generalize mskL L = m at *
   go_wp2_with (at_range; refine wpList_range_own _ rfl _ _ rfl 3 3 law3 undT pI mX N D rfl (HOW1.out.alloc _) ?_; intro w2 hrg2 hg2 hs2)
   have hA1 : (wr.alloc (Obj.map #[] 0)).heap.size = wr.heap.size + 1 := by simp
   rw [hA1] at hrg2 hs2
   try go_frame
   try rw [hA1]
   have HS0 : Aside0 (KeS w w2 mX wr.heap.size (wr.heap.size + 1) N D (Maps.has D) (Maps.size D) (kepP s cs (Maps.has D)) (kepF s cs f (Maps.has D))) := ⟨⟨hrg2, ⟨_, ((World.ownsMap_made wr Tryd.prog 3 pI).kept hg2 (by simp)).mono (Nat.zero_le _), (Tab.nil (kepF s cs f (Maps.has D))).ext HST.out (fun _ h => h.elim)⟩, below_step (below_alloc HB1.out _) (grow_below hg2)⟩⟩
   have HLE : Aside0 (w.heap.size ≤ wr.heap.size) := ⟨HB1.out.size⟩
   clear hrg2 hg2 hs2 hA1 HST HOWN HOW1 HC1 HB1 HMK
   generalize wr.heap.size = mB at *
   go_loopg [9] (Maps.size D) (fun kq v9 w' => ∃ left, Aside0 (KeS w w' mX mB (mB + 1) N D left kq (kepP s cs left) (kepF s cs f left)))
   case atStart => exact ⟨_, HS0⟩
   case round =>
    clear HS0
    obtain ⟨left, HR⟩ := hrel
    have hrg := HR.out.rng
    go_wp2_with (at_next; refine wpList_next_ranges_ii _ rfl _ rfl 3 3 .i64 .i64 law3 und3 und3 mX (mB + 1) N D left gk rfl hrg ?_ ?_)
    ·intro hc0 hl0
     clear hrg
     have e : left = fun _ => false := funext hl0
     subst e
     clear hl0
     go_wp2
     go_ret
     obtain ⟨E, h1, h2⟩ := HR.out.out
     exact ⟨_, E, rfl, HLE.out, h1, h2, HR.out.below⟩
    ·intro x0 c0 w3 cnt2 hwx hwc hlx hat hrg3 hlt hg3 hs3 hen
     obtain ⟨g, hgc, rfl, rfl⟩ := HT.out.step hat
     obtain ⟨E, hE1, hE2⟩ := HR.out.out
     have hEw := hE1.kept hg3 (by simp)
     have hb3 := below_grow HR.out.below hg3 (by have := HLE.out; omega)
     have hand : Go.bits .and .i64 (g : Int) (m : Int) = ((res g s : Nat) : Int) := by
      rw [b_and _ _ (p36 (HCS.out g hgc)) (p36 HM36.out), HRES.out]
     have HYL : Aside0 (res g s < 2 ^ 36) := ⟨by rw [← HRES.out]; exact Nat.lt_of_le_of_lt Nat.and_le_left (HCS.out g hgc)⟩
     have HST2 := Aside0.mk (fun y => kep_step (s := s) (f := f) HND1.out hgc hlx y)
     have HLE2 := Aside0.mk (kepF_step_le (s := s) (f := f) HND1.out hgc hlx)
     obtain ⟨y, hy⟩ : ∃ y, y = res g s := ⟨_, rfl⟩
     rw [← hy] at hand HYL HST2 HLE2
     have hky : keyOf Tryd.prog 3 (.int .i64 (y : Int)) = some (kI y) := key3 y (p36 HYL.out)
     obtain ⟨z, hz1, hz2, _⟩ := hEw.lookup_int law3 undT und3 (zero3 w3) hky
     have hz0 : z = (kepF s cs f left y : Int) := by
      rcases hE2.look y hz2 with ⟨_, h⟩ | ⟨h1, h⟩
      ·exact h
      ·rw [h, kepF_none h1]; rfl
     subst hz0
     have HLK : Aside0 (∀ c9, E.atKey (kI y) (.lit (.int .i64 0)) = .lit (.int .i64 c9) → c9 = (kepF s cs f left y : Int)) := ⟨fun c9 h9 => by
      rw [hz2] at h9
      injection h9 with h9
      injection h9 with _ h9
      exact h9.symm⟩
     have hfl := HLE2.out
     have hFM := HF.out
     have hMM := HM.out
     have HRS := Aside0.mk hrg3
     have HEW := Aside0.mk hEw
     have HE2 := Aside0.mk hE2
     have HB3 := Aside0.mk hb3
     obtain ⟨fy, hfy⟩ : ∃ fy, fy = kepF s cs f left y := ⟨_, rfl⟩
     obtain ⟨fg, hfg⟩ : ∃ fg, fg = f g := ⟨_, rfl⟩
     rw [← hfy, ← hfg] at hfl
     rw [← hfy] at HLK
     have hadd := addC (Nat.le_trans hfl hFM) hMM
     have HFY := Aside0.mk hfy
     have HFG := Aside0.mk hfg
     have hval : pI (.int .i64 (wrap64 ((fy : Int) + (fg : Int)))) = some (.lit (.int .i64 ((fy + fg : Nat) : Int)), []) := by rw [hadd]; exact pI_mk (fy + fg) (ltC (Nat.le_trans hfl hFM) hMM)
     rw [← hfg] at hen ⊢
     have HFZ : Aside0 ((fun u => if u = y then fy + fg else kepF s cs f left u) = kepF s cs f (fun z => left z && !z.sameKey (kI g))) := ⟨funext fun u => by
      have h1 := (HST2.out u).2
      rw [← h1]
      by_cases e : u = y
      ·rw [if_pos e, if_pos e, e, hfy, hfg]
      ·rw [if_neg e, if_neg e]⟩
     clear hrg hrg3 hat hwx hwc hE1 hE2 hEw hb3 hz2 hfl hFM hMM hg3 hy hgc hlx HLE2 hfy hfg
     generalize fy + fg = fz at *
     go_wp2_with (first | (at_lookup; refine wpList_lookup_own_int _ rfl _ _ _ rfl 3 3 .i64 law3 undT und3 (zero3 _) mB N E rfl HEW.out _ _ rfl hky ?_; intro c9 hat9 hwc9; have e9 : c9 = (fy : Int) := HLK.out c9 hat9; clear hat9 hwc9; subst e9) | (at_mapUpdate; refine wpList_mapUpdate_own _ rfl _ _ _ _ rfl 3 3 law3 undT pI mB N E rfl HEW.out hN _ _ _ rfl rfl hky _ [] hval ?_; intro w8 hown8 hgrow8; have HW8 := Aside0.mk hown8; have HG8 := Aside0.mk hgrow8; clear hown8 hgrow8))
     go_roundg cnt2
     case measure => exact hlt
     case rel =>
      have hp := HE2.out.put y fz (p36 HYL.out)
      refine ⟨_, ⟨⟨HRS.out.kept HG8.out (by intro e; have := Option.some.inj e; have := HNX.out; have := HLE.out; omega) (by intro e; have := Option.some.inj e; omega), ⟨_, tab_bound HW8.out hp (fun g' hg' => ?_), hp.ext (fun z => (HST2.out z).1) (fun z _ => congrFun HFZ.out z)⟩, below_grow HB3.out HG8.out HLE.out⟩⟩⟩
      rcases hg' with ⟨c, h1, _, rfl⟩ | rfl
      ·have h2 := HCS.out c h1
       have h3 : res c s < 2 ^ 36 := by rw [← HRES.out]; exact Nat.lt_of_le_of_lt Nat.and_le_left h2
       exact Nat.lt_of_lt_of_le h3 H36.out
      ·exact Nat.lt_of_lt_of_le HYL.out H36.out
end Go.Proofs.YtoffehihicabcaaDoor.X
end
section
namespace Go.Proofs.YtoffehihicabcaaDoor.T
open Go.RowKit YtoffehihicabcaaDoorW.PrintWords YtoffehihicabcaaDoorW.PrintLast YtoffehihicabcaaDoorW.PrintMore
theorem AtMost.drop {k : Nat} {P Q : Nat → Prop} (c : Nat) (h : AtMost (k + 1) Q) (hc : Q c) (hq : ∀ u, P u → Q u ∧ u ≠ c) : AtMost k P := by
 obtain ⟨l, h1, h2⟩ := h
 refine ⟨l.erase c, ?_, fun u hu => (List.mem_erase_of_ne (hq u hu).2).2 (h2 u (hq u hu).1)⟩
 rw [List.length_erase_of_mem (h2 c hc)]
 omega
theorem zero_bset (v : Nat) : ¬ bset 0 v := by simp [bset]
section
variable {V : Nat → Prop} {adj : Nat → Nat → Prop}
end
def TopOf (par : Nat → Option Nat) (β : Nat → Nat → Prop) (v k : Nat) : Prop := β k v ∧ ∀ p, par k = some p → ¬ β p v
structure ATD (I : Nat → Prop) (par : Nat → Option Nat) (β : Nat → Nat → Prop) (V : Nat → Prop) (adj : Nat → Nat → Prop) (ρ : Nat → Nat) : Prop where
 inn : ∀ k p, I k → par k = some p → I p
 rank : ∀ k p, I k → par k = some p → ρ p < ρ k
 root : ∃ r, I r ∧ par r = none ∧ ∀ k, I k → par k = none → k = r
 sub : ∀ k v, I k → β k v → V v
 top : ∀ v, V v → ∃ t, I t ∧ TopOf par β v t ∧ ∀ k, I k → TopOf par β v k → k = t
 edge : ∀ u v, adj u v → ∃ k, I k ∧ β k u ∧ β k v
inductive Anc (par : Nat → Option Nat) : Nat → Nat → Prop
 | refl (k : Nat) : Anc par k k
 | step {k q t : Nat} : par k = some q → Anc par q t → Anc par k t
section
variable {I : Nat → Prop} {par : Nat → Option Nat} {β : Nat → Nat → Prop} {V : Nat → Prop} {adj : Nat → Nat → Prop} {ρ : Nat → Nat} (h : ATD I par β V adj ρ)
include h
theorem anc_rank {k t : Nat} (hk : I k) (ha : Anc par k t) : ρ t ≤ ρ k ∧ (t ≠ k → ρ t < ρ k) := by
 induction ha with
 | refl k => exact ⟨Nat.le_refl _, fun e => absurd rfl e⟩
 | @step k q t e _ ih =>
  have h1 := h.rank k q hk e
  have h2 := (ih (h.inn k q hk e)).1
  exact ⟨by omega, fun _ => by omega⟩
theorem anc_in {k t : Nat} (hk : I k) (ha : Anc par k t) : I t := by
 induction ha with
 | refl k => exact hk
 | @step k q t e _ ih => exact ih (h.inn k q hk e)
theorem up_top {v t : Nat} (ht : ∀ k, I k → TopOf par β v k → k = t) : ∀ (d k : Nat), ρ k ≤ d → I k → β k v → Anc par k t := by
 intro d
 induction d with
 | zero =>
  intro k hd hk hb
  have : TopOf par β v k := ⟨hb, fun p e => by have := h.rank k p hk e; omega⟩
  rw [← ht k hk this]
  exact .refl k
 | succ d ih =>
  intro k hd hk hb
  by_cases hx : ∃ p, par k = some p ∧ β p v
  ·obtain ⟨p, e, hp⟩ := hx
   have := h.rank k p hk e
   exact .step e (ih p (by omega) (h.inn k p hk e) hp)
  ·have : TopOf par β v k := ⟨hb, fun p e hp => hx ⟨p, e, hp⟩⟩
   rw [← ht k hk this]
   exact .refl k
theorem up_has {v t : Nat} (ht : ∀ k, I k → TopOf par β v k → k = t) {m a : Nat} (hm : I m) (ha : Anc par m a) (hb : β m v) (hr : ρ t ≤ ρ a) : β a v := by
 induction ha with
 | refl k => exact hb
 | @step k q a e hqa ih =>
  have hq := h.inn k q hm e
  refine ih hq ?_ hr
  apply Classical.byContradiction
  intro hn
  have : TopOf par β v k := ⟨hb, fun p e2 hp => by
   rw [e] at e2
   obtain rfl := Option.some.inj e2
   exact hn hp⟩
  have ek := ht k hm this
  have h1 := h.rank k q hm e
  have h2 := (anc_rank h hq hqa).1
  rw [← ek] at hr
  omega
theorem anc_root {r : Nat} (hr : ∀ k, I k → par k = none → k = r) : ∀ (d k : Nat), ρ k ≤ d → I k → Anc par k r := by
 intro d
 induction d with
 | zero =>
  intro k hd hk
  cases e : par k with
  | none => rw [hr k hk e]; exact .refl r
  | some p => have := h.rank k p hk e; omega
 | succ d ih =>
  intro k hd hk
  cases e : par k with
  | none => rw [hr k hk e]; exact .refl r
  | some p =>
   have := h.rank k p hk e
   exact .step e (ih p (by omega) (h.inn k p hk e))
end
theorem anc_trans {par : Nat → Option Nat} {a b c : Nat} (h : Anc par a b) (h' : Anc par b c) : Anc par a c := by
 induction h with
 | refl k => exact h'
 | step e _ ih => exact .step e (ih h')
section
variable {I : Nat → Prop} {par : Nat → Option Nat} {β : Nat → Nat → Prop} {V : Nat → Prop} {adj : Nat → Nat → Prop} {ρ : Nat → Nat} (h : ATD I par β V adj ρ)
include h
theorem anc_cmp {m a b : Nat} (hm : I m) (ha : Anc par m a) (hb : Anc par m b) (hr : ρ b ≤ ρ a) : Anc par a b := by
 induction ha with
 | refl k => exact hb
 | @step k q t e hqt ih =>
  cases hb with
  | refl =>
   have h1 := h.rank _ q hm e
   have h2 := (anc_rank h (h.inn _ q hm e) hqt).1
   omega
  | @step _ q' _ e' hb' =>
   rw [e] at e'
   obtain rfl := Option.some.inj e'
   exact ih (h.inn k q hm e) hb' hr
end
section
variable {I : Nat → Prop} {par : Nat → Option Nat} {bg : Nat → Nat} {n : Nat} {G : List Nat} {ρ : Nat → Nat}
def Dn (I : Nat → Prop) (par : Nat → Option Nat) (bg : Nat → Nat) (k v : Nat) : Prop := ∃ m, I m ∧ Anc par m k ∧ bset (bg m) v
noncomputable def dnU (I : Nat → Prop) (par : Nat → Option Nat) (bg : Nat → Nat) (k : Nat) : Nat := ofSet (fun v => Dn I par bg k v ∧ ¬ bset (bg k) v) 9
noncomputable def upto (I : Nat → Prop) (par : Nat → Option Nat) (bg : Nat → Nat) (a i : Nat) : Nat := ofSet (fun v => ¬ bset (bg a) v ∧ ∃ k, k < i ∧ I k ∧ par k = some a ∧ Dn I par bg k v) 9
variable (h : ATD I par (fun k v => bset (bg k) v) (fun v => v < G.length) (Adj G) ρ) (hG : Gr 9 G)
include h
theorem way_in {m k a v : Nat} (hm : I m) (hk : I k) (hmk : Anc par m k) (e : par k = some a) (hv : bset (bg m) v) (ha : bset (bg a) v) : bset (bg k) v := by
 have hI := h.inn k a hk e
 obtain ⟨t, t1, t2, t3⟩ := h.top v (h.sub m v hm hv)
 have h1 := (anc_rank h hI (up_top h t3 _ a (Nat.le_refl _) hI ha)).1
 have h2 := h.rank k a hk e
 exact up_has h t3 hm hmk hv (by omega)
theorem way_only {m m' k a v : Nat} (hm : I m) (hk : I k) (hmk : Anc par m k) (e : par k = some a) (hv : bset (bg m) v) (ha : ¬ bset (bg a) v) (hm' : I m') (hv' : bset (bg m') v) : Anc par m' k := by
 have hI := h.inn k a hk e
 obtain ⟨t, t1, t2, t3⟩ := h.top v (h.sub m v hm hv)
 have hmt := up_top h t3 _ m (Nat.le_refl _) hm hv
 have hmt' := up_top h t3 _ m' (Nat.le_refl _) hm' hv'
 by_cases hr : ρ k ≤ ρ t
 ·exact anc_trans hmt' (anc_cmp h hm hmt hmk hr)
 ·exfalso
  have hkt := anc_cmp h hm hmk hmt (by omega)
  cases hkt with
  | refl => omega
  | @step _ q _ e2 hq =>
   rw [e] at e2
   obtain rfl := Option.some.inj e2
   have h1 := (anc_rank h hI hq).1
   exact ha (up_has h t3 hm (anc_trans hmk (.step e (.refl _))) hv h1)
theorem sib_apart {k k' a v : Nat} (hk : I k) (hk' : I k') (e : par k = some a) (e' : par k' = some a) (hne : k ≠ k') (hv : Dn I par bg k v) (hv' : Dn I par bg k' v) : bset (bg a) v := by
 apply Classical.byContradiction
 intro ha
 obtain ⟨m, m1, m2, m3⟩ := hv
 obtain ⟨m', q1, q2, q3⟩ := hv'
 have hA := way_only h m1 hk m2 e m3 ha q1 q3
 have key : ∀ {x y : Nat}, I x → par x = some a → par y = some a → x ≠ y → Anc par x y → False := fun {x y} hx ex ey hne hxy => by
  cases hxy with
  | refl => exact hne rfl
  | @step _ q _ e2 hq =>
   rw [ex] at e2
   obtain rfl := Option.some.inj e2
   have h1 := (anc_rank h (h.inn x a hx ex) hq).1
   have h2 := h.rank y a (anc_in h (h.inn x a hx ex) hq) ey
   omega
 by_cases hr : ρ k' ≤ ρ k
 ·exact key hk e e' hne (anc_cmp h q1 hA q2 hr)
 ·exact key hk' e' e (Ne.symm hne) (anc_cmp h q1 q2 hA (by omega))
include hG
theorem bg_small {k : Nat} (hk : I k) : bg k < 512 := lt_of_bits (n := 9) fun j hj => by have := h.sub k j hk hj; have := hG.most; omega
theorem dn_lt {k v : Nat} (hv : Dn I par bg k v) : v < 9 := by
 obtain ⟨m, m1, _, m3⟩ := hv
 have := h.sub m v m1 m3
 have := hG.most
 omega
omit h hG in
theorem dnU_bit {k v : Nat} : bset (dnU I par bg k) v ↔ v < 9 ∧ Dn I par bg k v ∧ ¬ bset (bg k) v := ofSet_bit _ _ _
omit h hG in
theorem upto_bit {a i v : Nat} : bset (upto I par bg a i) v ↔ v < 9 ∧ ¬ bset (bg a) v ∧ ∃ k, k < i ∧ I k ∧ par k = some a ∧ Dn I par bg k v := ofSet_bit _ _ _
omit h hG in
theorem dnU_lt (k : Nat) : dnU I par bg k < 512 := ofSet_lt _ 9
omit h hG in
theorem upto_lt (a i : Nat) : upto I par bg a i < 512 := ofSet_lt _ 9
omit h hG in
theorem upto_zero (a : Nat) : upto I par bg a 0 = 0 := eq_of_bits fun j => by
 have := upto_bit (I := I) (par := par) (bg := bg) (a := a) (i := 0) (v := j)
 show bset _ j ↔ bset 0 j
 rw [this]
 exact ⟨fun ⟨_, _, k, hk, _⟩ => absurd hk (by omega), fun h => absurd h (zero_bset j)⟩
omit h hG in
theorem upto_skip {a k : Nat} (hne : ¬ (I k ∧ par k = some a)) : upto I par bg a (k + 1) = upto I par bg a k := eq_of_bits fun j => by
 show bset _ j ↔ bset _ j
 rw [upto_bit, upto_bit]
 constructor
 ·rintro ⟨h1, h2, k', h3, h4, h5, h6⟩
  refine ⟨h1, h2, k', ?_, h4, h5, h6⟩
  by_cases e : k' = k
  ·subst e; exact absurd ⟨h4, h5⟩ hne
  ·omega
 ·rintro ⟨h1, h2, k', h3, h4⟩
  exact ⟨h1, h2, k', by omega, h4⟩
theorem upto_step {a k : Nat} (hk : I k) (e : par k = some a) : upto I par bg a (k + 1) = upto I par bg a k ||| diff (bg k ||| dnU I par bg k) (bg a) := eq_of_bits fun j => by
 show bset _ j ↔ bset _ j
 rw [or_bset, upto_bit, upto_bit, diff_bset, or_bset, dnU_bit]
 constructor
 ·rintro ⟨h1, h2, k', h3, h4, h5, h6⟩
  by_cases ek : k' = k
  ·subst ek
   refine .inr ⟨?_, h2⟩
   by_cases hb : bset (bg k') j
   ·exact .inl hb
   ·exact .inr ⟨h1, h6, hb⟩
  ·exact .inl ⟨h1, h2, k', by omega, h4, h5, h6⟩
 ·rintro (⟨h1, h2, k', h3, h4⟩ | ⟨h1, h2⟩)
  ·exact ⟨h1, h2, k', by omega, h4⟩
  ·have hd : Dn I par bg k j := by
    rcases h1 with h1 | h1
    ·exact ⟨k, hk, .refl k, h1⟩
    ·exact h1.2.1
   exact ⟨dn_lt h hG hd, h2, k, by omega, hk, e, hd⟩
theorem ways_step {K : Nat} (hK : K ≤ 16) {a k c : Nat} (ha : I a) (hk : I k) (e : par k = some a) (hc : c ∈ clL G K 0 0 (els (bg a) 9)) :
  num G K (bg a) c (els (upto I par bg a k) 9) * sm (clL G K 0 0 (els (bg k) 9)) (fun c' => if res c' (bg k &&& bg a) = res c (bg k &&& bg a) then num G K (bg k) c' (els (dnU I par bg k) 9) else 0) = num G K (bg a) c (els (upto I par bg a (k + 1)) 9) := by
 have dk : ∀ v, (bset (bg k) v ∨ bset (dnU I par bg k) v) → Dn I par bg k v := fun v hv => by
  rcases hv with hv | hv
  ·exact ⟨k, hk, .refl k, hv⟩
  ·exact (dnU_bit.1 hv).2.1
 rw [upto_step h hG hk e]
 refine kid_step hG hK (bg_small h hG ha) (bg_small h hG hk) (upto_lt a k) (dnU_lt k) hc (fun v hv => (upto_bit.1 hv).2.1) (fun v hv hb => ?_) (fun v hv => (dnU_bit.1 hv).2.2) (fun v hv => ?_) (fun v u hv hva hu hadj => ?_) (fun v u hv hva hua hadj => ?_)
 ·obtain ⟨_, ⟨m, m1, m2, m3⟩, hnk⟩ := dnU_bit.1 hv
  exact hnk (way_in h m1 hk m2 e m3 hb)
 ·obtain ⟨_, hnb, k', q1, q2, q3, q4⟩ := upto_bit.1 hv
  have hne : ¬ Dn I par bg k v := fun hd => hnb (sib_apart h q2 hk q3 e (by omega) q4 hd)
  exact ⟨fun hb => hne (dk v (.inl hb)), fun hb => hne (dk v (.inr hb))⟩
 ·obtain ⟨_, hnb, k', q1, q2, q3, q4⟩ := upto_bit.1 hu
  obtain ⟨m, m1, m2, m3⟩ := dk v hv
  obtain ⟨m', p1, p2, p3⟩ := h.edge v u hadj
  have hA := way_only h m1 hk m2 e m3 hva p1 p2
  exact hnb (sib_apart h q2 hk q3 e (by omega) q4 ⟨m', p1, hA, p3⟩)
 ·obtain ⟨m, m1, m2, m3⟩ := dk v hv
  obtain ⟨m', p1, p2, p3⟩ := h.edge v u hadj
  have hA := way_only h m1 hk m2 e m3 hva p1 p2
  exact way_in h p1 hk hA e p3 hua
omit hG in
theorem upto_all {a N : Nat} (ha : I a) (hN : ∀ k, I k → k < N) : upto I par bg a N = dnU I par bg a := eq_of_bits fun j => by
 show bset _ j ↔ bset _ j
 rw [upto_bit, dnU_bit]
 constructor
 ·rintro ⟨h1, h2, k, _, h4, h5, ⟨m, m1, m2, m3⟩⟩
  exact ⟨h1, ⟨m, m1, anc_trans m2 (.step h5 (.refl a)), m3⟩, h2⟩
 ·rintro ⟨h1, ⟨m, m1, m2, m3⟩, h2⟩
  refine ⟨h1, h2, ?_⟩
  have key : ∀ {x y : Nat}, Anc par x y → I x → x ≠ y → ∃ k, I k ∧ par k = some y ∧ Anc par x k := by
   intro x y hxy
   induction hxy with
   | refl k => intro _ e; exact absurd rfl e
   | @step k q t e hqt ih =>
    intro hx hne
    by_cases hqt' : q = t
    ·subst hqt'; exact ⟨k, hx, e, .refl k⟩
    ·obtain ⟨c, c1, c2, c3⟩ := ih (h.inn k q hx e) hqt'
     exact ⟨c, c1, c2, .step e c3⟩
  obtain ⟨k, k1, k2, k3⟩ := key m2 m1 (fun e => h2 (e ▸ m3))
  exact ⟨k, hN k k1, k1, k2, ⟨m, m1, k3, m3⟩⟩
theorem ways_root {K : Nat} (hK : K ≤ 16) {r : Nat} (hr : I r) (hr' : ∀ k, I k → par k = none → k = r) : sm (clL G K 0 0 (els (bg r) 9)) (fun c => num G K (bg r) c (els (dnU I par bg r) 9)) = num G K 0 0 (els (2 ^ G.length - 1) 9) := by
 have h2 : 2 ^ G.length ≤ 2 ^ 9 := Nat.pow_le_pow_right (by omega) hG.most
 refine num_all hG hK (bg_small h hG hr) (dnU_lt r) (by have := Nat.two_pow_pos G.length; omega) (fun v hv hd => (dnU_bit.1 hd).2.2 hv) fun v => ?_
 rw [all_bit, dnU_bit]
 constructor
 ·intro hv
  by_cases hb : bset (bg r) v
  ·exact .inl hb
  ·obtain ⟨t, t1, t2, _⟩ := h.top v hv
   exact .inr ⟨by have := hG.most; omega, ⟨t, t1, anc_root h hr' _ t (Nat.le_refl _) t1, t2.1⟩, hb⟩
 ·rintro (hb | ⟨_, ⟨m, m1, _, m3⟩, _⟩)
  ·exact h.sub r v hr hb
  ·exact h.sub m v m1 m3
end
end Go.Proofs.YtoffehihicabcaaDoor.T
end
section
namespace Go.Proofs.YtoffehihicabcaaDoor.X
open Go.RowKit YtoffehihicabcaaDoorW.PrintWords YtoffehihicabcaaDoorW.PrintLast YtoffehihicabcaaDoorW.PrintMore
attribute [local go_sem] max2_int min2_int max_two min_two max_three min_three max_four min_four
noncomputable section
mutual
def lampblackref01_IsGraph.l0 : Nat → List Int → Int → List Int → Int → Int → Option (Bool)
 | 0, _, _, _, _, _ => none
 | k + 1, x0, x1, x8, x9, x10 => if x10 < x9 then (if 0 ≤ x10 then (if x10 < (x8.length : Int) then (if (x0.length : Int) > x1 then (lampblackref01_IsGraph.j1 k x0 x1 x10 (rd x8 x10) x8 x9 x10 true) else (if (rd x8 x10) < 0 then (lampblackref01_IsGraph.j1 k x0 x1 x10 (rd x8 x10) x8 x9 x10 true) else (if (rd x8 x10) ≥ (shl .i64 1 (x0.length : Int)) then (lampblackref01_IsGraph.j1 k x0 x1 x10 (rd x8 x10) x8 x9 x10 true) else (lampblackref01_IsGraph.j1 k x0 x1 x10 (rd x8 x10) x8 x9 x10 ((Go.bits .and .i64 (shr .i64 (rd x8 x10) x10) 1) == 1))))) else (none)) else (none)) else (if (x0.length : Int) ≥ 1 then (some (decide ((x0.length : Int) ≤ x1))) else (some false))
def lampblackref01_IsGraph.j1 : Nat → List Int → Int → Int → Int → List Int → Int → Int → Bool → Option (Bool)
 | 0, _, _, _, _, _, _, _, _ => none
 | k + 1, x0, x1, x5, x6, x8, x9, x10, x36 => if x36 = true then (some false) else (lampblackref01_IsGraph.l1 k x0 x1 x5 x6 x8 x9 x10 (x0.length : Int) 0)
def lampblackref01_IsGraph.l1 : Nat → List Int → Int → Int → Int → List Int → Int → Int → Int → Int → Option (Bool)
 | 0, _, _, _, _, _, _, _, _, _ => none
 | k + 1, x0, x1, x5, x6, x8, x9, x10, x38, x39 => if x39 < x38 then (if 0 ≤ x39 then (if x39 < (x0.length : Int) then (if 0 ≤ x5 then (if (Go.bits .and .i64 (shr .i64 x6 x39) 1) = (Go.bits .and .i64 (shr .i64 (rd x0 x39) x5) 1) then (lampblackref01_IsGraph.l1 k x0 x1 x5 x6 x8 x9 x10 x38 (wrap64 (x39 + 1))) else (some false)) else (none)) else (none)) else (none)) else (lampblackref01_IsGraph.l0 k x0 x1 x8 x9 (wrap64 (x10 + 1)))
end
def lampblackref01_IsGraph.f (k : Nat) (l0 : List Int) (a1 : Int) : Option (Bool) := lampblackref01_IsGraph.l0 k l0 a1 l0 (l0.length : Int) 0
set_option maxHeartbeats 8000000 in
set_option maxRecDepth 100000 in
theorem lampblackref01_IsGraph.calls (k : Nat) (A0 : Option Addr) (c0 : Nat) (l0 : List Int) (a1 : Int) (r : Bool) (w : World) (hr0 : Kd.C (Kd.int .i64) w A0 l0.length l0) (hc0 : l0.length ≤ c0) (h : lampblackref01_IsGraph.f k l0 a1 = some r) :
  Calls Tryd.prog 65 #[.slice A0 l0.length c0, .int .i64 a1] w fun e w' => e = .returned (.bool r) ∧ Drawn0 w w' := by
 have HR0 := Aside0.mk hr0
 have HC0 := Aside0.mk hc0
 clear hr0 hc0
 have H : (lampblackref01_IsGraph.l0 k l0 a1 l0 (l0.length : Int) 0) = some r := h
 clear h
 have H' := Aside0.mk H
 clear H
 go_enter Tryd.func65, Tryd.ntmps65
 go_wp2
 repeat (go_quiet (fail); try go_wp2)
 go_loopg [10] k (fun kq v10 w' => ∃ (x10_1 : Int), v10 = .int .i64 x10_1 ∧ Aside0 (lampblackref01_IsGraph.l0 kq l0 a1 l0 (l0.length : Int) x10_1 = some r) ∧ Aside0 (kq ≤ k) ∧ Drawn0 w w')
 case atStart => exact ⟨(0), (Qrs), H', ⟨Nat.le_refl _⟩, by repeat (first | exact Drawn0.refl _ | apply Drawn0.step)⟩
 case round =>
  clear H'
  try clear p2
  obtain ⟨x10_1, rfl, HA, HK1, ⟨m1, rfl⟩⟩ := hrel
  cases gk with
  | zero => exact absurd HA.out (by simp [lampblackref01_IsGraph.l0])
  | succ k1 =>
   have H := HA.out
   clear HA
   simp only [lampblackref01_IsGraph.l0] at H
   by_cases c3 : x10_1 < (l0.length : Int)
   ·rw [if_pos c3] at H
    have c3b0 : decide (x10_1 < (l0.length : Int)) = true := decide_eq_true c3
    clear c3
    by_cases c4 : 0 ≤ x10_1
    ·rw [if_pos c4] at H
     have c4b0 : decide (0 ≤ x10_1) = true := decide_eq_true c4
     clear c4
     by_cases c5 : x10_1 < (l0.length : Int)
     ·rw [if_pos c5] at H
      have c5b0 : decide (x10_1 < (l0.length : Int)) = true := decide_eq_true c5
      clear c5
      have HC6 := Aside0.mk H
      clear H
      have p215 : 0 ≤ (x10_1 : Int) := of_decide_eq_true (Qas)
      have q215 : x10_1 < (l0.length : Int) := of_decide_eq_true (Qas)
      obtain ⟨ad215, e215, hx215_0⟩ := Kd.at_int HR0.out x10_1 p215 q215
      cases e215
      replace p215 := eq_true p215
      replace q215 := eq_true q215
      go_upto_region 4 with (fail)
      repeat (go_quiet (fail); go_upto_region 4 with (fail))
      go_cut [36] (fun v36 wc => ∃ (kq : Nat) (x36_5 : Bool), v36 = .bool x36_5 ∧ Aside0 (lampblackref01_IsGraph.j1 kq l0 a1 x10_1 (rd l0 x10_1) l0 (l0.length : Int) x10_1 x36_5 = some r) ∧ Aside0 (kq ≤ k1) ∧ Drawn0 w wc)
      case first =>
       have H := HC6.out
       clear HC6
       by_cases c7 : (l0.length : Int) > a1
       ·rw [if_pos c7] at H
        have c7b0 : decide (a1 < (l0.length : Int)) = true := decide_eq_true c7
        clear c7
        (first | rw [c7b0] | (simp only [i64_w, i32_w]; rw [c7b0]) | skip)
        have H' := Aside0.mk H
        clear H
        go_wp2
        repeat (go_quiet (fail); try go_wp2)
        go_meet
        case rel => exact ⟨_, (true), (Qrs), H', ⟨by have := HK1.out; first | omega | exact Nat.le_refl _⟩, by repeat (first | exact Drawn0.refl _ | apply Drawn0.step)⟩
       ·rw [if_neg c7] at H
        have c7b0 : decide (a1 < (l0.length : Int)) = false := decide_eq_false c7
        clear c7
        (first | rw [c7b0] | (simp only [i64_w, i32_w]; rw [c7b0]) | skip)
        by_cases c8 : (rd l0 x10_1) < 0
        ·rw [if_pos c8] at H
         have c8b0 : decide ((rd l0 x10_1) < 0) = true := decide_eq_true c8
         clear c8
         have H' := Aside0.mk H
         clear H
         go_wp2
         repeat (go_quiet (fail); try go_wp2)
         go_meet
         case rel => exact ⟨_, (true), (Qrs), H', ⟨by have := HK1.out; first | omega | exact Nat.le_refl _⟩, by repeat (first | exact Drawn0.refl _ | apply Drawn0.step)⟩
        ·rw [if_neg c8] at H
         have c8b0 : decide ((rd l0 x10_1) < 0) = false := decide_eq_false c8
         clear c8
         obtain ⟨ji9, hji9⟩ : ∃ j_ : Int, (shl .i64 1 (l0.length : Int)) = j_ := ⟨_, rfl⟩
         replace H : (if (rd l0 x10_1) ≥ (ji9) then (lampblackref01_IsGraph.j1 k1 l0 a1 x10_1 (rd l0 x10_1) l0 (l0.length : Int) x10_1 true) else (lampblackref01_IsGraph.j1 k1 l0 a1 x10_1 (rd l0 x10_1) l0 (l0.length : Int) x10_1 ((Go.bits .and .i64 (shr .i64 (rd l0 x10_1) x10_1) 1) == 1))) = some r := by first | (rw [hji9] at H; exact H) | (simp only [hji9] at H ⊢; exact H)
         have hji9_ : (IntKind.i64.wrap (1 * 2 ^ min (l0.length : Int).toNat 64)) = ji9 := hji9
         have hji9z : (l0.length : Int) ≤ 64 → (IntKind.i64.wrap (1 * 2 ^ (l0.length : Int).toNat)) = ji9 := shl_small hji9
         have hji9p : (IntKind.i64.wrap (1 * 2 ^ min l0.length 64)) = ji9 := hji9_
         have hji9q : (l0.length : Int) ≤ 64 → (IntKind.i64.wrap (1 * 2 ^ l0.length)) = ji9 := hji9z
         have hji9r : (IntKind.i64.wrap (2 ^ min l0.length 64)) = ji9 := by have h_ := hji9p; rw [Int.one_mul] at h_; exact h_
         have hji9s : (l0.length : Int) ≤ 64 → (IntKind.i64.wrap (2 ^ l0.length)) = ji9 := fun hle_ => by have h_ := hji9q hle_; rw [Int.one_mul] at h_; exact h_
         have hji9u : (IntKind.i64.wrap (2 ^ min (l0.length : Int).toNat 64)) = ji9 := by have h_ := hji9_; rw [Int.one_mul] at h_; exact h_
         have hji9v : (l0.length : Int) ≤ 64 → (IntKind.i64.wrap (2 ^ (l0.length : Int).toNat)) = ji9 := fun hle_ => by have h_ := hji9z hle_; rw [Int.one_mul] at h_; exact h_
         have hji9y : (wrap64 (1 * 2 ^ min (l0.length : Int).toNat 64)) = ji9 := (i64_w _).symm.trans hji9_
         have hji9x : (l0.length : Int) ≤ 64 → (wrap64 (1 * 2 ^ (l0.length : Int).toNat)) = ji9 := fun h_ => (i64_w _).symm.trans (hji9z h_)
         by_cases c10 : (rd l0 x10_1) ≥ (ji9)
         ·rw [if_pos c10] at H
          have c10b0 : decide ((ji9) ≤ (rd l0 x10_1)) = true := decide_eq_true c10
          clear c10
          have H' := Aside0.mk H
          clear H
          go_wp2
          repeat (go_quiet (fail); try go_wp2)
          go_meet
          case rel => exact ⟨_, (true), (Qrs), H', ⟨by have := HK1.out; first | omega | exact Nat.le_refl _⟩, by repeat (first | exact Drawn0.refl _ | apply Drawn0.step)⟩
         ·rw [if_neg c10] at H
          have c10b0 : decide ((ji9) ≤ (rd l0 x10_1)) = false := decide_eq_false c10
          clear c10
          have c11b0 := eq_true (of_decide_eq_true (Qas) : 0 ≤ x10_1)
          obtain ⟨ji12, hji12⟩ : ∃ j_ : Int, (shr .i64 (rd l0 x10_1) x10_1) = j_ := ⟨_, rfl⟩
          replace H : (lampblackref01_IsGraph.j1 k1 l0 a1 x10_1 (rd l0 x10_1) l0 (l0.length : Int) x10_1 ((Go.bits .and .i64 (ji12) 1) == 1)) = some r := by first | (rw [hji12] at H; exact H) | (simp only [hji12] at H ⊢; exact H)
          have hji12_ : ((rd l0 x10_1) / 2 ^ min x10_1.toNat 64) = ji12 := hji12
          have hji12z : x10_1 ≤ 64 → ((rd l0 x10_1) / 2 ^ x10_1.toNat) = ji12 := shr_small hji12
          have H' := Aside0.mk H
          clear H
          go_wp2
          repeat (go_quiet (fail); try go_wp2)
          go_meet
          case rel => exact ⟨_, (((Go.bits .and .i64 (ji12) 1) == 1)), (by first | rfl | (simp; done) | (simp only [← hji12] <;> (first | rfl | simp)) | (simp [*]; done)), H', ⟨by have := HK1.out; first | omega | exact Nat.le_refl _⟩, by repeat (first | exact Drawn0.refl _ | apply Drawn0.step)⟩
      case rest =>
       clear HC6
       try clear c1
       try clear p2
       try clear q2
       try clear hx2
       try clear c3
       try clear c3b0
       try clear c4
       try clear c4b0
       try clear c5
       try clear c5b0
       try clear c6
       try clear p6
       try clear c7
       try clear c7b0
       try clear c8
       try clear c8b0
       try clear c10
       try clear c10b0
       try clear c11
       try clear c11b0
       try clear hx215_0
       try clear p2
       try clear p215
       try clear q215
       obtain ⟨kq, x36_5, rfl, HA, HJ5, ⟨mc5, rfl⟩⟩ := hcut
       cases kq with
       | zero => exact absurd HA.out (by simp [lampblackref01_IsGraph.j1])
       | succ kj5 =>
        have H := HA.out
        clear HA
        simp only [lampblackref01_IsGraph.j1] at H
        by_cases c13 : x36_5 = true
        ·subst c13
         have H1 : (some false) = some r := by rw [if_pos rfl] at H; exact H
         clear H
         have H := H1
         clear H1
         obtain rfl := Option.some.inj H
         go_wp2
         repeat (go_quiet (fail); try go_wp2)
         go_ret
         exact ⟨by first | rfl | (simp; done) | (simp [*]; done), by repeat (first | exact Drawn0.refl _ | apply Drawn0.step)⟩
        ·replace c13 := Bool.eq_false_iff.mpr c13
         subst c13
         have H1 : (lampblackref01_IsGraph.l1 kj5 l0 a1 x10_1 (rd l0 x10_1) l0 (l0.length : Int) x10_1 (l0.length : Int) 0) = some r := by rw [if_neg (show ¬ (false = true) by decide)] at H; exact H
         clear H
         have H := H1
         clear H1
         have H' := Aside0.mk H
         clear H
         go_wp2
         repeat (go_quiet (fail); try go_wp2)
         go_loopg [39] kj5 (fun kq v39 w' => ∃ (x39_3 : Int), v39 = .int .i64 x39_3 ∧ Aside0 (lampblackref01_IsGraph.l1 kq l0 a1 x10_1 (rd l0 x10_1) l0 (l0.length : Int) x10_1 (l0.length : Int) x39_3 = some r) ∧ Aside0 (kq ≤ kj5) ∧ Drawn0 w w')
         case atStart => exact ⟨(0), (Qrs), H', ⟨Nat.le_refl _⟩, by repeat (first | exact Drawn0.refl _ | apply Drawn0.step)⟩
         case round =>
          clear H'
          try clear c1
          try clear p2
          try clear q2
          try clear hx2
          try clear c3
          try clear c3b0
          try clear c4
          try clear c4b0
          try clear c5
          try clear c5b0
          try clear c6
          try clear p6
          try clear c7
          try clear c7b0
          try clear c8
          try clear c8b0
          try clear c10
          try clear c10b0
          try clear c11
          try clear c11b0
          try clear c13
          try clear hx215_0
          try clear p2
          try clear p215
          try clear p6
          try clear q2
          try clear q215
          obtain ⟨x39_3, rfl, HA, HK3, ⟨m3, rfl⟩⟩ := hrel
          cases gk with
          | zero => exact absurd HA.out (by simp [lampblackref01_IsGraph.l1])
          | succ k3 =>
           have H := HA.out
           clear HA
           simp only [lampblackref01_IsGraph.l1] at H
           by_cases c14 : x39_3 < (l0.length : Int)
           ·rw [if_pos c14] at H
            have c14b0 : decide (x39_3 < (l0.length : Int)) = true := decide_eq_true c14
            clear c14
            by_cases c15 : 0 ≤ x39_3
            ·rw [if_pos c15] at H
             have c15b0 := eq_true c15
             have c15b1 : decide (0 ≤ x39_3) = true := decide_eq_true c15
             clear c15
             obtain ⟨ji16, hji16⟩ : ∃ j_ : Int, (shr .i64 (rd l0 x10_1) x39_3) = j_ := ⟨_, rfl⟩
             replace H : (if x39_3 < (l0.length : Int) then (if 0 ≤ x10_1 then (if (Go.bits .and .i64 (ji16) 1) = (Go.bits .and .i64 (shr .i64 (rd l0 x39_3) x10_1) 1) then (lampblackref01_IsGraph.l1 k3 l0 a1 x10_1 (rd l0 x10_1) l0 (l0.length : Int) x10_1 (l0.length : Int) (wrap64 (x39_3 + 1))) else (some false)) else (none)) else (none)) = some r := by first | (rw [hji16] at H; exact H) | (simp only [hji16] at H ⊢; exact H)
             have hji16_ : ((rd l0 x10_1) / 2 ^ min x39_3.toNat 64) = ji16 := hji16
             have hji16z : x39_3 ≤ 64 → ((rd l0 x10_1) / 2 ^ x39_3.toNat) = ji16 := shr_small hji16
             by_cases c17 : x39_3 < (l0.length : Int)
             ·rw [if_pos c17] at H
              have c17b0 : decide (x39_3 < (l0.length : Int)) = true := decide_eq_true c17
              clear c17
              by_cases c18 : 0 ≤ x10_1
              ·rw [if_pos c18] at H
               have c18b0 := eq_true c18
               have c18b1 : decide (0 ≤ x10_1) = true := decide_eq_true c18
               clear c18
               obtain ⟨ji19, hji19⟩ : ∃ j_ : Int, (shr .i64 (rd l0 x39_3) x10_1) = j_ := ⟨_, rfl⟩
               replace H : (if (Go.bits .and .i64 (ji16) 1) = (Go.bits .and .i64 (ji19) 1) then (lampblackref01_IsGraph.l1 k3 l0 a1 x10_1 (rd l0 x10_1) l0 (l0.length : Int) x10_1 (l0.length : Int) (wrap64 (x39_3 + 1))) else (some false)) = some r := by first | (rw [hji19] at H; exact H) | (simp only [hji19] at H ⊢; exact H)
               have hji19_ : ((rd l0 x39_3) / 2 ^ min x10_1.toNat 64) = ji19 := hji19
               have hji19z : x10_1 ≤ 64 → ((rd l0 x39_3) / 2 ^ x10_1.toNat) = ji19 := shr_small hji19
               by_cases c20 : (Go.bits .and .i64 (ji16) 1) = (Go.bits .and .i64 (ji19) 1)
               ·rw [if_pos c20] at H
                have c20b0 : ((Go.bits .and .i64 (ji16) 1) == (Go.bits .and .i64 (ji19) 1)) = true := beq_iff_eq.mpr c20
                have c20b1 : ((Go.bits .and .i64 (ji16) 1) != (Go.bits .and .i64 (ji19) 1)) = false := bne_eq_false_iff_eq.mpr c20
                clear c20
                have H' := Aside0.mk H
                clear H
                have p216 : 0 ≤ (x39_3 : Int) := of_decide_eq_true (Qas)
                have q216 : x39_3 < (l0.length : Int) := of_decide_eq_true (Qas)
                obtain ⟨ad216, e216, hx216_0⟩ := Kd.at_int HR0.out x39_3 p216 q216
                obtain rfl : ad215 = ad216 := (by injection e216)
                replace p216 := eq_true p216
                replace q216 := eq_true q216
                go_wp2
                repeat (go_quiet (fail); try go_wp2)
                go_roundg k3
                case measure => have := HK1.out; have := HJ5.out; have := HK3.out; omega
                case rel => exact ⟨(wrap64 (x39_3 + 1)), (Qrs), H', ⟨by have := HK1.out; have := HJ5.out; have := HK3.out; omega⟩, by repeat (first | exact Drawn0.refl _ | apply Drawn0.step)⟩
               ·rw [if_neg c20] at H
                have c20b0 : ((Go.bits .and .i64 (ji16) 1) == (Go.bits .and .i64 (ji19) 1)) = false := beq_eq_false_iff_ne.mpr c20
                have c20b1 : ((Go.bits .and .i64 (ji16) 1) != (Go.bits .and .i64 (ji19) 1)) = true := bne_iff_ne.mpr c20
                obtain rfl := Option.some.inj H
                have p216 : 0 ≤ (x39_3 : Int) := of_decide_eq_true (Qas)
                have q216 : x39_3 < (l0.length : Int) := of_decide_eq_true (Qas)
                obtain ⟨ad216, e216, hx216_0⟩ := Kd.at_int HR0.out x39_3 p216 q216
                obtain rfl : ad215 = ad216 := (by injection e216)
                replace p216 := eq_true p216
                replace q216 := eq_true q216
                go_wp2
                repeat (go_quiet (fail); try go_wp2)
                go_ret
                exact ⟨by first | rfl | (simp; done) | (simp only [← hji16, ← hji19] <;> (first | rfl | simp)) | (simp [*]; done), by repeat (first | exact Drawn0.refl _ | apply Drawn0.step)⟩
              ·rw [if_neg c18] at H
               exact absurd H (by simp)
             ·rw [if_neg c17] at H
              exact absurd H (by simp)
            ·rw [if_neg c15] at H
             exact absurd H (by simp)
           ·rw [if_neg c14] at H
            have c14b0 : decide (x39_3 < (l0.length : Int)) = false := decide_eq_false c14
            clear c14
            have H' := Aside0.mk H
            clear H
            go_wp2
            repeat (go_quiet (fail); try go_wp2)
            go_roundg k3
            case measure => have := HK1.out; have := HJ5.out; have := HK3.out; omega
            case rel => exact ⟨(wrap64 (x10_1 + 1)), (Qrs), H', ⟨by have := HK1.out; have := HJ5.out; have := HK3.out; omega⟩, by repeat (first | exact Drawn0.refl _ | apply Drawn0.step)⟩
     ·rw [if_neg c5] at H
      exact absurd H (by simp)
    ·rw [if_neg c4] at H
     exact absurd H (by simp)
   ·rw [if_neg c3] at H
    have c3b0 : decide (x10_1 < (l0.length : Int)) = false := decide_eq_false c3
    clear c3
    by_cases c21 : (l0.length : Int) ≥ 1
    ·rw [if_pos c21] at H
     have c21b0 : decide (1 ≤ (l0.length : Int)) = true := decide_eq_true c21
     have c21b1 : decide (1 ≤ l0.length) = true := decide_eq_true (by omega)
     clear c21
     obtain rfl := Option.some.inj H
     go_wp2
     repeat (go_quiet (fail); try go_wp2)
     go_ret
     exact ⟨by first | rfl | (simp; done) | (simp [*]; done), by repeat (first | exact Drawn0.refl _ | apply Drawn0.step)⟩
    ·rw [if_neg c21] at H
     have c21b0 : decide (1 ≤ (l0.length : Int)) = false := decide_eq_false c21
     have c21b1 : decide (1 ≤ l0.length) = false := decide_eq_false (by omega)
     clear c21
     obtain rfl := Option.some.inj H
     go_wp2
     repeat (go_quiet (fail); try go_wp2)
     go_ret
     exact ⟨by first | rfl | (simp; done) | (simp [*]; done), by repeat (first | exact Drawn0.refl _ | apply Drawn0.step)⟩
end
noncomputable section
mutual
def lampblackref01_Reached.l0 : Nat → List Int → Int → Int → Int → Int → Option (Int)
 | 0, _, _, _, _, _ => none
 | k + 1, x0, x1, x7, x12, x13 => if x13 < x12 then (lampblackref01_Reached.l1 k x0 x1 x7 x12 x13 (x0.length : Int) 0) else (some x7)
def lampblackref01_Reached.l1 : Nat → List Int → Int → Int → Int → Int → Int → Int → Option (Int)
 | 0, _, _, _, _, _, _, _ => none
 | k + 1, x0, x1, x7, x12, x13, x16, x17 => if x17 < x16 then (if 0 ≤ x17 then (if (Go.bits .and .i64 (shr .i64 x7 x17) 1) = 1 then (if x17 < (x0.length : Int) then (lampblackref01_Reached.l1 k x0 x1 (Go.bits .or .i64 x7 (Go.bits .and .i64 (rd x0 x17) x1)) x12 x13 x16 (wrap64 (x17 + 1))) else (none)) else (lampblackref01_Reached.l1 k x0 x1 x7 x12 x13 x16 (wrap64 (x17 + 1)))) else (none)) else (lampblackref01_Reached.l0 k x0 x1 x7 x12 (wrap64 (x13 + 1)))
end
def lampblackref01_Reached.f (k : Nat) (l0 : List Int) (a1 : Int) (a2 : Int) : Option (Int) := if 0 ≤ a2 then (lampblackref01_Reached.l0 k l0 a1 (shl .i64 1 a2) (l0.length : Int) 0) else (none)
end
end Go.Proofs.YtoffehihicabcaaDoor.X
end
section
namespace Go.Proofs.YtoffehihicabcaaDoor.X
open Go.RowKit YtoffehihicabcaaDoorW.PrintWords YtoffehihicabcaaDoorW.PrintLast YtoffehihicabcaaDoorW.PrintMore YtoffehihicabcaaDoor.T
theorem isGraph_l1 (m : Nat) (g : List Int) (hn : g.length ≤ 13) (i : Nat) (hi : i < g.length) (r : Bool)
  (hrest : Ev (fun k => lampblackref01_IsGraph.l0 k g (m : Int) g (g.length : Int) ((i + 1 : Nat) : Int)) r) :
  ∀ d j, j + d = g.length → Ev (fun k => lampblackref01_IsGraph.l1 k g (m : Int) (i : Int) (rd g (i : Int)) g (g.length : Int) (i : Int) (g.length : Int) (j : Int))
   (allFrom (fun j => decide (ibit (rd g (i : Int)) j = ibit (rd g (j : Int)) i)) g.length d j && r) := by
 intro d
 induction d with
 | zero =>
  intro j hj
  refine Ev.step (fun k => ?_) hrest
  rw [lampblackref01_IsGraph.l1, if_neg (by omega), wrap_succ i (by omega)]
 | succ d ih =>
  intro j hj
  simp only [allFrom]
  by_cases hb : ibit (rd g (i : Int)) j = ibit (rd g (j : Int)) i
  ·refine Ev.step (f := fun k => lampblackref01_IsGraph.l1 k g (m : Int) (i : Int) (rd g (i : Int)) g (g.length : Int) (i : Int) (g.length : Int) ((j + 1 : Nat) : Int)) (fun k => ?_) ?_
   ·rw [lampblackref01_IsGraph.l1, if_pos (by omega), if_pos (by omega), if_pos (by omega), if_pos (by omega), wrap_succ j (by omega)]
    exact if_pos hb
   ·have := ih (j + 1) (by omega)
    simpa [hb] using this
  ·refine Ev.step (f := fun _ => some false) (fun k => ?_) (Ev.some (by simp [hb]))
   rw [lampblackref01_IsGraph.l1, if_pos (by omega), if_pos (by omega), if_pos (by omega), if_pos (by omega)]
   exact if_neg hb
theorem isGraph_l0 (m : Nat) (hm : m ≤ 13) (g : List Int) (h1 : 1 ≤ g.length) (hn : g.length ≤ m) :
  ∀ d i, i + d = g.length → Ev (fun k => lampblackref01_IsGraph.l0 k g (m : Int) g (g.length : Int) (i : Int)) (allFrom (rowOk g) g.length d i) := by
 intro d
 induction d with
 | zero =>
  intro i hi
  refine Ev.step (f := fun _ => some true) (fun k => ?_) (Ev.some (by simp [allFrom]))
  rw [lampblackref01_IsGraph.l0, if_neg (by omega), if_pos (by omega), decide_eq_true (by omega)]
 | succ d ih =>
  intro i hi
  have stop : ∀ k, lampblackref01_IsGraph.j1 (k + 1) g (m : Int) (i : Int) (rd g (i : Int)) g (g.length : Int) (i : Int) true = some false := fun k => by
   rw [lampblackref01_IsGraph.j1, if_pos rfl]
  simp only [allFrom, rowOk]
  by_cases h1' : rd g (i : Int) < 0
  ·refine Ev.step (fun k => ?_) (f := fun k => lampblackref01_IsGraph.j1 k g (m : Int) (i : Int) (rd g (i : Int)) g (g.length : Int) (i : Int) true) ?_
   ·rw [lampblackref01_IsGraph.l0, if_pos (by omega), if_pos (by omega), if_pos (by omega), if_neg (by omega), if_pos h1']
   ·exact Ev.step stop (Ev.some (by simp [h1']))
  ·by_cases h2 : rd g (i : Int) ≥ shl .i64 1 (g.length : Int)
   ·refine Ev.step (fun k => ?_) (f := fun k => lampblackref01_IsGraph.j1 k g (m : Int) (i : Int) (rd g (i : Int)) g (g.length : Int) (i : Int) true) ?_
    ·rw [lampblackref01_IsGraph.l0, if_pos (by omega), if_pos (by omega), if_pos (by omega), if_neg (by omega), if_neg h1', if_pos h2]
    ·exact Ev.step stop (Ev.some (by simp [h2]))
   ·refine Ev.step (fun k => ?_) (f := fun k => lampblackref01_IsGraph.j1 k g (m : Int) (i : Int) (rd g (i : Int)) g (g.length : Int) (i : Int) (ibit (rd g (i : Int)) i == 1)) ?_
    ·rw [lampblackref01_IsGraph.l0, if_pos (by omega), if_pos (by omega), if_pos (by omega), if_neg (by omega), if_neg h1', if_neg h2]
     rfl
    ·by_cases h3 : (ibit (rd g (i : Int)) i == 1) = true
     ·simp only [h3]
      exact Ev.step stop (Ev.some (by simp))
     ·refine Ev.step (fun k => by rw [lampblackref01_IsGraph.j1, if_neg h3]) ?_
      have := isGraph_l1 m g (by omega) i (by omega) _ (ih (i + 1) (by omega)) g.length 0 (by omega)
      have h3' : (ibit (rd g (i : Int)) i == 1) = false := by simpa using h3
      simp only [h1', h2, h3', decide_false, Bool.not_false, Bool.true_and]
      exact this
theorem isGraph_ev (m : Nat) (hm : m ≤ 13) (g : List Int) (hg : g.length < 2 ^ 60) : Ev (fun k => lampblackref01_IsGraph.f k g (m : Int)) (chk m g) := by
 unfold lampblackref01_IsGraph.f
 by_cases h1 : 1 ≤ g.length
 ·by_cases h2 : g.length ≤ m
  ·have := isGraph_l0 m hm g h1 h2 g.length 0 (by omega)
   simpa [chk, h1, h2] using this
  ·refine Ev.step (f := fun k => lampblackref01_IsGraph.j1 k g (m : Int) 0 (rd g 0) g (g.length : Int) 0 true) (fun k => ?_) (Ev.step (f := fun _ => some false) (fun k => ?_) (Ev.some (by simp [chk, h2])))
   ·rw [lampblackref01_IsGraph.l0, if_pos (by omega), if_pos (by omega), if_pos (by omega), if_pos (by omega)]
   ·rw [lampblackref01_IsGraph.j1, if_pos rfl]
 ·refine Ev.step (f := fun _ => some false) (fun k => ?_) (Ev.some (by simp [chk, h1]))
  rw [lampblackref01_IsGraph.l0, if_neg (by omega), if_neg (by omega)]
end Go.Proofs.YtoffehihicabcaaDoor.X
end
section
namespace Go.Proofs.YtoffehihicabcaaDoor.X
open Go.RowKit YtoffehihicabcaaDoorW.PrintWords YtoffehihicabcaaDoorW.PrintLast YtoffehihicabcaaDoorW.PrintMore
attribute [local go_sem] max2_int min2_int max_two min_two max_three min_three max_four min_four
noncomputable section
mutual
def lampblackref02_Connected.j0 : Nat → List Int → Int → Bool → Option (Bool)
 | 0, _, _, _ => none
 | k + 1, x0, x1, x14 => if x14 = true then (some false) else (lampblackref02_Connected.l0 k x0 x1 0)
def lampblackref02_Connected.l0 : Nat → List Int → Int → Int → Option (Bool)
 | 0, _, _, _ => none
 | k + 1, x0, x1, x5 => if 0 ≤ x5 then (if (Go.bits .and .i64 (shr .i64 x1 x5) 1) = 0 then (lampblackref02_Connected.l0 k x0 x1 (wrap64 (x5 + 1))) else ((lampblackref01_Reached.f k x0 x1 x5).bind fun t219 => (some (t219 == x1)))) else (none)
end
def lampblackref02_Connected.f (k : Nat) (l0 : List Int) (a1 : Int) : Option (Bool) := if a1 ≤ 0 then (lampblackref02_Connected.j0 k l0 a1 true) else (lampblackref02_Connected.j0 k l0 a1 (decide (a1 ≥ (shl .i64 1 (l0.length : Int)))))
end
noncomputable section
def lampblackref02_Around.l0 : Nat → List Int → Int → Int → Int → Int → Option (Int)
 | 0, _, _, _, _, _ => none
 | k + 1, x0, x1, x5, x8, x9 => if x9 < x8 then (if 0 ≤ x9 then (if (Go.bits .and .i64 (shr .i64 x1 x9) 1) = 1 then (if x9 < (x0.length : Int) then (lampblackref02_Around.l0 k x0 x1 (Go.bits .or .i64 x5 (rd x0 x9)) x8 (wrap64 (x9 + 1))) else (none)) else (lampblackref02_Around.l0 k x0 x1 x5 x8 (wrap64 (x9 + 1)))) else (none)) else (some x5)
def lampblackref02_Around.f (k : Nat) (l0 : List Int) (a1 : Int) : Option (Int) := lampblackref02_Around.l0 k l0 a1 0 (l0.length : Int) 0
end
noncomputable section
def lampblackref02_Touch.f (k : Nat) (l0 : List Int) (a1 : Int) (a2 : Int) : Option (Bool) := (lampblackref02_Around.f k l0 a1).bind fun t221 => (some ((Go.bits .and .i64 (Go.bits .or .i64 a1 t221) a2) != 0))
end
noncomputable section
def lampblackref02_Valid.f (k : Nat) (l0 : List Int) : Option (Bool) := (lampblackref01_IsGraph.f k l0 9).bind fun t217 => (some t217)
set_option maxHeartbeats 8000000 in
set_option maxRecDepth 100000 in
theorem lampblackref02_Valid.calls (k : Nat) (A0 : Option Addr) (c0 : Nat) (l0 : List Int) (r : Bool) (w : World) (hr0 : Kd.C (Kd.int .i64) w A0 l0.length l0) (hc0 : l0.length ≤ c0) (h : lampblackref02_Valid.f k l0 = some r) :
  Calls Tryd.prog 23 #[.slice A0 l0.length c0] w fun e w' => e = .returned (.bool r) ∧ Drawn0 w w' := by
 have HR0 := Aside0.mk hr0
 have HC0 := Aside0.mk hc0
 clear hr0 hc0
 have H : ((lampblackref01_IsGraph.f k l0 9).bind fun t217 => (some t217)) = some r := h
 clear h
 replace H := Option.bind_eq_some_iff.mp H
 obtain ⟨t217, A20, H⟩ := H
 replace H : (some t217) = some r := H
 have A2 := Aside0.mk A20
 clear A20
 obtain rfl := Option.some.inj H
 go_enter Tryd.func23, Tryd.ntmps23
 go_wp2_with (first | ((with_reducible refine gate_callee (f := 65) rfl ?_); refine goesL_ (some 4) rfl rfl Tryd.func65 (by kernel_rfl) rfl #[.slice A0 l0.length c0, .int .i64 9] rfl (Qls) ?_; (with_reducible refine (lampblackref01_IsGraph.calls k _ _ l0 9 t217 _ ?side1 ?side2 A2.out).mono ?_); (case side1 => exact Qsc HR0.out); (case side2 => exact HC0.out); rintro e w' ⟨rfl, ⟨nd, rfl⟩⟩; refine ⟨_, rfl, ?_⟩))
 go_ret
 exact ⟨by first | rfl | (simp; done) | (simp [*]; done), by repeat (first | exact Drawn0.refl _ | apply Drawn0.step)⟩
end
noncomputable section
def lampblackref02_Size.l0 : Nat → Int → Int → Option (Int)
 | 0, _, _ => none
 | k + 1, x0, x3 => if x0 > 0 then (lampblackref02_Size.l0 k (Go.bits .and .i64 x0 (wrap64 (x0 - 1))) (wrap64 (x3 + 1))) else (some x3)
def lampblackref02_Size.f (k : Nat) (a0 : Int) : Option (Int) := lampblackref02_Size.l0 k a0 0
theorem lampblackref02_Size.mono_l : ∀ k, (∀ y0 y1, LeO (lampblackref02_Size.l0 k y0 y1) (lampblackref02_Size.l0 (k + 1) y0 y1))
 | 0 => fun _ _ r h => by simp [lampblackref02_Size.l0] at h
 | k + 1 => by
  have ih0 := lampblackref02_Size.mono_l k
  ·intro y0 y1
   unfold lampblackref02_Size.l0
   repeat' first
   | (with_reducible exact ih0 _ _)
   | (with_reducible exact LeO.refl _)
   | (with_reducible exact LeO.none _)
   | (with_reducible refine LeO.ite ?_ ?_)
   | (with_reducible refine LeO.bind ?_ (fun _ => ?_))
   | exact ih0 _ _
   | exact LeO.none _
   | refine LeO.ite ?_ ?_
   | refine LeO.bind ?_ (fun _ => ?_)
theorem lampblackref02_Size.mono : ∀ a0 k, LeO (lampblackref02_Size.f k a0) (lampblackref02_Size.f (k + 1) a0) := by
 intro a0 k
 have ih0 := lampblackref02_Size.mono_l k
 unfold lampblackref02_Size.f
 repeat' first
   | (with_reducible exact ih0 _ _)
   | (with_reducible exact LeO.refl _)
   | (with_reducible exact LeO.none _)
   | (with_reducible refine LeO.ite ?_ ?_)
   | (with_reducible refine LeO.bind ?_ (fun _ => ?_))
   | exact ih0 _ _
   | exact LeO.none _
   | refine LeO.ite ?_ ?_
   | refine LeO.bind ?_ (fun _ => ?_)
set_option maxHeartbeats 8000000 in
set_option maxRecDepth 100000 in
theorem lampblackref02_Size.calls (k : Nat) (a0 : Int) (r : Int) (w : World) (h : lampblackref02_Size.f k a0 = some r) :
  Calls Tryd.prog 35 #[.int .i64 a0] w fun e w' => e = .returned (.int .i64 r) ∧ Drawn0 w w' := by
 have H : (lampblackref02_Size.l0 k a0 0) = some r := h
 clear h
 have H' := Aside0.mk H
 clear H
 go_enter Tryd.func35, Tryd.ntmps35
 go_wp2
 go_loopg [0, 3] k (fun kq v0 v3 w' => ∃ (x0_1 : Int) (x3_1 : Int), v0 = .int .i64 x0_1 ∧ v3 = .int .i64 x3_1 ∧ Aside0 (lampblackref02_Size.l0 kq x0_1 x3_1 = some r) ∧ Aside0 (kq ≤ k) ∧ Drawn0 w w')
 case atStart => exact ⟨(a0), (0), (Qrs), (Qrs), H', ⟨Nat.le_refl _⟩, by repeat (first | exact Drawn0.refl _ | apply Drawn0.step)⟩
 case round =>
  clear H'
  obtain ⟨x0_1, x3_1, rfl, rfl, HA, HK1, ⟨m1, rfl⟩⟩ := hrel
  cases gk with
  | zero => exact absurd HA.out (by simp [lampblackref02_Size.l0])
  | succ k1 =>
   have H := HA.out
   clear HA
   simp only [lampblackref02_Size.l0] at H
   by_cases c2 : x0_1 > 0
   ·rw [if_pos c2] at H
    have c2b0 : decide (0 < x0_1) = true := decide_eq_true c2
    clear c2
    have H' := Aside0.mk H
    clear H
    go_wp2
    go_roundg k1
    case measure => have := HK1.out; omega
    case rel => exact ⟨(Go.bits .and .i64 x0_1 (wrap64 (x0_1 - 1))), (wrap64 (x3_1 + 1)), (Qrs), (Qrs), H', ⟨by have := HK1.out; omega⟩, by repeat (first | exact Drawn0.refl _ | apply Drawn0.step)⟩
   ·rw [if_neg c2] at H
    have c2b0 : decide (0 < x0_1) = false := decide_eq_false c2
    clear c2
    obtain rfl := Option.some.inj H
    go_wp2
    go_ret
    exact ⟨by first | rfl | (simp; done) | (simp [*]; done), by repeat (first | exact Drawn0.refl _ | apply Drawn0.step)⟩
end
noncomputable section
def slices_Clone_Graph.f (l0 : List Int) : Option (List Int) := (some (([] : List Int) : List Int)).bind fun y140 => (if y140.length + l0.length < 17592186044416 then (some (y140 ++ l0)) else (none))
set_option maxHeartbeats 8000000 in
set_option maxRecDepth 100000 in
theorem slices_Clone_Graph.calls_some (a0 : Addr) (c0 : Nat) (l0 : List Int) (r : List Int) (w : World) (hr0 : Kd.C (Kd.int .i64) w (some a0) l0.length l0) (hc0 : l0.length ≤ c0) (h : slices_Clone_Graph.f l0 = some r) :
  Calls Tryd.prog 61 #[.slice (some a0) l0.length c0] w fun e w' => ∃ v0_ : Value, e = .returned (v0_) ∧ Kd.R (Kd.int .i64) 3 w' w.heap.size (fun _ => True) v0_ r ∧ Below w.heap.size w w' := by
 have HR0 := Aside0.mk hr0
 have HC0 := Aside0.mk hc0
 clear hr0 hc0
 have HB := Aside0.mk (Below.refl w.heap.size w)
 have H : ((some (([] : List Int) : List Int)).bind fun y140 => (if y140.length + l0.length < 17592186044416 then (some (y140 ++ l0)) else (none))) = some r := h
 clear h
 obtain ⟨y140, hy140⟩ : ∃ y_ : List Int, y_ = (([] : List Int)) := ⟨_, rfl⟩
 replace H : (if y140.length + l0.length < 17592186044416 then (some (y140 ++ l0)) else (none)) = some r := by first | (rw [hy140]; with_reducible exact H) | (have H2_ := (Option.bind_some _ _).symm.trans H; rw [hy140]; with_reducible exact H2_) | (have H2_ := (Option.bind_some _ _).symm.trans H; with_reducible exact H2_) | with_reducible exact H | (rw [hy140]; exact H) | exact H
 have Ny140 := Aside0.mk hy140
 clear hy140
 by_cases c2 : y140.length + l0.length < 17592186044416
 ·rw [if_pos c2] at H
  have LMc2 := Aside0.mk c2
  clear c2
  obtain ⟨y143, hy143⟩ : ∃ y_ : List Int, y_ = (y140 ++ l0) := ⟨_, rfl⟩
  replace H : (some y143) = some r := by first | (rw [hy143]; with_reducible exact H) | (have H2_ := (Option.bind_some _ _).symm.trans H; rw [hy143]; with_reducible exact H2_) | (have H2_ := (Option.bind_some _ _).symm.trans H; with_reducible exact H2_) | with_reducible exact H | (rw [hy143]; exact H) | exact H
  have Ny143 := Aside0.mk hy143
  clear hy143
  obtain rfl := Option.some.inj H
  have heq_ := fun (w : World) => Lib.run_eql_slice_nil (P := Tryd.prog) w 23 3 (some a0) l0.length c0 0 0 Tryd.underlying23
  go_enter Tryd.func61, Tryd.ntmps61
  go_wp2_with (first | ((with_reducible refine gate_dst (N := 5) rfl ?_); refine Kd.R_lit (Kd.int .i64) _ 3 ?hg (N := 5) ?hd (xs := ([] : List Int)) (inner := []) (ok := fun _ => True) (okp := fun _ => True) ?hr ?hp (fun _ hk => hk) trivial (Below.refl _ _) (Nat.le_refl _) (by simp) ?_; (case hd => rfl); (case hg => rfl); (case hr => first | (go_simp; done) | (go_simp; rfl)); (case hp => exact (Reps.none _ _)); intro v141 w3 ho4 hb hg_ hnew_; clear hg_ hnew_; (first | rw [← Ny140.out] at ho4 | (simp only [Int.reduceToNat] at ho4; rw [← Ny140.out] at ho4)); have n0_ := Aside0.mk (Kd.R_lower ho4 (below_size (Qaw))); have n1_ := Aside0.mk (below_step (Qaw) hb); clear HB; have HO142 := n0_; have HB := n1_; clear n0_ n1_; clear hb ho4) | ((with_reducible refine gate_builtin (b := .append) (xs := #[.tmp 5, .tmp 6]) rfl ?_); at_builtin; refine Kd.R_append_rows (Kd.int .i64) (w0 := w) w.heap.size rfl (.tmp 5) (.tmp 6) 23 3 (.int .i64 0) 8 rfl Tryd.underlying23 info3 rfl (by decide) (by omega) v141 y140 l0 _ _ _ (fun _ => True) (fun _ => False) rfl rfl ?aO ?aR (fun _ _ h => h) (fun _ h => h.elim) ?aF ?aB ?aS ?aL ?_; (case aR => exact Qsc (Kd.C_below HR0.out HB.out)); (case aB => exact (Qaw)); (case aF => exact (fun _ _ => trivial)); (case aO => exact (Qro HO142.out)); (case aS => exact (below_size (Qaw))); (case aL => have := LMc2.out; omega); intro v144 w5 ho hb hg hat; rw [← Ny143.out] at ho; have n0_ := Aside0.mk (hb); have n1_ := Aside0.mk (ho); clear HB; clear HO142; have HB := n0_; have HO145 := n1_; clear n0_ n1_; clear ho hb hg hat))
  go_ret
  exact ⟨_, by first | rfl | (simp [errW_none, errW_some] <;> rfl) | (simp [*, errW_none, errW_some] <;> rfl), by (with_reducible repeat (first | apply Kd.R_alloc | apply Kd.R_drewN | apply Kd.R_drew)); exact HO145.out, by repeat (first | (with_reducible first | exact HB.out | apply below_alloc | apply pw_below_drewN | apply below_drew1) | exact HB.out)⟩
 ·rw [if_neg c2] at H
  exact absurd H (by simp)
theorem slices_Clone_Graph.calls (A0 : Option Addr) (c0 : Nat) (l0 : List Int) (r : List Int) (w : World) (hr0 : Kd.C (Kd.int .i64) w A0 l0.length l0) (hc0 : l0.length ≤ c0) (h : slices_Clone_Graph.f l0 = some r) :
  Calls Tryd.prog 61 #[.slice A0 l0.length c0] w fun e w' => ∃ v0_ : Value, e = .returned (v0_) ∧ Kd.R (Kd.int .i64) 3 w' w.heap.size (fun _ => True) v0_ r ∧ Below w.heap.size w w' := by
 cases A0 with
 | some a0 => exact slices_Clone_Graph.calls_some a0 c0 l0 r w hr0 hc0 h
 | none =>
  have hl : l0 = [] := by
   rcases Nat.eq_zero_or_pos l0.length with h0 | h0
   ·exact List.length_eq_zero_iff.mp h0
   ·obtain ⟨ad, he, _⟩ := hr0.2.2 h0
    cases he
  subst hl
  obtain rfl : [] = r := by simpa [slices_Clone_Graph.f] using h
  clear h hr0 hc0
  have heq_ := fun (w : World) => Lib.run_eql_slice_nil (P := Tryd.prog) w 23 3 none 0 c0 0 0 Tryd.underlying23
  go_enter Tryd.func61, Tryd.ntmps61
  go_wp2
  go_ret
  exact ⟨_, rfl, Kd.R_nil _ _ _ _ _, Below.refl _ _⟩
end
noncomputable section
def lampblacklaw02_Few.f (l0 : List Int) : Option (List Int) := if 0 ≤ (mn (l0.length : Int) 13) then (if (mn (l0.length : Int) 13) ≤ (l0.length : Int) then ((slices_Clone_Graph.f (l0.take ((mn (l0.length : Int) 13) : Int).toNat)).bind fun t147 => (some t147)) else (none)) else (none)
set_option maxHeartbeats 8000000 in
set_option maxRecDepth 100000 in
theorem lampblacklaw02_Few.calls (A0 : Option Addr) (c0 : Nat) (l0 : List Int) (r : List Int) (w : World) (hr0 : Kd.C (Kd.int .i64) w A0 l0.length l0) (hc0 : l0.length ≤ c0) (h : lampblacklaw02_Few.f l0 = some r) :
  Calls Tryd.prog 19 #[.slice A0 l0.length c0] w fun e w' => ∃ v0_ : Value, e = .returned (v0_) ∧ Kd.R (Kd.int .i64) 3 w' w.heap.size (fun _ => True) v0_ r ∧ Below w.heap.size w w' := by
 have HR0 := Aside0.mk hr0
 have HC0 := Aside0.mk hc0
 clear hr0 hc0
 have HB := Aside0.mk (Below.refl w.heap.size w)
 have H : (if 0 ≤ (mn (l0.length : Int) 13) then (if (mn (l0.length : Int) 13) ≤ (l0.length : Int) then ((slices_Clone_Graph.f (l0.take ((mn (l0.length : Int) 13) : Int).toNat)).bind fun t147 => (some t147)) else (none)) else (none)) = some r := h
 clear h
 obtain ⟨ji2, hji2⟩ : ∃ j_ : Int, (mn (l0.length : Int) 13) = j_ := ⟨_, rfl⟩
 replace H : (if 0 ≤ (ji2) then (if (ji2) ≤ (l0.length : Int) then ((slices_Clone_Graph.f (l0.take ((ji2) : Int).toNat)).bind fun t147 => (some t147)) else (none)) else (none)) = some r := by first | (rw [hji2] at H; exact H) | (simp only [hji2] at H ⊢; exact H)
 (try (have hji2h : ji2 ≤ 13 := by (rw [← hji2]; unfold mn; (repeat' split) <;> omega)))
 (try (have hji2g : ji2 ≤ 64 := by omega))
 (try (have hji2l : 0 ≤ ji2 := by (rw [← hji2]; unfold mn; (repeat' split) <;> omega)))
 (try (have hji2m : 0 ≤ ji2 := by omega))
 have hji2_ : (if 13 < (l0.length : Int) then 13 else (l0.length : Int)) = ji2 := hji2
 by_cases c3 : 0 ≤ (ji2)
 ·rw [if_pos c3] at H
  have c3b0 := eq_true c3
  have c3b1 : decide (0 ≤ (ji2)) = true := decide_eq_true c3
  clear c3
  by_cases c4 : (ji2) ≤ (l0.length : Int)
  ·rw [if_pos c4] at H
   have c4b0 := eq_true c4
   have c4b1 : decide ((ji2) ≤ (l0.length : Int)) = true := decide_eq_true c4
   clear c4
   replace H := Option.bind_eq_some_iff.mp H
   obtain ⟨t147, A50, H⟩ := H
   replace H : (some t147) = some r := H
   have A5 := Aside0.mk A50
   clear A50
   obtain rfl := Option.some.inj H
   obtain ⟨i06, hi06, _, hsz6, _⟩ := info_parts info3
   obtain ⟨hcut6, hA6, hC6⟩ := print_take_of (P := Tryd.prog) (Value.int .i64) 0 23 3 .i64 Tryd.underlying23 hi06 hsz6 A0 c0 l0 (ji2) (of_decide_eq_true (Qas)) (of_decide_eq_true (Qas)) HC0.out
   have HR146 := Aside0.mk (Kd.C_of_reads (h1 := fun _ => rfl) (hA6 _ (Kd.reads_of_C HR0.out)))
   have HC146 := Aside0.mk hC6
   clear hA6 hC6 hi06 hsz6
   go_enter Tryd.func19, Tryd.ntmps19
   go_wp2_with (first | ((with_reducible refine gate_callee (f := 61) rfl ?_); refine goesL_ (some 8) rfl rfl Tryd.func61 (by kernel_rfl) rfl #[.slice A0 (l0.take ((ji2) : Int).toNat).length c0] rfl (by (try simp only [List.map_toArray, List.map_cons, List.map_nil]); first | done | (rw [show (l0.take ((ji2) : Int).toNat).length = (ji2).toNat from (by rw [List.length_take]; have h_ : ((ji2) : Int) ≤ (l0.length : Int) := of_decide_eq_true (Qas); omega)] <;> rfl) | (simp only [hji2]; rfl) | rfl | (simp only [List.length_drop, List.length_take]; rfl)) ?_; (with_reducible refine (slices_Clone_Graph.calls _ _ (l0.take ((ji2) : Int).toNat) t147 _ ?side1 ?side2 A5.out).mono ?_); (case side1 => exact Qsc HR146.out); (case side2 => exact HC146.out); rintro e w7 ⟨v148, rfl, ho0, hb⟩; refine ⟨_, rfl, ?_⟩; have n0_ := Aside0.mk (Kd.R_lower ho0 (below_size (Qaw))); have n1_ := Aside0.mk (below_step (Qaw) hb); clear HB; have HO149 := n0_; have HB := n1_; clear n0_ n1_; (try clear hb); (try clear hb2); (try clear hk); (try clear hi); (try clear ho0)))
   go_ret
   exact ⟨_, by first | rfl | (simp [errW_none, errW_some] <;> rfl) | (simp only [← hji2]; first | rfl | (simp [errW_none, errW_some] <;> rfl)) | (simp [*, errW_none, errW_some] <;> rfl), by (with_reducible repeat (first | apply Kd.R_alloc | apply Kd.R_drewN | apply Kd.R_drew)); exact HO149.out, by repeat (first | (with_reducible first | exact HB.out | apply below_alloc | apply pw_below_drewN | apply below_drew1) | exact HB.out)⟩
  ·rw [if_neg c4] at H
   exact absurd H (by simp)
 ·rw [if_neg c3] at H
  exact absurd H (by simp)
end
noncomputable section
end
end Go.Proofs.YtoffehihicabcaaDoor.X
end
section
namespace Go.Proofs.YtoffehihicabcaaDoor.X
open Go.RowKit YtoffehihicabcaaDoorW.PrintWords YtoffehihicabcaaDoorW.PrintLast YtoffehihicabcaaDoorW.PrintMore YtoffehihicabcaaDoor.T
def low (a : Nat) : Nat := (els a 9).headD 0
theorem size_all : ∀ x : Fin 512, lampblackref02_Size.f 12 (x.val : Int) = some (pc x.val 9 : Int) := by decide +kernel
theorem size_ev (x : Nat) (hx : x < 512) : Ev (fun k => lampblackref02_Size.f k (x : Int)) ((pc x 9 : Nat) : Int) := Ev.of (lampblackref02_Size.mono _) (size_all ⟨x, hx⟩)
theorem valid_ev (g : List Int) (hg : g.length < 2 ^ 60) : Ev (fun k => lampblackref02_Valid.f k g) (chk 9 g) := by
 unfold lampblackref02_Valid.f
 exact Ev.bind (isGraph_ev 9 (by omega) g hg) (Ev.some rfl)
theorem few_eq (g : List Int) (hg : g.length < 2 ^ 44) : ∃ h, lampblacklaw02_Few.f g = some h ∧ (chk 9 g = true → h = g) ∧ (chk 9 g = false → chk 9 h = false) ∧ h.length ≤ 13 := by
 have hm : mn (g.length : Int) 13 = ((min g.length 13 : Nat) : Int) := mn_nat g.length 13
 refine ⟨g.take (min g.length 13), ?_, ?_, ?_, ?_⟩
 ·unfold lampblacklaw02_Few.f slices_Clone_Graph.f
  simp only [hm, Int.toNat_natCast]
  rw [if_pos (by omega), if_pos (by omega)]
  simp only [Option.bind_some, List.length_nil, List.nil_append]
  rw [if_pos (by rw [List.length_take]; omega)]
  rfl
 ·intro h
  simp only [chk, Bool.and_eq_true, decide_eq_true_eq] at h
  exact List.take_of_length_le (by omega)
 ·intro h
  by_cases hl : g.length ≤ 13
  ·rw [List.take_of_length_le (by omega)]; exact h
  ·unfold chk
   have : ¬ (List.take (min g.length 13) g).length ≤ 9 := by rw [List.length_take]; omega
   rw [decide_eq_false this, Bool.and_false, Bool.false_and]
 ·rw [List.length_take]; omega
def cycB (P : List Int) : Nat → Int → Bool
 | 0, at_ => decide (0 ≤ at_)
 | d + 1, at_ => if at_ < 0 then false else cycB P d (rd P at_)
def InP (P : List Int) : Prop := ∀ i, i < P.length → -1 ≤ rd P (i : Int) ∧ rd P (i : Int) < (P.length : Int)
def bothB (u v : Nat) (b : Int) : Bool := b.toNat.testBit u && b.toNat.testBit v
def bitI (x : Int) (v : Nat) : Bool := x.toNat.testBit v
def tl1 (B P : List Int) (n all_ : Nat) : Nat → Nat → Nat → Nat → Option (Nat × Nat)
 | 0, _, ro, ac => some (ro, ac)
 | d + 1, i, ro, ac => if rd P (i : Int) < -1 then none else if (n : Int) ≤ rd P (i : Int) then none else if rd B (i : Int) < 0 then none else if (all_ : Int) < rd B (i : Int) then none else tl1 B P n all_ d (i + 1) (if rd P (i : Int) < 0 then ro + 1 else ro) (ac ||| (rd B (i : Int)).toNat)
def topsF (B P : List Int) (v : Nat) : Nat → Nat → Nat → Nat
 | 0, _, t => t
 | d + 1, i, t => topsF B P v d (i + 1) (if bitI (rd B (i : Int)) v && (decide (rd P (i : Int) < 0) || !bitI (rd B (rd P (i : Int))) v) then t + 1 else t)
def nbF (B : List Int) (v : Nat) : List Nat → Bool
 | [] => true
 | u :: us => B.any (bothB u v) && nbF B v us
def tl2 (G : List Nat) (B P : List Int) : Nat → Nat → Bool
 | 0, _ => true
 | d + 1, v => if topsF B P v B.length 0 0 = 1 then nbF B v (els (G.getD v 0) 9) && tl2 G B P d (v + 1) else false
def treeB2 (G : List Nat) (B P : List Int) : Option (Nat × Nat) → Bool
 | none => false
 | some r => if r.1 = 1 then if r.2 = 2 ^ G.length - 1 then if P.any (cycB P P.length) then false else tl2 G B P G.length 0 else false else false
def treeB (G : List Nat) (B P : List Int) : Bool := if B.length < 1 then false else if 30 < B.length then false else if P.length = B.length then treeB2 G B P (tl1 B P B.length (2 ^ G.length - 1) B.length 0 0 0) else false
theorem tl1_ok (B P : List Int) (n all_ : Nat) : ∀ (d i ro ac : Nat) (r : Nat × Nat), tl1 B P n all_ d i ro ac = some r → ∀ j, i ≤ j → j < i + d → -1 ≤ rd P (j : Int) ∧ rd P (j : Int) < (n : Int) ∧ 0 ≤ rd B (j : Int) ∧ rd B (j : Int) ≤ (all_ : Int)
 | 0, i, _, _, _, _, j, h1, h2 => by omega
 | d + 1, i, ro, ac, r, h, j, h1, h2 => by
  simp only [tl1] at h
  split at h
  ·cases h
  ·split at h
   ·cases h
   ·split at h
    ·cases h
    ·split at h
     ·cases h
     ·by_cases e : j = i
      ·subst e; omega
      ·exact tl1_ok B P n all_ d (i + 1) _ _ r h j (by omega) (by omega)
end Go.Proofs.YtoffehihicabcaaDoor.X
end
section
namespace Go.Proofs.YtoffehihicabcaaDoor.X
open Go.RowKit YtoffehihicabcaaDoorW.PrintWords YtoffehihicabcaaDoorW.PrintLast YtoffehihicabcaaDoorW.PrintMore
attribute [local go_sem] max2_int min2_int max_two min_two max_three min_three max_four min_four
noncomputable section
mutual
def lampblackref02_IsTree.j0 : Nat → List Int → Int → Bool → List Int → List Int → Option (Int × Bool)
 | 0, _, _, _, _, _ => none
 | k + 1, x0, x6, x34, x418000, x418001 => if x34 = true then (some (0, false)) else (lampblackref02_IsTree.l0 k x0 x6 0 0 x418001 (x418001.length : Int) 0 x418000 x418001)
def lampblackref02_IsTree.l0 : Nat → List Int → Int → Int → Int → List Int → Int → Int → List Int → List Int → Option (Int × Bool)
 | 0, _, _, _, _, _, _, _, _, _ => none
 | k + 1, x0, x6, x7, x8, x36, x37, x38, x418000, x418001 => if x38 < x37 then (if 0 ≤ x38 then (if x38 < (x36.length : Int) then (if (rd x36 x38) < (-1) then (lampblackref02_IsTree.j2 k x0 x6 x7 x8 x38 (rd x36 x38) x36 x37 x38 true x418000 x418001) else (if (rd x36 x38) ≥ x6 then (lampblackref02_IsTree.j2 k x0 x6 x7 x8 x38 (rd x36 x38) x36 x37 x38 true x418000 x418001) else (if x38 < (x418000.length : Int) then (if (rd x418000 x38) < 0 then (lampblackref02_IsTree.j2 k x0 x6 x7 x8 x38 (rd x36 x38) x36 x37 x38 true x418000 x418001) else (lampblackref02_IsTree.j2 k x0 x6 x7 x8 x38 (rd x36 x38) x36 x37 x38 (decide ((rd x418000 x38) ≥ (shl .i64 1 (x0.length : Int)))) x418000 x418001)) else (none)))) else (none)) else (none)) else (lampblackref02_IsTree.l1 k x0 x6 x7 x8 (x418001.length : Int) 0 x418000 x418001)
def lampblackref02_IsTree.j2 : Nat → List Int → Int → Int → Int → Int → Int → List Int → Int → Int → Bool → List Int → List Int → Option (Int × Bool)
 | 0, _, _, _, _, _, _, _, _, _, _, _, _ => none
 | k + 1, x0, x6, x7, x8, x9, x10, x36, x37, x38, x68, x418000, x418001 => if x68 = true then (some (0, false)) else (if 0 ≤ x9 then (if x9 < (x418000.length : Int) then ((lampblackref02_Size.f k (rd x418000 x9)).bind fun t422 => (if x10 < 0 then (lampblackref02_IsTree.l0 k x0 x6 (wrap64 (x7 + 1)) (mx x8 t422) x36 x37 (wrap64 (x38 + 1)) x418000 x418001) else (lampblackref02_IsTree.l0 k x0 x6 x7 (mx x8 t422) x36 x37 (wrap64 (x38 + 1)) x418000 x418001))) else (none)) else (none))
def lampblackref02_IsTree.l1 : Nat → List Int → Int → Int → Int → Int → Int → List Int → List Int → Option (Int × Bool)
 | 0, _, _, _, _, _, _, _, _ => none
 | k + 1, x0, x6, x7, x8, x84, x85, x418000, x418001 => if x85 < x84 then (lampblackref02_IsTree.l2 k x0 x6 x7 x8 x85 x84 x85 x6 0 x418000 x418001) else (if x7 = 1 then (lampblackref02_IsTree.l3 k x0 x8 (x0.length : Int) 0 x418000 x418001) else (some (0, false)))
def lampblackref02_IsTree.l2 : Nat → List Int → Int → Int → Int → Int → Int → Int → Int → Int → List Int → List Int → Option (Int × Bool)
 | 0, _, _, _, _, _, _, _, _, _, _, _ => none
 | k + 1, x0, x6, x7, x8, x12, x84, x85, x89, x90, x418000, x418001 => if x90 < x89 then (if x12 ≥ 0 then (if 0 ≤ x12 then (if x12 < (x418001.length : Int) then (lampblackref02_IsTree.l2 k x0 x6 x7 x8 (rd x418001 x12) x84 x85 x89 (wrap64 (x90 + 1)) x418000 x418001) else (none)) else (none)) else (lampblackref02_IsTree.l2 k x0 x6 x7 x8 x12 x84 x85 x89 (wrap64 (x90 + 1)) x418000 x418001)) else (if x12 ≥ 0 then (some (0, false)) else (lampblackref02_IsTree.l1 k x0 x6 x7 x8 x84 (wrap64 (x85 + 1)) x418000 x418001))
def lampblackref02_IsTree.l3 : Nat → List Int → Int → Int → Int → List Int → List Int → Option (Int × Bool)
 | 0, _, _, _, _, _, _ => none
 | k + 1, x0, x8, x106, x107, x418000, x418001 => if x107 < x106 then (lampblackref02_IsTree.l4 k x0 x8 x107 0 0 x106 x107 x418000 (x418000.length : Int) 0 x418000 x418001) else (some (wrap64 (x8 - 1), true))
def lampblackref02_IsTree.l4 : Nat → List Int → Int → Int → Int → Int → Int → Int → List Int → Int → Int → List Int → List Int → Option (Int × Bool)
 | 0, _, _, _, _, _, _, _, _, _, _, _, _ => none
 | k + 1, x0, x8, x13, x14, x15, x106, x107, x111, x112, x113, x418000, x418001 => if x113 < x112 then (if 0 ≤ x113 then (if x113 < (x111.length : Int) then (if 0 ≤ x13 then (if (Go.bits .and .i64 (shr .i64 (rd x111 x113) x13) 1) = 0 then (lampblackref02_IsTree.l4 k x0 x8 x13 x14 x15 x106 x107 x111 x112 (wrap64 (x113 + 1)) x418000 x418001) else (if x113 < (x418001.length : Int) then (if (rd x418001 x113) < 0 then (lampblackref02_IsTree.l4 k x0 x8 x13 (wrap64 (x14 + 1)) (Go.bits .or .i64 x15 (rd x111 x113)) x106 x107 x111 x112 (wrap64 (x113 + 1)) x418000 x418001) else (if 0 ≤ (rd x418001 x113) then (if (rd x418001 x113) < (x418000.length : Int) then (if (Go.bits .and .i64 (shr .i64 (rd x418000 (rd x418001 x113)) x13) 1) = 0 then (lampblackref02_IsTree.l4 k x0 x8 x13 (wrap64 (x14 + 1)) (Go.bits .or .i64 x15 (rd x111 x113)) x106 x107 x111 x112 (wrap64 (x113 + 1)) x418000 x418001) else (lampblackref02_IsTree.l4 k x0 x8 x13 x14 (Go.bits .or .i64 x15 (rd x111 x113)) x106 x107 x111 x112 (wrap64 (x113 + 1)) x418000 x418001)) else (none)) else (none))) else (none))) else (none)) else (none)) else (none)) else (if x14 = 1 then (if 0 ≤ x13 then (if x13 < (x0.length : Int) then (if (Go.bits .andNot .i64 (rd x0 x13) x15) = 0 then (lampblackref02_IsTree.l3 k x0 x8 x106 (wrap64 (x107 + 1)) x418000 x418001) else (some (0, false))) else (none)) else (none)) else (some (0, false)))
end
def lampblackref02_IsTree.f (k : Nat) (l0 : List Int) (l1_0 : List Int) (l1_1 : List Int) : Option (Int × Bool) := if (l1_0.length : Int) < 1 then (lampblackref02_IsTree.j0 k l0 (l1_0.length : Int) true l1_0 l1_1) else (if (l1_0.length : Int) > 30 then (lampblackref02_IsTree.j0 k l0 (l1_0.length : Int) true l1_0 l1_1) else (lampblackref02_IsTree.j0 k l0 (l1_0.length : Int) ((l1_1.length : Int) != (l1_0.length : Int)) l1_0 l1_1))
set_option maxHeartbeats 8000000 in
set_option maxRecDepth 100000 in
theorem lampblackref02_IsTree.calls (k : Nat) (A0 : Option Addr) (c0 : Nat) (l0 : List Int) (A1_0 : Option Addr) (c1_0 : Nat) (l1_0 : List Int) (A1_1 : Option Addr) (c1_1 : Nat) (l1_1 : List Int) (r1 : Int) (r2 : Bool) (w : World) (hr0 : Kd.C (Kd.int .i64) w A0 l0.length l0) (hc0 : l0.length ≤ c0) (hr1_0 : Kd.C (Kd.int .i64) w A1_0 l1_0.length l1_0) (hc1_0 : l1_0.length ≤ c1_0) (hr1_1 : Kd.C (Kd.int .i64) w A1_1 l1_1.length l1_1) (hc1_1 : l1_1.length ≤ c1_1) (h : lampblackref02_IsTree.f k l0 l1_0 l1_1 = some (r1, r2)) :
  Calls Tryd.prog 53 #[.slice A0 l0.length c0, .agg #[.slice A1_0 l1_0.length c1_0, .slice A1_1 l1_1.length c1_1]] w fun e w' => e = .returned (.tuple #[.int .i64 r1, .bool r2]) ∧ Below w.heap.size w w' := by
 have hu52 := Tryd.underlying52
 have HR0 := Aside0.mk hr0
 have HC0 := Aside0.mk hc0
 clear hr0 hc0
 have HR1_0 := Aside0.mk hr1_0
 have HC1_0 := Aside0.mk hc1_0
 clear hr1_0 hc1_0
 have HR1_1 := Aside0.mk hr1_1
 have HC1_1 := Aside0.mk hc1_1
 clear hr1_1 hc1_1
 have HB := Aside0.mk (Below.refl w.heap.size w)
 have H : (if (l1_0.length : Int) < 1 then (lampblackref02_IsTree.j0 k l0 (l1_0.length : Int) true l1_0 l1_1) else (if (l1_0.length : Int) > 30 then (lampblackref02_IsTree.j0 k l0 (l1_0.length : Int) true l1_0 l1_1) else (lampblackref02_IsTree.j0 k l0 (l1_0.length : Int) ((l1_1.length : Int) != (l1_0.length : Int)) l1_0 l1_1))) = some (r1, r2) := h
 clear h
 have HC3 := Aside0.mk H
 clear H
 go_enter Tryd.func53, Tryd.ntmps53
 go_upto_region 2 with (first | ((with_reducible refine gate_dst (N := 3) rfl ?_); (try (refine gate_guard (by rfl) ?_; dsimp only)); refine box_event ?hg (N := 3) ?hd (cs := #[.slice A1_0 l1_0.length c1_0, .slice A1_1 l1_1.length c1_1]) (t := 52) ?hr ?_; (case hd => rfl); (case hg => rfl); (case hr => first | (go_simp; done) | (go_simp; rfl)); intro gb417 hg w4 hbox hb; have n0_ := Aside0.mk (below_step (Qaw) hb); have n1_ := Aside0.mk (hbox); have n2_ := Aside0.mk ((by rw [hg]; exact (below_size (Qaw)) : w.heap.size ≤ gb417)); have n3_ := Aside0.mk ((by rw [hg]; exact (below_size (Qaw)) : w.heap.size ≤ gb417)); clear HB; have HB := n0_; have BK417 := n1_; have GW417 := n2_; have GE417 := n3_; clear n0_ n1_ n2_ n3_; clear hb hbox hg; have hcz5_0 : w4.cell? ⟨gb417, 0, none⟩ = some (.slice A1_0 l1_0.length c1_0) := (blk_cell BK417.out 0).trans rfl; have hcz5_1 : w4.cell? ⟨gb417, 1, none⟩ = some (.slice A1_1 l1_1.length c1_1) := (blk_cell BK417.out 1).trans rfl; have hfz5_0 := blk_frozen BK417.out 0; have hfz5_1 := blk_frozen BK417.out 1))
 repeat (go_quiet (first | ((with_reducible refine gate_dst (N := 3) rfl ?_); (try (refine gate_guard (by rfl) ?_; dsimp only)); refine box_event ?hg (N := 3) ?hd (cs := #[.slice A1_0 l1_0.length c1_0, .slice A1_1 l1_1.length c1_1]) (t := 52) ?hr ?_; (case hd => rfl); (case hg => rfl); (case hr => first | (go_simp; done) | (go_simp; rfl)); intro gb417 hg w4 hbox hb; have n0_ := Aside0.mk (below_step (Qaw) hb); have n1_ := Aside0.mk (hbox); have n2_ := Aside0.mk ((by rw [hg]; exact (below_size (Qaw)) : w.heap.size ≤ gb417)); have n3_ := Aside0.mk ((by rw [hg]; exact (below_size (Qaw)) : w.heap.size ≤ gb417)); clear HB; have HB := n0_; have BK417 := n1_; have GW417 := n2_; have GE417 := n3_; clear n0_ n1_ n2_ n3_; clear hb hbox hg; have hcz5_0 : w4.cell? ⟨gb417, 0, none⟩ = some (.slice A1_0 l1_0.length c1_0) := (blk_cell BK417.out 0).trans rfl; have hcz5_1 : w4.cell? ⟨gb417, 1, none⟩ = some (.slice A1_1 l1_1.length c1_1) := (blk_cell BK417.out 1).trans rfl; have hfz5_0 := blk_frozen BK417.out 0; have hfz5_1 := blk_frozen BK417.out 1)); go_upto_region 2 with (first | ((with_reducible refine gate_dst (N := 3) rfl ?_); (try (refine gate_guard (by rfl) ?_; dsimp only)); refine box_event ?hg (N := 3) ?hd (cs := #[.slice A1_0 l1_0.length c1_0, .slice A1_1 l1_1.length c1_1]) (t := 52) ?hr ?_; (case hd => rfl); (case hg => rfl); (case hr => first | (go_simp; done) | (go_simp; rfl)); intro gb417 hg w4 hbox hb; have n0_ := Aside0.mk (below_step (Qaw) hb); have n1_ := Aside0.mk (hbox); have n2_ := Aside0.mk ((by rw [hg]; exact (below_size (Qaw)) : w.heap.size ≤ gb417)); have n3_ := Aside0.mk ((by rw [hg]; exact (below_size (Qaw)) : w.heap.size ≤ gb417)); clear HB; have HB := n0_; have BK417 := n1_; have GW417 := n2_; have GE417 := n3_; clear n0_ n1_ n2_ n3_; clear hb hbox hg; have hcz5_0 : w4.cell? ⟨gb417, 0, none⟩ = some (.slice A1_0 l1_0.length c1_0) := (blk_cell BK417.out 0).trans rfl; have hcz5_1 : w4.cell? ⟨gb417, 1, none⟩ = some (.slice A1_1 l1_1.length c1_1) := (blk_cell BK417.out 1).trans rfl; have hfz5_0 := blk_frozen BK417.out 0; have hfz5_1 := blk_frozen BK417.out 1)))
 (try simp only [Act.put, List.setIfInBounds_toArray, List.set_cons_zero, List.set_cons_succ])
 go_cut [34] (fun v34 wc => ∃ (kq : Nat) (x34_2 : Bool), v34 = .bool x34_2 ∧ Aside0 (lampblackref02_IsTree.j0 kq l0 (l1_0.length : Int) x34_2 l1_0 l1_1 = some (r1, r2)) ∧ Aside0 (kq ≤ k) ∧ Aside0 (wc.heap[gb417]? = some (.cells #[(.slice A1_0 l1_0.length c1_0), (.slice A1_1 l1_1.length c1_1)] 52 (0, 0))) ∧ Aside0 (Below w.heap.size w wc))
 case first =>
  have H := HC3.out
  clear HC3
  by_cases c6 : (l1_0.length : Int) < 1
  ·rw [if_pos c6] at H
   have c6b0 : decide ((l1_0.length : Int) < 1) = true := decide_eq_true c6
   have c6b1 : decide (l1_0.length < 1) = true := decide_eq_true (by omega)
   clear c6
   (first | rw [c6b0] | (simp only [i64_w, i32_w]; rw [c6b0]) | skip)
   have H' := Aside0.mk H
   clear H
   go_wp2
   repeat (go_quiet (fail); try go_wp2)
   go_meet
   case rel => exact ⟨_, (true), (Qrs), H', ⟨by first | omega | exact Nat.le_refl _⟩, ⟨by (with_reducible repeat (first | refine blk_drewN ?_ _ | refine blk_drew ?_ | refine blk_alloc ?_ _)); exact BK417.out⟩, ⟨by repeat (first | (with_reducible first | exact HB.out | apply below_alloc | apply pw_below_drewN | apply below_drew1 | refine below_set ?_ GE417.out) | exact HB.out)⟩⟩
  ·rw [if_neg c6] at H
   have c6b0 : decide ((l1_0.length : Int) < 1) = false := decide_eq_false c6
   have c6b1 : decide (l1_0.length < 1) = false := decide_eq_false (by omega)
   clear c6
   (first | rw [c6b0] | (simp only [i64_w, i32_w]; rw [c6b0]) | skip)
   by_cases c7 : (l1_0.length : Int) > 30
   ·rw [if_pos c7] at H
    have c7b0 : decide (30 < (l1_0.length : Int)) = true := decide_eq_true c7
    have c7b1 : decide (30 < l1_0.length) = true := decide_eq_true (by omega)
    clear c7
    have H' := Aside0.mk H
    clear H
    go_wp2
    repeat (go_quiet (fail); try go_wp2)
    go_meet
    case rel => exact ⟨_, (true), (Qrs), H', ⟨by first | omega | exact Nat.le_refl _⟩, ⟨by (with_reducible repeat (first | refine blk_drewN ?_ _ | refine blk_drew ?_ | refine blk_alloc ?_ _)); exact BK417.out⟩, ⟨by repeat (first | (with_reducible first | exact HB.out | apply below_alloc | apply pw_below_drewN | apply below_drew1 | refine below_set ?_ GE417.out) | exact HB.out)⟩⟩
   ·rw [if_neg c7] at H
    have c7b0 : decide (30 < (l1_0.length : Int)) = false := decide_eq_false c7
    have c7b1 : decide (30 < l1_0.length) = false := decide_eq_false (by omega)
    clear c7
    have H' := Aside0.mk H
    clear H
    have hcz8_0 : w4.cell? ⟨gb417, 0, none⟩ = some (.slice A1_0 l1_0.length c1_0) := (blk_cell BK417.out 0).trans rfl
    have hcz8_1 : w4.cell? ⟨gb417, 1, none⟩ = some (.slice A1_1 l1_1.length c1_1) := (blk_cell BK417.out 1).trans rfl
    have hfz8_0 := blk_frozen BK417.out 0
    have hfz8_1 := blk_frozen BK417.out 1
    go_wp2
    repeat (go_quiet (fail); try go_wp2)
    go_meet
    case rel => exact ⟨_, (((l1_1.length : Int) != (l1_0.length : Int))), (Qrs), H', ⟨by first | omega | exact Nat.le_refl _⟩, ⟨by (with_reducible repeat (first | refine blk_drewN ?_ _ | refine blk_drew ?_ | refine blk_alloc ?_ _)); exact BK417.out⟩, ⟨by repeat (first | (with_reducible first | exact HB.out | apply below_alloc | apply pw_below_drewN | apply below_drew1 | refine below_set ?_ GE417.out) | exact HB.out)⟩⟩
 case rest =>
  clear HC3
  try clear c1
  try clear p2
  try clear c5
  try clear c6
  try clear c6b0
  try clear c6b1
  try clear c7
  try clear c7b0
  try clear c7b1
  try clear hcz5_0
  try clear hcz5_1
  try clear hcz8_0
  try clear hcz8_1
  try clear hfz5_0
  try clear hfz5_1
  try clear hfz8_0
  try clear hfz8_1
  obtain ⟨kq, x34_2, rfl, HA, HJ2, BK417, HB⟩ := hcut
  cases kq with
  | zero => exact absurd HA.out (by simp [lampblackref02_IsTree.j0])
  | succ kj2 =>
   have H := HA.out
   clear HA
   simp only [lampblackref02_IsTree.j0] at H
   by_cases c9 : x34_2 = true
   ·subst c9
    have H1 : (some (0, false)) = some (r1, r2) := by rw [if_pos rfl] at H; exact H
    clear H
    have H := H1
    clear H1
    simp only [Option.some.injEq, Prod.mk.injEq] at H
    obtain ⟨rfl, rfl⟩ := H
    go_wp2
    repeat (go_quiet (fail); try go_wp2)
    go_ret2
    exact ⟨by first | rfl | (simp [errW_none, errW_some] <;> rfl) | (simp [*, errW_none, errW_some] <;> rfl), by repeat (first | (with_reducible first | exact HB.out | apply below_alloc | apply pw_below_drewN | apply below_drew1 | refine below_set ?_ GE417.out) | exact HB.out)⟩
   ·replace c9 := Bool.eq_false_iff.mpr c9
    subst c9
    have H1 : (lampblackref02_IsTree.l0 kj2 l0 (l1_0.length : Int) 0 0 l1_1 (l1_1.length : Int) 0 l1_0 l1_1) = some (r1, r2) := by rw [if_neg (show ¬ (false = true) by decide)] at H; exact H
    clear H
    have H := H1
    clear H1
    have H' := Aside0.mk H
    clear H
    have hcz10_0 : wc.cell? ⟨gb417, 0, none⟩ = some (.slice A1_0 l1_0.length c1_0) := (blk_cell BK417.out 0).trans rfl
    have hcz10_1 : wc.cell? ⟨gb417, 1, none⟩ = some (.slice A1_1 l1_1.length c1_1) := (blk_cell BK417.out 1).trans rfl
    have hfz10_0 := blk_frozen BK417.out 0
    have hfz10_1 := blk_frozen BK417.out 1
    go_wp2
    repeat (go_quiet (fail); try go_wp2)
    go_loopg [7, 8, 38] kj2 (fun kq v7 v8 v38 w' => ∃ (x7_2 : Int) (x8_2 : Int) (x38_2 : Int), v7 = .int .i64 x7_2 ∧ v8 = .int .i64 x8_2 ∧ v38 = .int .i64 x38_2 ∧ Aside0 (lampblackref02_IsTree.l0 kq l0 (l1_0.length : Int) x7_2 x8_2 l1_1 (l1_1.length : Int) x38_2 l1_0 l1_1 = some (r1, r2)) ∧ Aside0 (kq ≤ kj2) ∧ Aside0 (w'.heap[gb417]? = some (.cells #[(.slice A1_0 l1_0.length c1_0), (.slice A1_1 l1_1.length c1_1)] 52 (0, 0))) ∧ Aside0 (Below w.heap.size w w'))
    case atStart => exact ⟨(0), (0), (0), (Qrs), (Qrs), (Qrs), H', ⟨Nat.le_refl _⟩, ⟨by (with_reducible repeat (first | refine blk_drewN ?_ _ | refine blk_drew ?_ | refine blk_alloc ?_ _)); exact BK417.out⟩, ⟨by repeat (first | (with_reducible first | exact HB.out | apply below_alloc | apply pw_below_drewN | apply below_drew1 | refine below_set ?_ GE417.out) | exact HB.out)⟩⟩
    case round =>
     clear H'
     try clear c1
     try clear p2
     try clear c5
     try clear c6
     try clear c6b0
     try clear c6b1
     try clear c7
     try clear c7b0
     try clear c7b1
     try clear c9
     try clear hcz10_0
     try clear hcz10_1
     try clear hcz5_0
     try clear hcz5_1
     try clear hcz8_0
     try clear hcz8_1
     try clear hfz10_0
     try clear hfz10_1
     try clear hfz5_0
     try clear hfz5_1
     try clear hfz8_0
     try clear hfz8_1
     try clear p2
     obtain ⟨x7_2, x8_2, x38_2, rfl, rfl, rfl, HA, HK2, BK417, HB⟩ := hrel
     cases gk with
     | zero => exact absurd HA.out (by simp [lampblackref02_IsTree.l0])
     | succ k2 =>
      have H := HA.out
      clear HA
      simp only [lampblackref02_IsTree.l0] at H
      by_cases c11 : x38_2 < (l1_1.length : Int)
      ·rw [if_pos c11] at H
       have c11b0 : decide (x38_2 < (l1_1.length : Int)) = true := decide_eq_true c11
       clear c11
       by_cases c12 : 0 ≤ x38_2
       ·rw [if_pos c12] at H
        have c12b0 : decide (0 ≤ x38_2) = true := decide_eq_true c12
        clear c12
        by_cases c13 : x38_2 < (l1_1.length : Int)
        ·rw [if_pos c13] at H
         have c13b0 : decide (x38_2 < (l1_1.length : Int)) = true := decide_eq_true c13
         clear c13
         have HC14 := Aside0.mk H
         clear H
         have p418 : 0 ≤ (x38_2 : Int) := of_decide_eq_true (Qas)
         have q418 : x38_2 < (l1_1.length : Int) := of_decide_eq_true (Qas)
         obtain ⟨ad418, e418, hx418_0⟩ := Kd.at_int HR1_1.out x38_2 p418 q418
         cases e418
         replace hx418_0 := (HB.out.cell (World.block_lt_of_cell? w _ hx418_0)).trans hx418_0
         replace p418 := eq_true p418
         replace q418 := eq_true q418
         go_upto_region 8 with (fail)
         repeat (go_quiet (fail); go_upto_region 8 with (fail))
         go_cut [68] (fun v68 wc => ∃ (kq : Nat) (x68_13 : Bool), v68 = .bool x68_13 ∧ Aside0 (lampblackref02_IsTree.j2 kq l0 (l1_0.length : Int) x7_2 x8_2 x38_2 (rd l1_1 x38_2) l1_1 (l1_1.length : Int) x38_2 x68_13 l1_0 l1_1 = some (r1, r2)) ∧ Aside0 (kq ≤ k2) ∧ Aside0 (wc.heap[gb417]? = some (.cells #[(.slice A1_0 l1_0.length c1_0), (.slice (some ad418) l1_1.length c1_1)] 52 (0, 0))) ∧ Aside0 (Below w.heap.size w wc))
         case first =>
          have H := HC14.out
          clear HC14
          by_cases c15 : (rd l1_1 x38_2) < (-1)
          ·rw [if_pos c15] at H
           have c15b0 : decide ((rd l1_1 x38_2) < (-1)) = true := decide_eq_true c15
           clear c15
           (first | rw [c15b0] | (simp only [i64_w, i32_w]; rw [c15b0]) | skip)
           have H' := Aside0.mk H
           clear H
           go_wp2
           repeat (go_quiet (fail); try go_wp2)
           go_meet
           case rel => exact ⟨_, (true), (Qrs), H', ⟨by have := HJ2.out; have := HK2.out; first | omega | exact Nat.le_refl _⟩, ⟨by (with_reducible repeat (first | refine blk_drewN ?_ _ | refine blk_drew ?_ | refine blk_alloc ?_ _)); exact BK417.out⟩, ⟨by repeat (first | (with_reducible first | exact HB.out | apply below_alloc | apply pw_below_drewN | apply below_drew1 | refine below_set ?_ GE417.out) | exact HB.out)⟩⟩
          ·rw [if_neg c15] at H
           have c15b0 : decide ((rd l1_1 x38_2) < (-1)) = false := decide_eq_false c15
           clear c15
           (first | rw [c15b0] | (simp only [i64_w, i32_w]; rw [c15b0]) | skip)
           by_cases c16 : (rd l1_1 x38_2) ≥ (l1_0.length : Int)
           ·rw [if_pos c16] at H
            have c16b0 : decide ((l1_0.length : Int) ≤ (rd l1_1 x38_2)) = true := decide_eq_true c16
            clear c16
            have H' := Aside0.mk H
            clear H
            go_wp2
            repeat (go_quiet (fail); try go_wp2)
            go_meet
            case rel => exact ⟨_, (true), (Qrs), H', ⟨by have := HJ2.out; have := HK2.out; first | omega | exact Nat.le_refl _⟩, ⟨by (with_reducible repeat (first | refine blk_drewN ?_ _ | refine blk_drew ?_ | refine blk_alloc ?_ _)); exact BK417.out⟩, ⟨by repeat (first | (with_reducible first | exact HB.out | apply below_alloc | apply pw_below_drewN | apply below_drew1 | refine below_set ?_ GE417.out) | exact HB.out)⟩⟩
           ·rw [if_neg c16] at H
            have c16b0 : decide ((l1_0.length : Int) ≤ (rd l1_1 x38_2)) = false := decide_eq_false c16
            clear c16
            by_cases c17 : x38_2 < (l1_0.length : Int)
            ·rw [if_pos c17] at H
             have c17b0 : decide (x38_2 < (l1_0.length : Int)) = true := decide_eq_true c17
             clear c17
             by_cases c18 : (rd l1_0 x38_2) < 0
             ·rw [if_pos c18] at H
              have c18b0 : decide ((rd l1_0 x38_2) < 0) = true := decide_eq_true c18
              clear c18
              have H' := Aside0.mk H
              clear H
              have hcz19_0 : wr.cell? ⟨gb417, 0, none⟩ = some (.slice A1_0 l1_0.length c1_0) := (blk_cell BK417.out 0).trans rfl
              have hcz19_1 : wr.cell? ⟨gb417, 1, none⟩ = some (.slice (some ad418) l1_1.length c1_1) := (blk_cell BK417.out 1).trans rfl
              have hfz19_0 := blk_frozen BK417.out 0
              have hfz19_1 := blk_frozen BK417.out 1
              have p419 : 0 ≤ (x38_2 : Int) := of_decide_eq_true (Qas)
              have q419 : x38_2 < (l1_0.length : Int) := of_decide_eq_true (Qas)
              obtain ⟨ad419, e419, hx419_0⟩ := Kd.at_int HR1_0.out x38_2 p419 q419
              cases e419
              replace hx419_0 := (HB.out.cell (World.block_lt_of_cell? w _ hx419_0)).trans hx419_0
              replace p419 := eq_true p419
              replace q419 := eq_true q419
              go_wp2
              repeat (go_quiet (fail); try go_wp2)
              go_meet
              case rel => exact ⟨_, (true), (Qrs), H', ⟨by have := HJ2.out; have := HK2.out; first | omega | exact Nat.le_refl _⟩, ⟨by (with_reducible repeat (first | refine blk_drewN ?_ _ | refine blk_drew ?_ | refine blk_alloc ?_ _)); exact BK417.out⟩, ⟨by repeat (first | (with_reducible first | exact HB.out | apply below_alloc | apply pw_below_drewN | apply below_drew1 | refine below_set ?_ GE417.out) | exact HB.out)⟩⟩
             ·rw [if_neg c18] at H
              have c18b0 : decide ((rd l1_0 x38_2) < 0) = false := decide_eq_false c18
              clear c18
              obtain ⟨ji20, hji20⟩ : ∃ j_ : Int, (shl .i64 1 (l0.length : Int)) = j_ := ⟨_, rfl⟩
              replace H : (lampblackref02_IsTree.j2 k2 l0 (l1_0.length : Int) x7_2 x8_2 x38_2 (rd l1_1 x38_2) l1_1 (l1_1.length : Int) x38_2 (decide ((rd l1_0 x38_2) ≥ (ji20))) l1_0 l1_1) = some (r1, r2) := by first | (rw [hji20] at H; exact H) | (simp only [hji20] at H ⊢; exact H)
              have hji20_ : (IntKind.i64.wrap (1 * 2 ^ min (l0.length : Int).toNat 64)) = ji20 := hji20
              have hji20z : (l0.length : Int) ≤ 64 → (IntKind.i64.wrap (1 * 2 ^ (l0.length : Int).toNat)) = ji20 := shl_small hji20
              have hji20p : (IntKind.i64.wrap (1 * 2 ^ min l0.length 64)) = ji20 := hji20_
              have hji20q : (l0.length : Int) ≤ 64 → (IntKind.i64.wrap (1 * 2 ^ l0.length)) = ji20 := hji20z
              have hji20r : (IntKind.i64.wrap (2 ^ min l0.length 64)) = ji20 := by have h_ := hji20p; rw [Int.one_mul] at h_; exact h_
              have hji20s : (l0.length : Int) ≤ 64 → (IntKind.i64.wrap (2 ^ l0.length)) = ji20 := fun hle_ => by have h_ := hji20q hle_; rw [Int.one_mul] at h_; exact h_
              have hji20u : (IntKind.i64.wrap (2 ^ min (l0.length : Int).toNat 64)) = ji20 := by have h_ := hji20_; rw [Int.one_mul] at h_; exact h_
              have hji20v : (l0.length : Int) ≤ 64 → (IntKind.i64.wrap (2 ^ (l0.length : Int).toNat)) = ji20 := fun hle_ => by have h_ := hji20z hle_; rw [Int.one_mul] at h_; exact h_
              have hji20y : (wrap64 (1 * 2 ^ min (l0.length : Int).toNat 64)) = ji20 := (i64_w _).symm.trans hji20_
              have hji20x : (l0.length : Int) ≤ 64 → (wrap64 (1 * 2 ^ (l0.length : Int).toNat)) = ji20 := fun h_ => (i64_w _).symm.trans (hji20z h_)
              have H' := Aside0.mk H
              clear H
              have hcz21_0 : wr.cell? ⟨gb417, 0, none⟩ = some (.slice A1_0 l1_0.length c1_0) := (blk_cell BK417.out 0).trans rfl
              have hcz21_1 : wr.cell? ⟨gb417, 1, none⟩ = some (.slice (some ad418) l1_1.length c1_1) := (blk_cell BK417.out 1).trans rfl
              have hfz21_0 := blk_frozen BK417.out 0
              have hfz21_1 := blk_frozen BK417.out 1
              have p419 : 0 ≤ (x38_2 : Int) := of_decide_eq_true (Qas)
              have q419 : x38_2 < (l1_0.length : Int) := of_decide_eq_true (Qas)
              obtain ⟨ad419, e419, hx419_0⟩ := Kd.at_int HR1_0.out x38_2 p419 q419
              cases e419
              replace hx419_0 := (HB.out.cell (World.block_lt_of_cell? w _ hx419_0)).trans hx419_0
              replace p419 := eq_true p419
              replace q419 := eq_true q419
              have p420 : 0 ≤ (x38_2 : Int) := of_decide_eq_true (Qas)
              have q420 : x38_2 < (l1_0.length : Int) := of_decide_eq_true (Qas)
              obtain ⟨ad420, e420, hx420_0⟩ := Kd.at_int HR1_0.out x38_2 p420 q420
              obtain rfl : ad419 = ad420 := (by injection e420)
              replace hx420_0 := (HB.out.cell (World.block_lt_of_cell? w _ hx420_0)).trans hx420_0
              replace p420 := eq_true p420
              replace q420 := eq_true q420
              go_wp2
              repeat (go_quiet (fail); try go_wp2)
              go_meet
              case rel => exact ⟨_, (decide ((rd l1_0 x38_2) ≥ (ji20))), (by first | rfl | (simp; done) | (simp only [← hji20] <;> (first | rfl | simp)) | (simp [*]; done)), H', ⟨by have := HJ2.out; have := HK2.out; first | omega | exact Nat.le_refl _⟩, ⟨by (with_reducible repeat (first | refine blk_drewN ?_ _ | refine blk_drew ?_ | refine blk_alloc ?_ _)); exact BK417.out⟩, ⟨by repeat (first | (with_reducible first | exact HB.out | apply below_alloc | apply pw_below_drewN | apply below_drew1 | refine below_set ?_ GE417.out) | exact HB.out)⟩⟩
            ·rw [if_neg c17] at H
             exact absurd H (by simp)
         case rest =>
          clear HC14
          try clear c1
          try clear p2
          try clear p4
          try clear q4
          try clear hx4
          try clear c5
          try clear c6
          try clear c6b0
          try clear c6b1
          try clear p6
          try clear c7
          try clear c7b0
          try clear c7b1
          try clear c9
          try clear c11
          try clear c11b0
          try clear c12
          try clear c12b0
          try clear c13
          try clear c13b0
          try clear c15
          try clear c15b0
          try clear c16
          try clear c16b0
          try clear c17
          try clear c17b0
          try clear c18
          try clear c18b0
          try clear hcz10_0
          try clear hcz10_1
          try clear hcz19_0
          try clear hcz19_1
          try clear hcz21_0
          try clear hcz21_1
          try clear hcz5_0
          try clear hcz5_1
          try clear hcz8_0
          try clear hcz8_1
          try clear hfz10_0
          try clear hfz10_1
          try clear hfz19_0
          try clear hfz19_1
          try clear hfz21_0
          try clear hfz21_1
          try clear hfz5_0
          try clear hfz5_1
          try clear hfz8_0
          try clear hfz8_1
          try clear hx418_0
          try clear hx419_0
          try clear hx420_0
          try clear p2
          try clear p418
          try clear p419
          try clear p420
          try clear q418
          try clear q419
          try clear q420
          obtain ⟨kq, x68_13, rfl, HA, HJ13, BK417, HB⟩ := hcut
          cases kq with
          | zero => exact absurd HA.out (by simp [lampblackref02_IsTree.j2])
          | succ kj13 =>
           have H := HA.out
           clear HA
           simp only [lampblackref02_IsTree.j2] at H
           by_cases c22 : x68_13 = true
           ·subst c22
            have H1 : (some (0, false)) = some (r1, r2) := by rw [if_pos rfl] at H; exact H
            clear H
            have H := H1
            clear H1
            simp only [Option.some.injEq, Prod.mk.injEq] at H
            obtain ⟨rfl, rfl⟩ := H
            go_wp2
            repeat (go_quiet (fail); try go_wp2)
            go_ret2
            exact ⟨by first | rfl | (simp [errW_none, errW_some] <;> rfl) | (simp [*, errW_none, errW_some] <;> rfl), by repeat (first | (with_reducible first | exact HB.out | apply below_alloc | apply pw_below_drewN | apply below_drew1 | refine below_set ?_ GE417.out) | exact HB.out)⟩
           ·replace c22 := Bool.eq_false_iff.mpr c22
            subst c22
            have H1 : (if 0 ≤ x38_2 then (if x38_2 < (l1_0.length : Int) then ((lampblackref02_Size.f kj13 (rd l1_0 x38_2)).bind fun t422 => (if (rd l1_1 x38_2) < 0 then (lampblackref02_IsTree.l0 kj13 l0 (l1_0.length : Int) (wrap64 (x7_2 + 1)) (mx x8_2 t422) l1_1 (l1_1.length : Int) (wrap64 (x38_2 + 1)) l1_0 l1_1) else (lampblackref02_IsTree.l0 kj13 l0 (l1_0.length : Int) x7_2 (mx x8_2 t422) l1_1 (l1_1.length : Int) (wrap64 (x38_2 + 1)) l1_0 l1_1))) else (none)) else (none)) = some (r1, r2) := by rw [if_neg (show ¬ (false = true) by decide)] at H; exact H
            clear H
            have H := H1
            clear H1
            by_cases c23 : 0 ≤ x38_2
            ·rw [if_pos c23] at H
             have c23b0 : decide (0 ≤ x38_2) = true := decide_eq_true c23
             clear c23
             by_cases c24 : x38_2 < (l1_0.length : Int)
             ·rw [if_pos c24] at H
              have c24b0 : decide (x38_2 < (l1_0.length : Int)) = true := decide_eq_true c24
              clear c24
              replace H := Option.bind_eq_some_iff.mp H
              obtain ⟨t422, A250, H⟩ := H
              replace H : (if (rd l1_1 x38_2) < 0 then (lampblackref02_IsTree.l0 kj13 l0 (l1_0.length : Int) (wrap64 (x7_2 + 1)) (mx x8_2 t422) l1_1 (l1_1.length : Int) (wrap64 (x38_2 + 1)) l1_0 l1_1) else (lampblackref02_IsTree.l0 kj13 l0 (l1_0.length : Int) x7_2 (mx x8_2 t422) l1_1 (l1_1.length : Int) (wrap64 (x38_2 + 1)) l1_0 l1_1)) = some (r1, r2) := H
              have A25 := Aside0.mk A250
              clear A250
              obtain ⟨ji26, hji26⟩ : ∃ j_ : Int, (mx x8_2 t422) = j_ := ⟨_, rfl⟩
              replace H : (if (rd l1_1 x38_2) < 0 then (lampblackref02_IsTree.l0 kj13 l0 (l1_0.length : Int) (wrap64 (x7_2 + 1)) ji26 l1_1 (l1_1.length : Int) (wrap64 (x38_2 + 1)) l1_0 l1_1) else (lampblackref02_IsTree.l0 kj13 l0 (l1_0.length : Int) x7_2 ji26 l1_1 (l1_1.length : Int) (wrap64 (x38_2 + 1)) l1_0 l1_1)) = some (r1, r2) := by first | (rw [hji26] at H; exact H) | (simp only [hji26] at H ⊢; exact H)
              (try rw [hji26] at A25)
              have hji26_ : (if x8_2 < t422 then t422 else x8_2) = ji26 := hji26
              by_cases c27 : (rd l1_1 x38_2) < 0
              ·rw [if_pos c27] at H
               have c27b0 : decide ((rd l1_1 x38_2) < 0) = true := decide_eq_true c27
               clear c27
               have H' := Aside0.mk H
               clear H
               have hcz28_0 : wc.cell? ⟨gb417, 0, none⟩ = some (.slice A1_0 l1_0.length c1_0) := (blk_cell BK417.out 0).trans rfl
               have hcz28_1 : wc.cell? ⟨gb417, 1, none⟩ = some (.slice (some ad418) l1_1.length c1_1) := (blk_cell BK417.out 1).trans rfl
               have hfz28_0 := blk_frozen BK417.out 0
               have hfz28_1 := blk_frozen BK417.out 1
               have p421 : 0 ≤ (x38_2 : Int) := of_decide_eq_true (Qas)
               have q421 : x38_2 < (l1_0.length : Int) := of_decide_eq_true (Qas)
               obtain ⟨ad421, e421, hx421_0⟩ := Kd.at_int HR1_0.out x38_2 p421 q421
               cases e421
               replace hx421_0 := (HB.out.cell (World.block_lt_of_cell? w _ hx421_0)).trans hx421_0
               replace p421 := eq_true p421
               replace q421 := eq_true q421
               go_wp2_with (first | (go_at_call 35; (with_reducible refine (lampblackref02_Size.calls kj13 (rd l1_0 x38_2) t422 _ A25.out).mono ?_); rintro e w' ⟨rfl, ⟨nd, rfl⟩⟩; (try first | exact ⟨rfl, _, World.drewN_drewN _ _ _⟩ | exact ⟨rfl, _, Eq.trans (World.drewN_drewN _ _ _) (congrArg (World.drewN _) (Nat.add_assoc _ _ _))⟩)))
               repeat (go_quiet (first | (go_at_call 35; (with_reducible refine (lampblackref02_Size.calls kj13 (rd l1_0 x38_2) t422 _ A25.out).mono ?_); rintro e w' ⟨rfl, ⟨nd, rfl⟩⟩; (try first | exact ⟨rfl, _, World.drewN_drewN _ _ _⟩ | exact ⟨rfl, _, Eq.trans (World.drewN_drewN _ _ _) (congrArg (World.drewN _) (Nat.add_assoc _ _ _))⟩))); try go_wp2_with (first | (go_at_call 35; (with_reducible refine (lampblackref02_Size.calls kj13 (rd l1_0 x38_2) t422 _ A25.out).mono ?_); rintro e w' ⟨rfl, ⟨nd, rfl⟩⟩; (try first | exact ⟨rfl, _, World.drewN_drewN _ _ _⟩ | exact ⟨rfl, _, Eq.trans (World.drewN_drewN _ _ _) (congrArg (World.drewN _) (Nat.add_assoc _ _ _))⟩))))
               go_roundg kj13
               case measure => have := HJ2.out; have := HK2.out; have := HJ13.out; omega
               case rel => exact ⟨(wrap64 (x7_2 + 1)), (ji26), (wrap64 (x38_2 + 1)), (Qrs), (by first | rfl | (simp; done) | (simp only [← hji26] <;> (first | rfl | simp)) | (simp [*]; done)), (Qrs), H', ⟨by have := HJ2.out; have := HK2.out; have := HJ13.out; omega⟩, ⟨by (with_reducible repeat (first | refine blk_drewN ?_ _ | refine blk_drew ?_ | refine blk_alloc ?_ _)); exact BK417.out⟩, ⟨by repeat (first | (with_reducible first | exact HB.out | apply below_alloc | apply pw_below_drewN | apply below_drew1 | refine below_set ?_ GE417.out) | exact HB.out)⟩⟩
              ·rw [if_neg c27] at H
               have c27b0 : decide ((rd l1_1 x38_2) < 0) = false := decide_eq_false c27
               clear c27
               have H' := Aside0.mk H
               clear H
               have hcz29_0 : wc.cell? ⟨gb417, 0, none⟩ = some (.slice A1_0 l1_0.length c1_0) := (blk_cell BK417.out 0).trans rfl
               have hcz29_1 : wc.cell? ⟨gb417, 1, none⟩ = some (.slice (some ad418) l1_1.length c1_1) := (blk_cell BK417.out 1).trans rfl
               have hfz29_0 := blk_frozen BK417.out 0
               have hfz29_1 := blk_frozen BK417.out 1
               have p421 : 0 ≤ (x38_2 : Int) := of_decide_eq_true (Qas)
               have q421 : x38_2 < (l1_0.length : Int) := of_decide_eq_true (Qas)
               obtain ⟨ad421, e421, hx421_0⟩ := Kd.at_int HR1_0.out x38_2 p421 q421
               cases e421
               replace hx421_0 := (HB.out.cell (World.block_lt_of_cell? w _ hx421_0)).trans hx421_0
               replace p421 := eq_true p421
               replace q421 := eq_true q421
               go_wp2_with (first | (go_at_call 35; (with_reducible refine (lampblackref02_Size.calls kj13 (rd l1_0 x38_2) t422 _ A25.out).mono ?_); rintro e w' ⟨rfl, ⟨nd, rfl⟩⟩; (try first | exact ⟨rfl, _, World.drewN_drewN _ _ _⟩ | exact ⟨rfl, _, Eq.trans (World.drewN_drewN _ _ _) (congrArg (World.drewN _) (Nat.add_assoc _ _ _))⟩)))
               repeat (go_quiet (first | (go_at_call 35; (with_reducible refine (lampblackref02_Size.calls kj13 (rd l1_0 x38_2) t422 _ A25.out).mono ?_); rintro e w' ⟨rfl, ⟨nd, rfl⟩⟩; (try first | exact ⟨rfl, _, World.drewN_drewN _ _ _⟩ | exact ⟨rfl, _, Eq.trans (World.drewN_drewN _ _ _) (congrArg (World.drewN _) (Nat.add_assoc _ _ _))⟩))); try go_wp2_with (first | (go_at_call 35; (with_reducible refine (lampblackref02_Size.calls kj13 (rd l1_0 x38_2) t422 _ A25.out).mono ?_); rintro e w' ⟨rfl, ⟨nd, rfl⟩⟩; (try first | exact ⟨rfl, _, World.drewN_drewN _ _ _⟩ | exact ⟨rfl, _, Eq.trans (World.drewN_drewN _ _ _) (congrArg (World.drewN _) (Nat.add_assoc _ _ _))⟩))))
               go_roundg kj13
               case measure => have := HJ2.out; have := HK2.out; have := HJ13.out; omega
               case rel => exact ⟨(x7_2), (ji26), (wrap64 (x38_2 + 1)), (Qrs), (by first | rfl | (simp; done) | (simp only [← hji26] <;> (first | rfl | simp)) | (simp [*]; done)), (Qrs), H', ⟨by have := HJ2.out; have := HK2.out; have := HJ13.out; omega⟩, ⟨by (with_reducible repeat (first | refine blk_drewN ?_ _ | refine blk_drew ?_ | refine blk_alloc ?_ _)); exact BK417.out⟩, ⟨by repeat (first | (with_reducible first | exact HB.out | apply below_alloc | apply pw_below_drewN | apply below_drew1 | refine below_set ?_ GE417.out) | exact HB.out)⟩⟩
             ·rw [if_neg c24] at H
              exact absurd H (by simp)
            ·rw [if_neg c23] at H
             exact absurd H (by simp)
        ·rw [if_neg c13] at H
         exact absurd H (by simp)
       ·rw [if_neg c12] at H
        exact absurd H (by simp)
      ·rw [if_neg c11] at H
       have c11b0 : decide (x38_2 < (l1_1.length : Int)) = false := decide_eq_false c11
       clear c11
       have H' := Aside0.mk H
       clear H
       have hcz30_0 : wr.cell? ⟨gb417, 0, none⟩ = some (.slice A1_0 l1_0.length c1_0) := (blk_cell BK417.out 0).trans rfl
       have hcz30_1 : wr.cell? ⟨gb417, 1, none⟩ = some (.slice A1_1 l1_1.length c1_1) := (blk_cell BK417.out 1).trans rfl
       have hfz30_0 := blk_frozen BK417.out 0
       have hfz30_1 := blk_frozen BK417.out 1
       go_wp2
       repeat (go_quiet (fail); try go_wp2)
       go_loopg [85] k2 (fun kq v85 w' => ∃ (x85_3 : Int), v85 = .int .i64 x85_3 ∧ Aside0 (lampblackref02_IsTree.l1 kq l0 (l1_0.length : Int) x7_2 x8_2 (l1_1.length : Int) x85_3 l1_0 l1_1 = some (r1, r2)) ∧ Aside0 (kq ≤ k2) ∧ Aside0 (w'.heap[gb417]? = some (.cells #[(.slice A1_0 l1_0.length c1_0), (.slice A1_1 l1_1.length c1_1)] 52 (0, 0))) ∧ Aside0 (Below w.heap.size w w'))
       case atStart => exact ⟨(0), (Qrs), H', ⟨Nat.le_refl _⟩, ⟨by (with_reducible repeat (first | refine blk_drewN ?_ _ | refine blk_drew ?_ | refine blk_alloc ?_ _)); exact BK417.out⟩, ⟨by repeat (first | (with_reducible first | exact HB.out | apply below_alloc | apply pw_below_drewN | apply below_drew1 | refine below_set ?_ GE417.out) | exact HB.out)⟩⟩
       case round =>
        clear H'
        try clear c1
        try clear c2
        try clear p2
        try clear p4
        try clear q4
        try clear hx4
        try clear c5
        try clear c6
        try clear c6b0
        try clear c6b1
        try clear p6
        try clear c7
        try clear c7b0
        try clear c7b1
        try clear c9
        try clear c11
        try clear c11b0
        try clear c12
        try clear c12b0
        try clear c13
        try clear c13b0
        try clear c15
        try clear c15b0
        try clear c16
        try clear c16b0
        try clear c17
        try clear c17b0
        try clear c18
        try clear c18b0
        try clear c22
        try clear c23
        try clear c23b0
        try clear c24
        try clear c24b0
        try clear c27
        try clear c27b0
        try clear hcz10_0
        try clear hcz10_1
        try clear hcz19_0
        try clear hcz19_1
        try clear hcz21_0
        try clear hcz21_1
        try clear hcz28_0
        try clear hcz28_1
        try clear hcz29_0
        try clear hcz29_1
        try clear hcz30_0
        try clear hcz30_1
        try clear hcz5_0
        try clear hcz5_1
        try clear hcz8_0
        try clear hcz8_1
        try clear hfz10_0
        try clear hfz10_1
        try clear hfz19_0
        try clear hfz19_1
        try clear hfz21_0
        try clear hfz21_1
        try clear hfz28_0
        try clear hfz28_1
        try clear hfz29_0
        try clear hfz29_1
        try clear hfz30_0
        try clear hfz30_1
        try clear hfz5_0
        try clear hfz5_1
        try clear hfz8_0
        try clear hfz8_1
        try clear hx418_0
        try clear hx419_0
        try clear hx420_0
        try clear hx421_0
        try clear p2
        try clear p4
        try clear p418
        try clear p419
        try clear p420
        try clear p421
        try clear p6
        try clear q4
        try clear q418
        try clear q419
        try clear q420
        try clear q421
        obtain ⟨x85_3, rfl, HA, HK3, BK417, HB⟩ := hrel
        cases gk with
        | zero => exact absurd HA.out (by simp [lampblackref02_IsTree.l1])
        | succ k3 =>
         have H := HA.out
         clear HA
         simp only [lampblackref02_IsTree.l1] at H
         by_cases c31 : x85_3 < (l1_1.length : Int)
         ·rw [if_pos c31] at H
          have c31b0 : decide (x85_3 < (l1_1.length : Int)) = true := decide_eq_true c31
          clear c31
          have H' := Aside0.mk H
          clear H
          go_wp2
          repeat (go_quiet (fail); try go_wp2)
          go_loopg [12, 90] k3 (fun kq v12 v90 w' => ∃ (x12_4 : Int) (x90_4 : Int), v12 = .int .i64 x12_4 ∧ v90 = .int .i64 x90_4 ∧ Aside0 (lampblackref02_IsTree.l2 kq l0 (l1_0.length : Int) x7_2 x8_2 x12_4 (l1_1.length : Int) x85_3 (l1_0.length : Int) x90_4 l1_0 l1_1 = some (r1, r2)) ∧ Aside0 (kq ≤ k3) ∧ Aside0 (w'.heap[gb417]? = some (.cells #[(.slice A1_0 l1_0.length c1_0), (.slice A1_1 l1_1.length c1_1)] 52 (0, 0))) ∧ Aside0 (Below w.heap.size w w'))
          case atStart => exact ⟨(x85_3), (0), (Qrs), (Qrs), H', ⟨Nat.le_refl _⟩, ⟨by (with_reducible repeat (first | refine blk_drewN ?_ _ | refine blk_drew ?_ | refine blk_alloc ?_ _)); exact BK417.out⟩, ⟨by repeat (first | (with_reducible first | exact HB.out | apply below_alloc | apply pw_below_drewN | apply below_drew1 | refine below_set ?_ GE417.out) | exact HB.out)⟩⟩
          case round =>
           clear H'
           try clear c1
           try clear c2
           try clear p2
           try clear c3
           try clear p4
           try clear q4
           try clear hx4
           try clear c5
           try clear c6
           try clear c6b0
           try clear c6b1
           try clear p6
           try clear c7
           try clear c7b0
           try clear c7b1
           try clear c9
           try clear c11
           try clear c11b0
           try clear c12
           try clear c12b0
           try clear c13
           try clear c13b0
           try clear c15
           try clear c15b0
           try clear c16
           try clear c16b0
           try clear c17
           try clear c17b0
           try clear c18
           try clear c18b0
           try clear c22
           try clear c23
           try clear c23b0
           try clear c24
           try clear c24b0
           try clear c27
           try clear c27b0
           try clear c31
           try clear c31b0
           try clear hcz10_0
           try clear hcz10_1
           try clear hcz19_0
           try clear hcz19_1
           try clear hcz21_0
           try clear hcz21_1
           try clear hcz28_0
           try clear hcz28_1
           try clear hcz29_0
           try clear hcz29_1
           try clear hcz30_0
           try clear hcz30_1
           try clear hcz5_0
           try clear hcz5_1
           try clear hcz8_0
           try clear hcz8_1
           try clear hfz10_0
           try clear hfz10_1
           try clear hfz19_0
           try clear hfz19_1
           try clear hfz21_0
           try clear hfz21_1
           try clear hfz28_0
           try clear hfz28_1
           try clear hfz29_0
           try clear hfz29_1
           try clear hfz30_0
           try clear hfz30_1
           try clear hfz5_0
           try clear hfz5_1
           try clear hfz8_0
           try clear hfz8_1
           try clear hx418_0
           try clear hx419_0
           try clear hx420_0
           try clear hx421_0
           try clear p2
           try clear p4
           try clear p418
           try clear p419
           try clear p420
           try clear p421
           try clear p6
           try clear q4
           try clear q418
           try clear q419
           try clear q420
           try clear q421
           obtain ⟨x12_4, x90_4, rfl, rfl, HA, HK4, BK417, HB⟩ := hrel
           cases gk with
           | zero => exact absurd HA.out (by simp [lampblackref02_IsTree.l2])
           | succ k4 =>
            have H := HA.out
            clear HA
            simp only [lampblackref02_IsTree.l2] at H
            by_cases c32 : x90_4 < (l1_0.length : Int)
            ·rw [if_pos c32] at H
             have c32b0 : decide (x90_4 < (l1_0.length : Int)) = true := decide_eq_true c32
             clear c32
             by_cases c33 : x12_4 ≥ 0
             ·rw [if_pos c33] at H
              have c33b0 : decide (0 ≤ x12_4) = true := decide_eq_true c33
              clear c33
              by_cases c34 : 0 ≤ x12_4
              ·rw [if_pos c34] at H
               have c34b0 : decide (0 ≤ x12_4) = true := decide_eq_true c34
               clear c34
               by_cases c35 : x12_4 < (l1_1.length : Int)
               ·rw [if_pos c35] at H
                have c35b0 : decide (x12_4 < (l1_1.length : Int)) = true := decide_eq_true c35
                clear c35
                have H' := Aside0.mk H
                clear H
                have hcz36_0 : wr.cell? ⟨gb417, 0, none⟩ = some (.slice A1_0 l1_0.length c1_0) := (blk_cell BK417.out 0).trans rfl
                have hcz36_1 : wr.cell? ⟨gb417, 1, none⟩ = some (.slice A1_1 l1_1.length c1_1) := (blk_cell BK417.out 1).trans rfl
                have hfz36_0 := blk_frozen BK417.out 0
                have hfz36_1 := blk_frozen BK417.out 1
                have p423 : 0 ≤ (x12_4 : Int) := of_decide_eq_true (Qas)
                have q423 : x12_4 < (l1_1.length : Int) := of_decide_eq_true (Qas)
                obtain ⟨ad423, e423, hx423_0⟩ := Kd.at_int HR1_1.out x12_4 p423 q423
                cases e423
                replace hx423_0 := (HB.out.cell (World.block_lt_of_cell? w _ hx423_0)).trans hx423_0
                replace p423 := eq_true p423
                replace q423 := eq_true q423
                go_wp2
                repeat (go_quiet (fail); try go_wp2)
                go_roundg k4
                case measure => have := HJ2.out; have := HK2.out; have := HK3.out; have := HK4.out; omega
                case rel => exact ⟨(rd l1_1 x12_4), (wrap64 (x90_4 + 1)), (Qrs), (Qrs), H', ⟨by have := HJ2.out; have := HK2.out; have := HK3.out; have := HK4.out; omega⟩, ⟨by (with_reducible repeat (first | refine blk_drewN ?_ _ | refine blk_drew ?_ | refine blk_alloc ?_ _)); exact BK417.out⟩, ⟨by repeat (first | (with_reducible first | exact HB.out | apply below_alloc | apply pw_below_drewN | apply below_drew1 | refine below_set ?_ GE417.out) | exact HB.out)⟩⟩
               ·rw [if_neg c35] at H
                exact absurd H (by simp)
              ·rw [if_neg c34] at H
               exact absurd H (by simp)
             ·rw [if_neg c33] at H
              have c33b0 : decide (0 ≤ x12_4) = false := decide_eq_false c33
              clear c33
              have H' := Aside0.mk H
              clear H
              go_wp2
              repeat (go_quiet (fail); try go_wp2)
              go_roundg k4
              case measure => have := HJ2.out; have := HK2.out; have := HK3.out; have := HK4.out; omega
              case rel => exact ⟨(x12_4), (wrap64 (x90_4 + 1)), (Qrs), (Qrs), H', ⟨by have := HJ2.out; have := HK2.out; have := HK3.out; have := HK4.out; omega⟩, ⟨by (with_reducible repeat (first | refine blk_drewN ?_ _ | refine blk_drew ?_ | refine blk_alloc ?_ _)); exact BK417.out⟩, ⟨by repeat (first | (with_reducible first | exact HB.out | apply below_alloc | apply pw_below_drewN | apply below_drew1 | refine below_set ?_ GE417.out) | exact HB.out)⟩⟩
            ·rw [if_neg c32] at H
             have c32b0 : decide (x90_4 < (l1_0.length : Int)) = false := decide_eq_false c32
             clear c32
             by_cases c37 : x12_4 ≥ 0
             ·rw [if_pos c37] at H
              have c37b0 : decide (0 ≤ x12_4) = true := decide_eq_true c37
              clear c37
              simp only [Option.some.injEq, Prod.mk.injEq] at H
              obtain ⟨rfl, rfl⟩ := H
              go_wp2
              repeat (go_quiet (fail); try go_wp2)
              go_ret2
              exact ⟨by first | rfl | (simp [errW_none, errW_some] <;> rfl) | (simp [*, errW_none, errW_some] <;> rfl), by repeat (first | (with_reducible first | exact HB.out | apply below_alloc | apply pw_below_drewN | apply below_drew1 | refine below_set ?_ GE417.out) | exact HB.out)⟩
             ·rw [if_neg c37] at H
              have c37b0 : decide (0 ≤ x12_4) = false := decide_eq_false c37
              clear c37
              have H' := Aside0.mk H
              clear H
              go_wp2
              repeat (go_quiet (fail); try go_wp2)
              go_roundg k4
              case measure => have := HJ2.out; have := HK2.out; have := HK3.out; have := HK4.out; omega
              case rel => exact ⟨(wrap64 (x85_3 + 1)), (Qrs), H', ⟨by have := HJ2.out; have := HK2.out; have := HK3.out; have := HK4.out; omega⟩, ⟨by (with_reducible repeat (first | refine blk_drewN ?_ _ | refine blk_drew ?_ | refine blk_alloc ?_ _)); exact BK417.out⟩, ⟨by repeat (first | (with_reducible first | exact HB.out | apply below_alloc | apply pw_below_drewN | apply below_drew1 | refine below_set ?_ GE417.out) | exact HB.out)⟩⟩
         ·rw [if_neg c31] at H
          have c31b0 : decide (x85_3 < (l1_1.length : Int)) = false := decide_eq_false c31
          clear c31
          by_cases c38 : x7_2 = 1
          ·rw [if_pos c38] at H
           have c38b0 : (x7_2 == 1) = true := beq_iff_eq.mpr c38
           have c38b1 : (x7_2 != 1) = false := bne_eq_false_iff_eq.mpr c38
           clear c38
           have H' := Aside0.mk H
           clear H
           go_wp2
           repeat (go_quiet (fail); try go_wp2)
           go_loopg [107] k3 (fun kq v107 w' => ∃ (x107_4 : Int), v107 = .int .i64 x107_4 ∧ Aside0 (lampblackref02_IsTree.l3 kq l0 x8_2 (l0.length : Int) x107_4 l1_0 l1_1 = some (r1, r2)) ∧ Aside0 (kq ≤ k3) ∧ Aside0 (w'.heap[gb417]? = some (.cells #[(.slice A1_0 l1_0.length c1_0), (.slice A1_1 l1_1.length c1_1)] 52 (0, 0))) ∧ Aside0 (Below w.heap.size w w'))
           case atStart => exact ⟨(0), (Qrs), H', ⟨Nat.le_refl _⟩, ⟨by (with_reducible repeat (first | refine blk_drewN ?_ _ | refine blk_drew ?_ | refine blk_alloc ?_ _)); exact BK417.out⟩, ⟨by repeat (first | (with_reducible first | exact HB.out | apply below_alloc | apply pw_below_drewN | apply below_drew1 | refine below_set ?_ GE417.out) | exact HB.out)⟩⟩
           case round =>
            clear H'
            try clear c1
            try clear c2
            try clear p2
            try clear c3
            try clear p4
            try clear q4
            try clear hx4
            try clear c5
            try clear c6
            try clear c6b0
            try clear c6b1
            try clear p6
            try clear c7
            try clear c7b0
            try clear c7b1
            try clear c9
            try clear c11
            try clear c11b0
            try clear c12
            try clear c12b0
            try clear c13
            try clear c13b0
            try clear c15
            try clear c15b0
            try clear c16
            try clear c16b0
            try clear c17
            try clear c17b0
            try clear c18
            try clear c18b0
            try clear c22
            try clear c23
            try clear c23b0
            try clear c24
            try clear c24b0
            try clear c27
            try clear c27b0
            try clear c31
            try clear c31b0
            try clear c32
            try clear c32b0
            try clear c33
            try clear c33b0
            try clear c34
            try clear c34b0
            try clear c35
            try clear c35b0
            try clear c37
            try clear c37b0
            try clear c38
            try clear c38b0
            try clear c38b1
            try clear hcz10_0
            try clear hcz10_1
            try clear hcz19_0
            try clear hcz19_1
            try clear hcz21_0
            try clear hcz21_1
            try clear hcz28_0
            try clear hcz28_1
            try clear hcz29_0
            try clear hcz29_1
            try clear hcz30_0
            try clear hcz30_1
            try clear hcz36_0
            try clear hcz36_1
            try clear hcz5_0
            try clear hcz5_1
            try clear hcz8_0
            try clear hcz8_1
            try clear hfz10_0
            try clear hfz10_1
            try clear hfz19_0
            try clear hfz19_1
            try clear hfz21_0
            try clear hfz21_1
            try clear hfz28_0
            try clear hfz28_1
            try clear hfz29_0
            try clear hfz29_1
            try clear hfz30_0
            try clear hfz30_1
            try clear hfz36_0
            try clear hfz36_1
            try clear hfz5_0
            try clear hfz5_1
            try clear hfz8_0
            try clear hfz8_1
            try clear hx418_0
            try clear hx419_0
            try clear hx420_0
            try clear hx421_0
            try clear hx423_0
            try clear p2
            try clear p4
            try clear p418
            try clear p419
            try clear p420
            try clear p421
            try clear p423
            try clear p6
            try clear q4
            try clear q418
            try clear q419
            try clear q420
            try clear q421
            try clear q423
            obtain ⟨x107_4, rfl, HA, HK4, BK417, HB⟩ := hrel
            cases gk with
            | zero => exact absurd HA.out (by simp [lampblackref02_IsTree.l3])
            | succ k4 =>
             have H := HA.out
             clear HA
             simp only [lampblackref02_IsTree.l3] at H
             by_cases c39 : x107_4 < (l0.length : Int)
             ·rw [if_pos c39] at H
              have c39b0 : decide (x107_4 < (l0.length : Int)) = true := decide_eq_true c39
              clear c39
              have H' := Aside0.mk H
              clear H
              have hcz40_0 : wr.cell? ⟨gb417, 0, none⟩ = some (.slice A1_0 l1_0.length c1_0) := (blk_cell BK417.out 0).trans rfl
              have hcz40_1 : wr.cell? ⟨gb417, 1, none⟩ = some (.slice A1_1 l1_1.length c1_1) := (blk_cell BK417.out 1).trans rfl
              have hfz40_0 := blk_frozen BK417.out 0
              have hfz40_1 := blk_frozen BK417.out 1
              go_wp2
              repeat (go_quiet (fail); try go_wp2)
              go_loopg [14, 15, 113] k4 (fun kq v14 v15 v113 w' => ∃ (x14_5 : Int) (x15_5 : Int) (x113_5 : Int), v14 = .int .i64 x14_5 ∧ v15 = .int .i64 x15_5 ∧ v113 = .int .i64 x113_5 ∧ Aside0 (lampblackref02_IsTree.l4 kq l0 x8_2 x107_4 x14_5 x15_5 (l0.length : Int) x107_4 l1_0 (l1_0.length : Int) x113_5 l1_0 l1_1 = some (r1, r2)) ∧ Aside0 (kq ≤ k4) ∧ Aside0 (w'.heap[gb417]? = some (.cells #[(.slice A1_0 l1_0.length c1_0), (.slice A1_1 l1_1.length c1_1)] 52 (0, 0))) ∧ Aside0 (Below w.heap.size w w'))
              case atStart => exact ⟨(0), (0), (0), (Qrs), (Qrs), (Qrs), H', ⟨Nat.le_refl _⟩, ⟨by (with_reducible repeat (first | refine blk_drewN ?_ _ | refine blk_drew ?_ | refine blk_alloc ?_ _)); exact BK417.out⟩, ⟨by repeat (first | (with_reducible first | exact HB.out | apply below_alloc | apply pw_below_drewN | apply below_drew1 | refine below_set ?_ GE417.out) | exact HB.out)⟩⟩
              case round =>
               clear H'
               try clear c1
               try clear c2
               try clear p2
               try clear c3
               try clear p4
               try clear q4
               try clear hx4
               try clear c5
               try clear c6
               try clear c6b0
               try clear c6b1
               try clear p6
               try clear c7
               try clear c7b0
               try clear c7b1
               try clear c9
               try clear c11
               try clear c11b0
               try clear c12
               try clear c12b0
               try clear c13
               try clear c13b0
               try clear c15
               try clear c15b0
               try clear c16
               try clear c16b0
               try clear c17
               try clear c17b0
               try clear c18
               try clear c18b0
               try clear c22
               try clear c23
               try clear c23b0
               try clear c24
               try clear c24b0
               try clear c27
               try clear c27b0
               try clear c31
               try clear c31b0
               try clear c32
               try clear c32b0
               try clear c33
               try clear c33b0
               try clear c34
               try clear c34b0
               try clear c35
               try clear c35b0
               try clear c37
               try clear c37b0
               try clear c38
               try clear c38b0
               try clear c38b1
               try clear c39
               try clear c39b0
               try clear hcz10_0
               try clear hcz10_1
               try clear hcz19_0
               try clear hcz19_1
               try clear hcz21_0
               try clear hcz21_1
               try clear hcz28_0
               try clear hcz28_1
               try clear hcz29_0
               try clear hcz29_1
               try clear hcz30_0
               try clear hcz30_1
               try clear hcz36_0
               try clear hcz36_1
               try clear hcz40_0
               try clear hcz40_1
               try clear hcz5_0
               try clear hcz5_1
               try clear hcz8_0
               try clear hcz8_1
               try clear hfz10_0
               try clear hfz10_1
               try clear hfz19_0
               try clear hfz19_1
               try clear hfz21_0
               try clear hfz21_1
               try clear hfz28_0
               try clear hfz28_1
               try clear hfz29_0
               try clear hfz29_1
               try clear hfz30_0
               try clear hfz30_1
               try clear hfz36_0
               try clear hfz36_1
               try clear hfz40_0
               try clear hfz40_1
               try clear hfz5_0
               try clear hfz5_1
               try clear hfz8_0
               try clear hfz8_1
               try clear hx418_0
               try clear hx419_0
               try clear hx420_0
               try clear hx421_0
               try clear hx423_0
               try clear p2
               try clear p4
               try clear p418
               try clear p419
               try clear p420
               try clear p421
               try clear p423
               try clear p6
               try clear q4
               try clear q418
               try clear q419
               try clear q420
               try clear q421
               try clear q423
               obtain ⟨x14_5, x15_5, x113_5, rfl, rfl, rfl, HA, HK5, BK417, HB⟩ := hrel
               cases gk with
               | zero => exact absurd HA.out (by simp [lampblackref02_IsTree.l4])
               | succ k5 =>
                have H := HA.out
                clear HA
                simp only [lampblackref02_IsTree.l4] at H
                by_cases c41 : x113_5 < (l1_0.length : Int)
                ·rw [if_pos c41] at H
                 have c41b0 : decide (x113_5 < (l1_0.length : Int)) = true := decide_eq_true c41
                 clear c41
                 by_cases c42 : 0 ≤ x113_5
                 ·rw [if_pos c42] at H
                  have c42b0 : decide (0 ≤ x113_5) = true := decide_eq_true c42
                  clear c42
                  by_cases c43 : x113_5 < (l1_0.length : Int)
                  ·rw [if_pos c43] at H
                   have c43b0 : decide (x113_5 < (l1_0.length : Int)) = true := decide_eq_true c43
                   clear c43
                   by_cases c44 : 0 ≤ x107_4
                   ·rw [if_pos c44] at H
                    have c44b0 := eq_true c44
                    have c44b1 : decide (0 ≤ x107_4) = true := decide_eq_true c44
                    clear c44
                    obtain ⟨ji45, hji45⟩ : ∃ j_ : Int, (shr .i64 (rd l1_0 x113_5) x107_4) = j_ := ⟨_, rfl⟩
                    replace H : (if (Go.bits .and .i64 (ji45) 1) = 0 then (lampblackref02_IsTree.l4 k5 l0 x8_2 x107_4 x14_5 x15_5 (l0.length : Int) x107_4 l1_0 (l1_0.length : Int) (wrap64 (x113_5 + 1)) l1_0 l1_1) else (if x113_5 < (l1_1.length : Int) then (if (rd l1_1 x113_5) < 0 then (lampblackref02_IsTree.l4 k5 l0 x8_2 x107_4 (wrap64 (x14_5 + 1)) (Go.bits .or .i64 x15_5 (rd l1_0 x113_5)) (l0.length : Int) x107_4 l1_0 (l1_0.length : Int) (wrap64 (x113_5 + 1)) l1_0 l1_1) else (if 0 ≤ (rd l1_1 x113_5) then (if (rd l1_1 x113_5) < (l1_0.length : Int) then (if (Go.bits .and .i64 (shr .i64 (rd l1_0 (rd l1_1 x113_5)) x107_4) 1) = 0 then (lampblackref02_IsTree.l4 k5 l0 x8_2 x107_4 (wrap64 (x14_5 + 1)) (Go.bits .or .i64 x15_5 (rd l1_0 x113_5)) (l0.length : Int) x107_4 l1_0 (l1_0.length : Int) (wrap64 (x113_5 + 1)) l1_0 l1_1) else (lampblackref02_IsTree.l4 k5 l0 x8_2 x107_4 x14_5 (Go.bits .or .i64 x15_5 (rd l1_0 x113_5)) (l0.length : Int) x107_4 l1_0 (l1_0.length : Int) (wrap64 (x113_5 + 1)) l1_0 l1_1)) else (none)) else (none))) else (none))) = some (r1, r2) := by first | (rw [hji45] at H; exact H) | (simp only [hji45] at H ⊢; exact H)
                    have hji45_ : ((rd l1_0 x113_5) / 2 ^ min x107_4.toNat 64) = ji45 := hji45
                    have hji45z : x107_4 ≤ 64 → ((rd l1_0 x113_5) / 2 ^ x107_4.toNat) = ji45 := shr_small hji45
                    by_cases c46 : (Go.bits .and .i64 (ji45) 1) = 0
                    ·rw [if_pos c46] at H
                     have c46b0 : ((Go.bits .and .i64 (ji45) 1) == 0) = true := beq_iff_eq.mpr c46
                     have c46b1 : ((Go.bits .and .i64 (ji45) 1) != 0) = false := bne_eq_false_iff_eq.mpr c46
                     clear c46
                     have H' := Aside0.mk H
                     clear H
                     have p425 : 0 ≤ (x113_5 : Int) := of_decide_eq_true (Qas)
                     have q425 : x113_5 < (l1_0.length : Int) := of_decide_eq_true (Qas)
                     obtain ⟨ad425, e425, hx425_0⟩ := Kd.at_int HR1_0.out x113_5 p425 q425
                     cases e425
                     replace hx425_0 := (HB.out.cell (World.block_lt_of_cell? w _ hx425_0)).trans hx425_0
                     replace p425 := eq_true p425
                     replace q425 := eq_true q425
                     go_wp2
                     repeat (go_quiet (fail); try go_wp2)
                     go_roundg k5
                     case measure => have := HJ2.out; have := HK2.out; have := HK3.out; have := HK4.out; have := HK5.out; omega
                     case rel => exact ⟨(x14_5), (x15_5), (wrap64 (x113_5 + 1)), (Qrs), (Qrs), (Qrs), H', ⟨by have := HJ2.out; have := HK2.out; have := HK3.out; have := HK4.out; have := HK5.out; omega⟩, ⟨by (with_reducible repeat (first | refine blk_drewN ?_ _ | refine blk_drew ?_ | refine blk_alloc ?_ _)); exact BK417.out⟩, ⟨by repeat (first | (with_reducible first | exact HB.out | apply below_alloc | apply pw_below_drewN | apply below_drew1 | refine below_set ?_ GE417.out) | exact HB.out)⟩⟩
                    ·rw [if_neg c46] at H
                     have c46b0 : ((Go.bits .and .i64 (ji45) 1) == 0) = false := beq_eq_false_iff_ne.mpr c46
                     have c46b1 : ((Go.bits .and .i64 (ji45) 1) != 0) = true := bne_iff_ne.mpr c46
                     by_cases c47 : x113_5 < (l1_1.length : Int)
                     ·rw [if_pos c47] at H
                      have c47b0 : decide (x113_5 < (l1_1.length : Int)) = true := decide_eq_true c47
                      clear c47
                      by_cases c48 : (rd l1_1 x113_5) < 0
                      ·rw [if_pos c48] at H
                       have c48b0 : decide ((rd l1_1 x113_5) < 0) = true := decide_eq_true c48
                       clear c48
                       have H' := Aside0.mk H
                       clear H
                       have p425 : 0 ≤ (x113_5 : Int) := of_decide_eq_true (Qas)
                       have q425 : x113_5 < (l1_0.length : Int) := of_decide_eq_true (Qas)
                       obtain ⟨ad425, e425, hx425_0⟩ := Kd.at_int HR1_0.out x113_5 p425 q425
                       cases e425
                       replace hx425_0 := (HB.out.cell (World.block_lt_of_cell? w _ hx425_0)).trans hx425_0
                       replace p425 := eq_true p425
                       replace q425 := eq_true q425
                       have hcz49_0 : wr.cell? ⟨gb417, 0, none⟩ = some (.slice (some ad425) l1_0.length c1_0) := (blk_cell BK417.out 0).trans rfl
                       have hcz49_1 : wr.cell? ⟨gb417, 1, none⟩ = some (.slice A1_1 l1_1.length c1_1) := (blk_cell BK417.out 1).trans rfl
                       have hfz49_0 := blk_frozen BK417.out 0
                       have hfz49_1 := blk_frozen BK417.out 1
                       have p426 : 0 ≤ (x113_5 : Int) := of_decide_eq_true (Qas)
                       have q426 : x113_5 < (l1_1.length : Int) := of_decide_eq_true (Qas)
                       obtain ⟨ad426, e426, hx426_0⟩ := Kd.at_int HR1_1.out x113_5 p426 q426
                       cases e426
                       replace hx426_0 := (HB.out.cell (World.block_lt_of_cell? w _ hx426_0)).trans hx426_0
                       replace p426 := eq_true p426
                       replace q426 := eq_true q426
                       go_wp2
                       repeat (go_quiet (fail); try go_wp2)
                       go_roundg k5
                       case measure => have := HJ2.out; have := HK2.out; have := HK3.out; have := HK4.out; have := HK5.out; omega
                       case rel => exact ⟨(wrap64 (x14_5 + 1)), (Go.bits .or .i64 x15_5 (rd l1_0 x113_5)), (wrap64 (x113_5 + 1)), (Qrs), (Qrs), (Qrs), H', ⟨by have := HJ2.out; have := HK2.out; have := HK3.out; have := HK4.out; have := HK5.out; omega⟩, ⟨by (with_reducible repeat (first | refine blk_drewN ?_ _ | refine blk_drew ?_ | refine blk_alloc ?_ _)); exact BK417.out⟩, ⟨by repeat (first | (with_reducible first | exact HB.out | apply below_alloc | apply pw_below_drewN | apply below_drew1 | refine below_set ?_ GE417.out) | exact HB.out)⟩⟩
                      ·rw [if_neg c48] at H
                       have c48b0 : decide ((rd l1_1 x113_5) < 0) = false := decide_eq_false c48
                       clear c48
                       by_cases c50 : 0 ≤ (rd l1_1 x113_5)
                       ·rw [if_pos c50] at H
                        have c50b0 : decide (0 ≤ (rd l1_1 x113_5)) = true := decide_eq_true c50
                        clear c50
                        by_cases c51 : (rd l1_1 x113_5) < (l1_0.length : Int)
                        ·rw [if_pos c51] at H
                         have c51b0 : decide ((rd l1_1 x113_5) < (l1_0.length : Int)) = true := decide_eq_true c51
                         clear c51
                         have c52b0 := eq_true (of_decide_eq_true (Qas) : 0 ≤ x107_4)
                         obtain ⟨ji53, hji53⟩ : ∃ j_ : Int, (shr .i64 (rd l1_0 (rd l1_1 x113_5)) x107_4) = j_ := ⟨_, rfl⟩
                         replace H : (if (Go.bits .and .i64 (ji53) 1) = 0 then (lampblackref02_IsTree.l4 k5 l0 x8_2 x107_4 (wrap64 (x14_5 + 1)) (Go.bits .or .i64 x15_5 (rd l1_0 x113_5)) (l0.length : Int) x107_4 l1_0 (l1_0.length : Int) (wrap64 (x113_5 + 1)) l1_0 l1_1) else (lampblackref02_IsTree.l4 k5 l0 x8_2 x107_4 x14_5 (Go.bits .or .i64 x15_5 (rd l1_0 x113_5)) (l0.length : Int) x107_4 l1_0 (l1_0.length : Int) (wrap64 (x113_5 + 1)) l1_0 l1_1)) = some (r1, r2) := by first | (rw [hji53] at H; exact H) | (simp only [hji53] at H ⊢; exact H)
                         have hji53_ : ((rd l1_0 (rd l1_1 x113_5)) / 2 ^ min x107_4.toNat 64) = ji53 := hji53
                         have hji53z : x107_4 ≤ 64 → ((rd l1_0 (rd l1_1 x113_5)) / 2 ^ x107_4.toNat) = ji53 := shr_small hji53
                         by_cases c54 : (Go.bits .and .i64 (ji53) 1) = 0
                         ·rw [if_pos c54] at H
                          have c54b0 : ((Go.bits .and .i64 (ji53) 1) == 0) = true := beq_iff_eq.mpr c54
                          have c54b1 : ((Go.bits .and .i64 (ji53) 1) != 0) = false := bne_eq_false_iff_eq.mpr c54
                          clear c54
                          have H' := Aside0.mk H
                          clear H
                          have p425 : 0 ≤ (x113_5 : Int) := of_decide_eq_true (Qas)
                          have q425 : x113_5 < (l1_0.length : Int) := of_decide_eq_true (Qas)
                          obtain ⟨ad425, e425, hx425_0⟩ := Kd.at_int HR1_0.out x113_5 p425 q425
                          cases e425
                          replace hx425_0 := (HB.out.cell (World.block_lt_of_cell? w _ hx425_0)).trans hx425_0
                          replace p425 := eq_true p425
                          replace q425 := eq_true q425
                          have hcz55_0 : wr.cell? ⟨gb417, 0, none⟩ = some (.slice (some ad425) l1_0.length c1_0) := (blk_cell BK417.out 0).trans rfl
                          have hcz55_1 : wr.cell? ⟨gb417, 1, none⟩ = some (.slice A1_1 l1_1.length c1_1) := (blk_cell BK417.out 1).trans rfl
                          have hfz55_0 := blk_frozen BK417.out 0
                          have hfz55_1 := blk_frozen BK417.out 1
                          have p426 : 0 ≤ (x113_5 : Int) := of_decide_eq_true (Qas)
                          have q426 : x113_5 < (l1_1.length : Int) := of_decide_eq_true (Qas)
                          obtain ⟨ad426, e426, hx426_0⟩ := Kd.at_int HR1_1.out x113_5 p426 q426
                          cases e426
                          replace hx426_0 := (HB.out.cell (World.block_lt_of_cell? w _ hx426_0)).trans hx426_0
                          replace p426 := eq_true p426
                          replace q426 := eq_true q426
                          have p427 : 0 ≤ ((rd l1_1 x113_5) : Int) := of_decide_eq_true (Qas)
                          have q427 : (rd l1_1 x113_5) < (l1_0.length : Int) := of_decide_eq_true (Qas)
                          obtain ⟨ad427, e427, hx427_0⟩ := Kd.at_int HR1_0.out (rd l1_1 x113_5) p427 q427
                          obtain rfl : ad425 = ad427 := (by injection e427)
                          replace hx427_0 := (HB.out.cell (World.block_lt_of_cell? w _ hx427_0)).trans hx427_0
                          replace p427 := eq_true p427
                          replace q427 := eq_true q427
                          go_wp2
                          repeat (go_quiet (fail); try go_wp2)
                          go_roundg k5
                          case measure => have := HJ2.out; have := HK2.out; have := HK3.out; have := HK4.out; have := HK5.out; omega
                          case rel => exact ⟨(wrap64 (x14_5 + 1)), (Go.bits .or .i64 x15_5 (rd l1_0 x113_5)), (wrap64 (x113_5 + 1)), (Qrs), (Qrs), (Qrs), H', ⟨by have := HJ2.out; have := HK2.out; have := HK3.out; have := HK4.out; have := HK5.out; omega⟩, ⟨by (with_reducible repeat (first | refine blk_drewN ?_ _ | refine blk_drew ?_ | refine blk_alloc ?_ _)); exact BK417.out⟩, ⟨by repeat (first | (with_reducible first | exact HB.out | apply below_alloc | apply pw_below_drewN | apply below_drew1 | refine below_set ?_ GE417.out) | exact HB.out)⟩⟩
                         ·rw [if_neg c54] at H
                          have c54b0 : ((Go.bits .and .i64 (ji53) 1) == 0) = false := beq_eq_false_iff_ne.mpr c54
                          have c54b1 : ((Go.bits .and .i64 (ji53) 1) != 0) = true := bne_iff_ne.mpr c54
                          have H' := Aside0.mk H
                          clear H
                          have p425 : 0 ≤ (x113_5 : Int) := of_decide_eq_true (Qas)
                          have q425 : x113_5 < (l1_0.length : Int) := of_decide_eq_true (Qas)
                          obtain ⟨ad425, e425, hx425_0⟩ := Kd.at_int HR1_0.out x113_5 p425 q425
                          cases e425
                          replace hx425_0 := (HB.out.cell (World.block_lt_of_cell? w _ hx425_0)).trans hx425_0
                          replace p425 := eq_true p425
                          replace q425 := eq_true q425
                          have hcz56_0 : wr.cell? ⟨gb417, 0, none⟩ = some (.slice (some ad425) l1_0.length c1_0) := (blk_cell BK417.out 0).trans rfl
                          have hcz56_1 : wr.cell? ⟨gb417, 1, none⟩ = some (.slice A1_1 l1_1.length c1_1) := (blk_cell BK417.out 1).trans rfl
                          have hfz56_0 := blk_frozen BK417.out 0
                          have hfz56_1 := blk_frozen BK417.out 1
                          have p426 : 0 ≤ (x113_5 : Int) := of_decide_eq_true (Qas)
                          have q426 : x113_5 < (l1_1.length : Int) := of_decide_eq_true (Qas)
                          obtain ⟨ad426, e426, hx426_0⟩ := Kd.at_int HR1_1.out x113_5 p426 q426
                          cases e426
                          replace hx426_0 := (HB.out.cell (World.block_lt_of_cell? w _ hx426_0)).trans hx426_0
                          replace p426 := eq_true p426
                          replace q426 := eq_true q426
                          have p427 : 0 ≤ ((rd l1_1 x113_5) : Int) := of_decide_eq_true (Qas)
                          have q427 : (rd l1_1 x113_5) < (l1_0.length : Int) := of_decide_eq_true (Qas)
                          obtain ⟨ad427, e427, hx427_0⟩ := Kd.at_int HR1_0.out (rd l1_1 x113_5) p427 q427
                          obtain rfl : ad425 = ad427 := (by injection e427)
                          replace hx427_0 := (HB.out.cell (World.block_lt_of_cell? w _ hx427_0)).trans hx427_0
                          replace p427 := eq_true p427
                          replace q427 := eq_true q427
                          go_wp2
                          repeat (go_quiet (fail); try go_wp2)
                          go_roundg k5
                          case measure => have := HJ2.out; have := HK2.out; have := HK3.out; have := HK4.out; have := HK5.out; omega
                          case rel => exact ⟨(x14_5), (Go.bits .or .i64 x15_5 (rd l1_0 x113_5)), (wrap64 (x113_5 + 1)), (Qrs), (Qrs), (Qrs), H', ⟨by have := HJ2.out; have := HK2.out; have := HK3.out; have := HK4.out; have := HK5.out; omega⟩, ⟨by (with_reducible repeat (first | refine blk_drewN ?_ _ | refine blk_drew ?_ | refine blk_alloc ?_ _)); exact BK417.out⟩, ⟨by repeat (first | (with_reducible first | exact HB.out | apply below_alloc | apply pw_below_drewN | apply below_drew1 | refine below_set ?_ GE417.out) | exact HB.out)⟩⟩
                        ·rw [if_neg c51] at H
                         exact absurd H (by simp)
                       ·rw [if_neg c50] at H
                        exact absurd H (by simp)
                     ·rw [if_neg c47] at H
                      exact absurd H (by simp)
                   ·rw [if_neg c44] at H
                    exact absurd H (by simp)
                  ·rw [if_neg c43] at H
                   exact absurd H (by simp)
                 ·rw [if_neg c42] at H
                  exact absurd H (by simp)
                ·rw [if_neg c41] at H
                 have c41b0 : decide (x113_5 < (l1_0.length : Int)) = false := decide_eq_false c41
                 clear c41
                 by_cases c57 : x14_5 = 1
                 ·rw [if_pos c57] at H
                  have c57b0 : (x14_5 == 1) = true := beq_iff_eq.mpr c57
                  have c57b1 : (x14_5 != 1) = false := bne_eq_false_iff_eq.mpr c57
                  clear c57
                  by_cases c58 : 0 ≤ x107_4
                  ·rw [if_pos c58] at H
                   have c58b0 : decide (0 ≤ x107_4) = true := decide_eq_true c58
                   clear c58
                   by_cases c59 : x107_4 < (l0.length : Int)
                   ·rw [if_pos c59] at H
                    have c59b0 : decide (x107_4 < (l0.length : Int)) = true := decide_eq_true c59
                    clear c59
                    by_cases c60 : (Go.bits .andNot .i64 (rd l0 x107_4) x15_5) = 0
                    ·rw [if_pos c60] at H
                     have c60b0 : ((Go.bits .andNot .i64 (rd l0 x107_4) x15_5) == 0) = true := beq_iff_eq.mpr c60
                     have c60b1 : ((Go.bits .andNot .i64 (rd l0 x107_4) x15_5) != 0) = false := bne_eq_false_iff_eq.mpr c60
                     clear c60
                     have H' := Aside0.mk H
                     clear H
                     have p424 : 0 ≤ (x107_4 : Int) := of_decide_eq_true (Qas)
                     have q424 : x107_4 < (l0.length : Int) := of_decide_eq_true (Qas)
                     obtain ⟨ad424, e424, hx424_0⟩ := Kd.at_int HR0.out x107_4 p424 q424
                     cases e424
                     replace hx424_0 := (HB.out.cell (World.block_lt_of_cell? w _ hx424_0)).trans hx424_0
                     replace p424 := eq_true p424
                     replace q424 := eq_true q424
                     go_wp2
                     repeat (go_quiet (fail); try go_wp2)
                     go_roundg k5
                     case measure => have := HJ2.out; have := HK2.out; have := HK3.out; have := HK4.out; have := HK5.out; omega
                     case rel => exact ⟨(wrap64 (x107_4 + 1)), (Qrs), H', ⟨by have := HJ2.out; have := HK2.out; have := HK3.out; have := HK4.out; have := HK5.out; omega⟩, ⟨by (with_reducible repeat (first | refine blk_drewN ?_ _ | refine blk_drew ?_ | refine blk_alloc ?_ _)); exact BK417.out⟩, ⟨by repeat (first | (with_reducible first | exact HB.out | apply below_alloc | apply pw_below_drewN | apply below_drew1 | refine below_set ?_ GE417.out) | exact HB.out)⟩⟩
                    ·rw [if_neg c60] at H
                     have c60b0 : ((Go.bits .andNot .i64 (rd l0 x107_4) x15_5) == 0) = false := beq_eq_false_iff_ne.mpr c60
                     have c60b1 : ((Go.bits .andNot .i64 (rd l0 x107_4) x15_5) != 0) = true := bne_iff_ne.mpr c60
                     simp only [Option.some.injEq, Prod.mk.injEq] at H
                     obtain ⟨rfl, rfl⟩ := H
                     have p424 : 0 ≤ (x107_4 : Int) := of_decide_eq_true (Qas)
                     have q424 : x107_4 < (l0.length : Int) := of_decide_eq_true (Qas)
                     obtain ⟨ad424, e424, hx424_0⟩ := Kd.at_int HR0.out x107_4 p424 q424
                     cases e424
                     replace hx424_0 := (HB.out.cell (World.block_lt_of_cell? w _ hx424_0)).trans hx424_0
                     replace p424 := eq_true p424
                     replace q424 := eq_true q424
                     go_wp2
                     repeat (go_quiet (fail); try go_wp2)
                     go_ret2
                     exact ⟨by first | rfl | (simp [errW_none, errW_some] <;> rfl) | (simp [*, errW_none, errW_some] <;> rfl), by repeat (first | (with_reducible first | exact HB.out | apply below_alloc | apply pw_below_drewN | apply below_drew1 | refine below_set ?_ GE417.out) | exact HB.out)⟩
                   ·rw [if_neg c59] at H
                    exact absurd H (by simp)
                  ·rw [if_neg c58] at H
                   exact absurd H (by simp)
                 ·rw [if_neg c57] at H
                  have c57b0 : (x14_5 == 1) = false := beq_eq_false_iff_ne.mpr c57
                  have c57b1 : (x14_5 != 1) = true := bne_iff_ne.mpr c57
                  simp only [Option.some.injEq, Prod.mk.injEq] at H
                  obtain ⟨rfl, rfl⟩ := H
                  go_wp2
                  repeat (go_quiet (fail); try go_wp2)
                  go_ret2
                  exact ⟨by first | rfl | (simp [errW_none, errW_some] <;> rfl) | (simp [*, errW_none, errW_some] <;> rfl), by repeat (first | (with_reducible first | exact HB.out | apply below_alloc | apply pw_below_drewN | apply below_drew1 | refine below_set ?_ GE417.out) | exact HB.out)⟩
             ·rw [if_neg c39] at H
              have c39b0 : decide (x107_4 < (l0.length : Int)) = false := decide_eq_false c39
              clear c39
              simp only [Option.some.injEq, Prod.mk.injEq] at H
              obtain ⟨rfl, rfl⟩ := H
              go_wp2
              repeat (go_quiet (fail); try go_wp2)
              go_ret2
              exact ⟨by first | rfl | (simp [errW_none, errW_some] <;> rfl) | (simp [*, errW_none, errW_some] <;> rfl), by repeat (first | (with_reducible first | exact HB.out | apply below_alloc | apply pw_below_drewN | apply below_drew1 | refine below_set ?_ GE417.out) | exact HB.out)⟩
          ·rw [if_neg c38] at H
           have c38b0 : (x7_2 == 1) = false := beq_eq_false_iff_ne.mpr c38
           have c38b1 : (x7_2 != 1) = true := bne_iff_ne.mpr c38
           simp only [Option.some.injEq, Prod.mk.injEq] at H
           obtain ⟨rfl, rfl⟩ := H
           go_wp2
           repeat (go_quiet (fail); try go_wp2)
           go_ret2
           exact ⟨by first | rfl | (simp [errW_none, errW_some] <;> rfl) | (simp [*, errW_none, errW_some] <;> rfl), by repeat (first | (with_reducible first | exact HB.out | apply below_alloc | apply pw_below_drewN | apply below_drew1 | refine below_set ?_ GE417.out) | exact HB.out)⟩
end
noncomputable section
def width_Tree_width.l0 : Nat → Int → List Int → Int → Int → Option (Int)
 | 0, _, _, _, _ => none
 | k + 1, x3, x7, x8, x9 => if x9 < x8 then (if 0 ≤ x9 then (if x9 < (x7.length : Int) then ((width_count.f (rd x7 x9)).bind fun t510 => (width_Tree_width.l0 k (mx x3 t510) x7 x8 (wrap64 (x9 + 1)))) else (none)) else (none)) else (some (wrap64 (x3 - 1)))
end
end Go.Proofs.YtoffehihicabcaaDoor.X
end
