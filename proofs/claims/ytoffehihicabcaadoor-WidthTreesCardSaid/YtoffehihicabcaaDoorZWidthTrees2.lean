/- Part 2 of what WidthTrees rests on: contracts of the functions that it reaches, and what they compute, in plain words. -/
import Derived.Test.YtoffehihicabcaaDoorZWidthTrees1
import Derived.Test.YtoffehihicabcaaDoorZWidthTrees0
set_option linter.unusedVariables false
set_option linter.unusedSimpArgs false
section
namespace Go.Proofs.YtoffehihicabcaaDoor.X
open Go.RowKit YtoffehihicabcaaDoorW.PrintWords YtoffehihicabcaaDoorW.PrintLast YtoffehihicabcaaDoorW.PrintMore YtoffehihicabcaaDoor.T
attribute [local go_sem] max2_int min2_int max_two min_two max_three min_three max_four min_four
theorem gi_toNatT (G : List Nat) : (gi G).map Int.toNat = G := by
 unfold gi
 rw [List.map_map]
 conv => rhs; rw [← List.map_id G]
 exact List.map_congr_left fun x _ => by simp
theorem p9T {n : Nat} (h : n ≤ 9) : 2 ^ n ≤ 512 := Nat.pow_le_pow_right (n := 2) (by omega) h
theorem bitJT (a y : Nat) (ha : a < 2 ^ 62) (hy : y < 62) : ∃ J : Int, ((a : Int) / 2 ^ min y 64) = J ∧ ((a : Int) / 2 ^ y) = J ∧ shr .i64 (a : Int) (y : Int) = J ∧ (Go.bits .and .i64 J 1 == 1) = a.testBit y ∧ (Go.bits .and .i64 J 1 == 0) = !a.testBit y := by
 have e := s_shr a y hy
 refine ⟨_, rfl, ?_, ?_, ?_, ?_⟩
 ·rw [Nat.min_eq_left (by omega)]
 ·rw [e, Nat.min_eq_left (by omega)]; simp
 ·rw [show ((a : Int) / 2 ^ min y 64) = shr .i64 (a : Int) (y : Int) by rw [e, Nat.min_eq_left (by omega)]; simp, bit_at a y ha hy]
  cases a.testBit y <;> rfl
 ·rw [show ((a : Int) / 2 ^ min y 64) = shr .i64 (a : Int) (y : Int) by rw [e, Nat.min_eq_left (by omega)]; simp, bit_at a y ha hy]
  cases a.testBit y <;> rfl
theorem cell_sameT {W V : World} {a : Addr} (h : V.heap[a.block]? = W.heap[a.block]?) : V.cell? a = W.cell? a := by
 unfold World.cell?
 rw [h]
theorem heap_setT (W : World) (a : Addr) (v : Value) (b : Nat) (h : b ≠ a.block) : (W.setCell a v).heap[b]? = W.heap[b]? := Below.heap_setCell W a v b h
theorem blk_ltT {W : World} {g : Nat} {o : Obj} (h : W.heap[g]? = some o) : g < W.heap.size := (Array.getElem?_eq_some_iff.1 h).1
set_option maxHeartbeats 4000000 in
set_option maxRecDepth 100000 in
theorem cyclic_calls (A0 : Option Addr) (n0 c0 : Nat) (A1 : Option Addr) (c1 : Nat) (P : List Int) (at_ : Int) (hP : InP P) (hn : P.length ≤ 30) (ha1 : at_ < (P.length : Int)) (w : World) (hr : Kd.C (Kd.int .i64) w A1 P.length P) :
  Calls Tryd.prog 101 #[.agg #[.slice A0 n0 c0, .slice A1 P.length c1], .int .i64 at_] w fun e w' => e = .returned (.bool (cycB P P.length at_)) ∧ Below w.heap.size w w' := by
 have HR := Aside0.mk hr
 have HP := Aside0.mk hP
 obtain ⟨R, hR⟩ : ∃ r, cycB P P.length at_ = r := ⟨_, rfl⟩
 rw [hR]
 have HC := Aside0.mk hR
 clear hr hP hR
 go_enter Tryd.func101, Tryd.ntmps101
 go_wp2_with (first | ((with_reducible refine gate_dst (N := 2) rfl ?_); refine box_event ?hg (N := 2) ?hd (cs := #[.slice A0 n0 c0, .slice A1 P.length c1]) (t := 53) ?hr ?_; (case hd => rfl); (case hg => rfl); (case hr => first | (go_simp; done) | (go_simp; rfl)); intro ga hga w7 hbox hb7; have HBOX := Aside0.mk hbox; have HB7 := Aside0.mk hb7; have hz1 : w7.cell? ⟨ga, 1, none⟩ = some (.slice A1 P.length c1) := (blk_cell hbox 1).trans rfl; clear hbox hb7 hga))
 go_loopg [1, 8] P.length (fun kq v1 v8 w' => ∃ (i : Nat) (x : Int), v1 = .int .i64 x ∧ v8 = .int .i64 (i : Int) ∧ i + kq = P.length ∧ Aside0 (cycB P kq x = R ∧ x < (P.length : Int)) ∧ w' = w7)
 case atStart => exact ⟨0, at_, rfl, rfl, by omega, ⟨HC.out, ha1⟩, rfl⟩
 case round =>
  clear HC
  obtain ⟨i, x, rfl, rfl, hi, HC, rfl⟩ := hrel
  obtain ⟨hc, hx⟩ := HC.out
  clear HC
  by_cases hil : i < P.length
  ·have hi1 : ((i : Int) < (P.length : Int)) = True := eq_true (by omega)
   have hi2 : decide ((i : Int) < (P.length : Int)) = true := decide_eq_true (by omega)
   cases gk with
   | zero => omega
   | succ gi =>
   simp only [cycB] at hc
   by_cases hx0 : x < 0
   ·rw [if_pos hx0] at hc
    subst hc
    have hd1 : decide (x < 0) = true := decide_eq_true hx0
    clear hx0
    go_wp2
    go_ret
    exact ⟨rfl, HB7.out⟩
   ·rw [if_neg hx0] at hc
    have hd1 : decide (x < 0) = false := decide_eq_false hx0
    obtain ⟨xn, rfl⟩ := Int.eq_ofNat_of_zero_le (show 0 ≤ x by omega)
    have hxl : xn < P.length := by omega
    obtain ⟨ad, e1, hgx⟩ := Kd.at_int (Kd.C_below HR.out HB7.out) (xn : Int) (by omega) (by omega)
    subst e1
    rw [Int.toNat_natCast] at hgx
    obtain ⟨h1, h2⟩ := HP.out xn hxl
    have hj1 : ((xn : Int) < (P.length : Int)) = True := eq_true (by omega)
    have hj2 : decide ((xn : Int) < (P.length : Int)) = true := decide_eq_true (by omega)
    generalize rd P (xn : Int) = y at *
    have HC2 := Aside0.mk hc
    clear hc hx0
    go_wp2
    go_roundg gi
    case measure => omega
    case rel => exact ⟨i + 1, y, rfl, by go_num, by omega, ⟨HC2.out, h2⟩, rfl⟩
  ·have hi1 : ((i : Int) < (P.length : Int)) = False := eq_false (by omega)
   have hi2 : decide ((i : Int) < (P.length : Int)) = false := decide_eq_false (by omega)
   obtain rfl : gk = 0 := by omega
   simp only [cycB] at hc
   have hd3 : decide (x ≥ 0) = R := hc
   have hd4 : decide (0 ≤ x) = R := hc
   clear hc
   go_wp2
   go_ret
   exact ⟨by first | rfl | (rw [hd4]), HB7.out⟩
theorem cyc1 (xB : Nat) (A0 : Option Addr) (n0 c0 : Nat) (A1 : Option Addr) (c1 : Nat) (P : List Int) (at_ : Int) (hP : InP P) (hn : P.length ≤ 30) (ha1 : at_ < (P.length : Int)) (w : World) (hr : Kd.C (Kd.int .i64) w A1 P.length P) (h0 : w.cell? ⟨xB, 0, none⟩ = some (.slice A0 n0 c0)) (h1 : w.cell? ⟨xB, 1, none⟩ = some (.slice A1 P.length c1)) :
  Calls Tryd.prog 100 #[.int .i64 at_, .pointer (some ⟨xB, 0, none⟩)] w fun e w' => e = .returned (.bool (cycB P P.length at_)) ∧ Below w.heap.size w w' := by
 have HC := Aside0.mk (cyclic_calls A0 n0 c0 A1 c1 P at_ hP hn ha1 w hr)
 clear hP hn ha1 hr
 go_enter Tryd.func100, Tryd.ntmps100
 go_wp2_with (go_at_call 101; refine HC.out.mono ?_; rintro e w3 ⟨rfl, hb⟩)
 go_ret
 exact ⟨rfl, hb⟩
theorem both1 (uB vB : Nat) (u v b : Nat) (hu : u < 62) (hv : v < 62) (hb : b < 2 ^ 62) (w : World) (h0 : w.cell? ⟨uB, 0, none⟩ = some (.int .i64 (u : Int))) (h1 : w.cell? ⟨vB, 0, none⟩ = some (.int .i64 (v : Int))) :
  Calls Tryd.prog 102 #[.int .i64 (b : Int), .pointer (some ⟨uB, 0, none⟩), .pointer (some ⟨vB, 0, none⟩)] w fun e w' => e = .returned (.bool (bothB u v (b : Int))) ∧ Below w.heap.size w w' := by
 obtain ⟨J, hJ1, hJ2, hJ3, hJ4, hJ5⟩ := bitJT b u hb hu
 obtain ⟨K, hK1, hK2, hK3, hK4, hK5⟩ := bitJT b v hb hv
 have HB := Aside0.mk (show bothB u v (b : Int) = (b.testBit u && b.testBit v) from rfl)
 have hz1 : (0 : Int) ≤ (u : Int) := by omega
 have hz2 : (0 : Int) ≤ (v : Int) := by omega
 clear hb hJ3 hJ5 hK3 hK5
 rw [HB.out]
 cases hbt : b.testBit u
 ·rw [hbt] at hJ4
  clear hbt
  generalize b.testBit v = bv at *
  go_enter Tryd.func102, Tryd.ntmps102
  go_wp2
  go_ret
  exact ⟨rfl, Below.refl _ _⟩
 ·rw [hbt] at hJ4
  clear hbt
  generalize b.testBit v = bv at *
  go_enter Tryd.func102, Tryd.ntmps102
  go_wp2
  go_ret
  exact ⟨rfl, Below.refl _ _⟩
set_option maxHeartbeats 2000000 in
theorem index_cyc (A : Option Addr) (c : Nat) (l : List Int) (p : Int → Bool) (xB : Nat) (w : World) (hx : Kd.C (Kd.int .i64) w A l.length l) (hl : l.length ≤ 1000)
  (hp : ∀ W, Below w.heap.size w W → ∀ x ∈ l, Calls Tryd.prog 100 #[.int .i64 x, .pointer (some ⟨xB, 0, none⟩)] W fun e w' => e = .returned (.bool (p x)) ∧ Below W.heap.size W w') :
  Calls Tryd.prog 84 #[.slice A l.length c, .func (.func 100) #[] #[.pointer (some ⟨xB, 0, none⟩)]] w fun e w' => ∃ z, e = .returned (.int .i64 z) ∧ decide (z ≥ 0) = l.any p ∧ Below w.heap.size w w' := by
 have HX := Aside0.mk hx
 have HP := Aside0.mk hp
 clear hx hp
 go_enter Tryd.func84, Tryd.ntmps84
 go_wp2
 go_loopg [8] l.length (fun kq v8 w' => ∃ i : Nat, v8 = .int .i64 (i : Int) ∧ i + kq = l.length ∧ Aside0 ((l.drop i).any p = l.any p) ∧ Aside0 (Below w.heap.size w w'))
 case atStart => exact ⟨0, rfl, by omega, ⟨rfl⟩, ⟨Below.refl _ _⟩⟩
 case round =>
  obtain ⟨i, rfl, hi, HA, HB⟩ := hrel
  by_cases hil : i < l.length
  ·have hi1 : ((i : Int) < (l.length : Int)) = True := eq_true (by omega)
   have hi2 : decide ((i : Int) < (l.length : Int)) = true := decide_eq_true (by omega)
   cases gk with
   | zero => omega
   | succ gi =>
   obtain ⟨ad, e1, hgx⟩ := Kd.at_int (Kd.C_below HX.out HB.out) (i : Int) (by omega) (by omega)
   subst e1
   have hra : rd l (i : Int) = l[i] := by unfold rd; rw [Int.toNat_natCast, List.getD_eq_getElem?_getD, List.getElem?_eq_getElem hil]; rfl
   rw [hra, Int.toNat_natCast] at hgx
   have hm : l[i] ∈ l := List.getElem_mem hil
   have ha := HA.out
   rw [List.drop_eq_getElem_cons hil, List.any_cons] at ha
   have HC := Aside0.mk (HP.out wr HB.out _ hm)
   generalize l[i] = x at *
   clear hra HA
   cases hpx : p x
   ·rw [hpx] at HC ha
    have HA2 : Aside0 ((l.drop (i + 1)).any p = l.any p) := ⟨by simpa using ha⟩
    clear ha hpx hm
    go_wp2_with (go_at_call 100; refine HC.out.mono ?_; rintro e w3 ⟨rfl, hb⟩)
    go_roundg gi
    case measure => omega
    case rel => exact ⟨i + 1, by go_num, by omega, HA2, ⟨below_step HB.out hb⟩⟩
   ·rw [hpx] at HC ha
    have HA2 : Aside0 (true = l.any p) := ⟨by simpa using ha⟩
    clear ha hpx hm
    go_wp2_with (go_at_call 100; refine HC.out.mono ?_; rintro e w3 ⟨rfl, hb⟩)
    go_ret
    exact ⟨_, rfl, by rw [← HA2.out]; exact decide_eq_true (by omega), below_step HB.out hb⟩
  ·have hi1 : ((i : Int) < (l.length : Int)) = False := eq_false (by omega)
   have hi2 : decide ((i : Int) < (l.length : Int)) = false := decide_eq_false (by omega)
   have ha := HA.out
   rw [List.drop_eq_nil_of_le (by omega)] at ha
   have HA2 : Aside0 (false = l.any p) := ⟨ha⟩
   clear ha HA
   go_wp2
   go_ret
   exact ⟨_, rfl, by rw [← HA2.out]; rfl, HB.out⟩
theorem contains_cyc (A : Option Addr) (c : Nat) (l : List Int) (p : Int → Bool) (xB : Nat) (w : World) (hx : Kd.C (Kd.int .i64) w A l.length l) (hl : l.length ≤ 1000)
  (hp : ∀ W, Below w.heap.size w W → ∀ x ∈ l, Calls Tryd.prog 100 #[.int .i64 x, .pointer (some ⟨xB, 0, none⟩)] W fun e w' => e = .returned (.bool (p x)) ∧ Below W.heap.size W w') :
  Calls Tryd.prog 54 #[.slice A l.length c, .func (.func 100) #[] #[.pointer (some ⟨xB, 0, none⟩)]] w fun e w' => e = .returned (.bool (l.any p)) ∧ Below w.heap.size w w' := by
 have HI := Aside0.mk (index_cyc A c l p xB w hx hl hp)
 clear hx hl hp
 go_enter Tryd.func54, Tryd.ntmps54
 go_wp2_with (go_at_call 84; refine HI.out.mono ?_; rintro e w3 ⟨z, rfl, hz, hb⟩)
 go_ret
 exact ⟨by rw [← hz]; rfl, hb⟩
set_option maxHeartbeats 2000000 in
theorem index_both (A : Option Addr) (c : Nat) (l : List Int) (p : Int → Bool) (uB vB : Nat) (w : World) (hx : Kd.C (Kd.int .i64) w A l.length l) (hl : l.length ≤ 1000)
  (hp : ∀ W, Below w.heap.size w W → ∀ x ∈ l, Calls Tryd.prog 102 #[.int .i64 x, .pointer (some ⟨uB, 0, none⟩), .pointer (some ⟨vB, 0, none⟩)] W fun e w' => e = .returned (.bool (p x)) ∧ Below W.heap.size W w') :
  Calls Tryd.prog 84 #[.slice A l.length c, .func (.func 102) #[] #[.pointer (some ⟨uB, 0, none⟩), .pointer (some ⟨vB, 0, none⟩)]] w fun e w' => ∃ z, e = .returned (.int .i64 z) ∧ decide (z ≥ 0) = l.any p ∧ Below w.heap.size w w' := by
 have HX := Aside0.mk hx
 have HP := Aside0.mk hp
 clear hx hp
 go_enter Tryd.func84, Tryd.ntmps84
 go_wp2
 go_loopg [8] l.length (fun kq v8 w' => ∃ i : Nat, v8 = .int .i64 (i : Int) ∧ i + kq = l.length ∧ Aside0 ((l.drop i).any p = l.any p) ∧ Aside0 (Below w.heap.size w w'))
 case atStart => exact ⟨0, rfl, by omega, ⟨rfl⟩, ⟨Below.refl _ _⟩⟩
 case round =>
  obtain ⟨i, rfl, hi, HA, HB⟩ := hrel
  by_cases hil : i < l.length
  ·have hi1 : ((i : Int) < (l.length : Int)) = True := eq_true (by omega)
   have hi2 : decide ((i : Int) < (l.length : Int)) = true := decide_eq_true (by omega)
   cases gk with
   | zero => omega
   | succ gi =>
   obtain ⟨ad, e1, hgx⟩ := Kd.at_int (Kd.C_below HX.out HB.out) (i : Int) (by omega) (by omega)
   subst e1
   have hra : rd l (i : Int) = l[i] := by unfold rd; rw [Int.toNat_natCast, List.getD_eq_getElem?_getD, List.getElem?_eq_getElem hil]; rfl
   rw [hra, Int.toNat_natCast] at hgx
   have hm : l[i] ∈ l := List.getElem_mem hil
   have ha := HA.out
   rw [List.drop_eq_getElem_cons hil, List.any_cons] at ha
   have HC := Aside0.mk (HP.out wr HB.out _ hm)
   generalize l[i] = x at *
   clear hra HA
   cases hpx : p x
   ·rw [hpx] at HC ha
    have HA2 : Aside0 ((l.drop (i + 1)).any p = l.any p) := ⟨by simpa using ha⟩
    clear ha hpx hm
    go_wp2_with (go_at_call 102; refine HC.out.mono ?_; rintro e w3 ⟨rfl, hb⟩)
    go_roundg gi
    case measure => omega
    case rel => exact ⟨i + 1, by go_num, by omega, HA2, ⟨below_step HB.out hb⟩⟩
   ·rw [hpx] at HC ha
    have HA2 : Aside0 (true = l.any p) := ⟨by simpa using ha⟩
    clear ha hpx hm
    go_wp2_with (go_at_call 102; refine HC.out.mono ?_; rintro e w3 ⟨rfl, hb⟩)
    go_ret
    exact ⟨_, rfl, by rw [← HA2.out]; exact decide_eq_true (by omega), below_step HB.out hb⟩
  ·have hi1 : ((i : Int) < (l.length : Int)) = False := eq_false (by omega)
   have hi2 : decide ((i : Int) < (l.length : Int)) = false := decide_eq_false (by omega)
   have ha := HA.out
   rw [List.drop_eq_nil_of_le (by omega)] at ha
   have HA2 : Aside0 (false = l.any p) := ⟨ha⟩
   clear ha HA
   go_wp2
   go_ret
   exact ⟨_, rfl, by rw [← HA2.out]; rfl, HB.out⟩
theorem contains_both (A : Option Addr) (c : Nat) (l : List Int) (p : Int → Bool) (uB vB : Nat) (w : World) (hx : Kd.C (Kd.int .i64) w A l.length l) (hl : l.length ≤ 1000)
  (hp : ∀ W, Below w.heap.size w W → ∀ x ∈ l, Calls Tryd.prog 102 #[.int .i64 x, .pointer (some ⟨uB, 0, none⟩), .pointer (some ⟨vB, 0, none⟩)] W fun e w' => e = .returned (.bool (p x)) ∧ Below W.heap.size W w') :
  Calls Tryd.prog 54 #[.slice A l.length c, .func (.func 102) #[] #[.pointer (some ⟨uB, 0, none⟩), .pointer (some ⟨vB, 0, none⟩)]] w fun e w' => e = .returned (.bool (l.any p)) ∧ Below w.heap.size w w' := by
 have HI := Aside0.mk (index_both A c l p uB vB w hx hl hp)
 clear hx hl hp
 go_enter Tryd.func54, Tryd.ntmps54
 go_wp2_with (go_at_call 84; refine HI.out.mono ?_; rintro e w3 ⟨z, rfl, hz, hb⟩)
 go_ret
 exact ⟨by rw [← hz]; rfl, hb⟩
theorem wnodes_all : ∀ x : Fin 512, width_nodes.f 12 (x.val : Int) = some (gi (els x.val 9)) := by decide +kernel
theorem wall_f {G : List Nat} (hG : Gr 9 G) : width_town_all.f (gi G) = some ((2 ^ G.length - 1 : Nat) : Int) := all_eq G hG.most
set_option maxHeartbeats 16000000 in
set_option maxRecDepth 100000 in
theorem tree_calls (Ag : Option Addr) (cg : Nat) (G : List Nat) (hG : Gr 9 G) (hcg : G.length ≤ cg) (A0 : Option Addr) (c0 : Nat) (B : List Int) (A1 : Option Addr) (c1 : Nat) (P : List Int) (R : Bool) (hR : treeB G B P = R) (w : World) (hGL : GL w) (hrg : Kd.C (Kd.int .i64) w Ag (gi G).length (gi G)) (hr0 : Kd.C (Kd.int .i64) w A0 B.length B) (hr1 : Kd.C (Kd.int .i64) w A1 P.length P) :
  Calls Tryd.prog 78 #[.slice Ag G.length cg, .agg #[.slice A0 B.length c0, .slice A1 P.length c1]] w fun e w' => e = .returned (.bool R) ∧ Below w.heap.size w w' := by
 have hn := hG.most
 have HG := Aside0.mk hG
 have HGL := Aside0.mk hGL
 have HRG := Aside0.mk hrg
 have HR0 := Aside0.mk hr0
 have HR1 := Aside0.mk hr1
 have HL := Aside0.mk (gi_length G)
 have HALL := Aside0.mk (wall_f hG)
 have HN7 := Aside0.mk (p9T hn)
 unfold treeB at hR
 clear hG hGL hrg hr0 hr1
 by_cases hb1 : B.length < 1
 ·rw [if_pos hb1] at hR
  subst hR
  have hd1 : decide ((B.length : Int) < 1) = true := decide_eq_true (by omega)
  clear hb1
  go_enter Tryd.func78, Tryd.ntmps78
  go_wp2_with (first | ((with_reducible refine gate_dst (N := 3) rfl ?_); refine box_event ?hg (N := 3) ?hd (cs := #[.slice A0 B.length c0, .slice A1 P.length c1]) (t := 53) ?hr ?_; (case hd => rfl); (case hg => rfl); (case hr => first | (go_simp; done) | (go_simp; rfl)); intro xB hga w7 hbox hb7; have HBOX := Aside0.mk hbox; have HB7 := Aside0.mk hb7; have hz0 : w7.cell? ⟨xB, 0, none⟩ = some (.slice A0 B.length c0) := (blk_cell hbox 0).trans rfl; have hz1 : w7.cell? ⟨xB, 1, none⟩ = some (.slice A1 P.length c1) := (blk_cell hbox 1).trans rfl; clear hbox hb7 hga))
  go_ret
  exact ⟨rfl, HB7.out⟩
 ·rw [if_neg hb1] at hR
  have hd1 : decide ((B.length : Int) < 1) = false := decide_eq_false (by omega)
  by_cases hb30 : 30 < B.length
  ·rw [if_pos hb30] at hR
   subst hR
   have hd2 : decide ((B.length : Int) > 30) = true := decide_eq_true (by omega)
   clear hb1 hb30
   go_enter Tryd.func78, Tryd.ntmps78
   go_wp2_with (first | ((with_reducible refine gate_dst (N := 3) rfl ?_); refine box_event ?hg (N := 3) ?hd (cs := #[.slice A0 B.length c0, .slice A1 P.length c1]) (t := 53) ?hr ?_; (case hd => rfl); (case hg => rfl); (case hr => first | (go_simp; done) | (go_simp; rfl)); intro xB hga w7 hbox hb7; have HBOX := Aside0.mk hbox; have HB7 := Aside0.mk hb7; have hz0 : w7.cell? ⟨xB, 0, none⟩ = some (.slice A0 B.length c0) := (blk_cell hbox 0).trans rfl; have hz1 : w7.cell? ⟨xB, 1, none⟩ = some (.slice A1 P.length c1) := (blk_cell hbox 1).trans rfl; clear hbox hb7 hga))
   go_ret
   exact ⟨rfl, HB7.out⟩
  ·rw [if_neg hb30] at hR
   have hd2 : decide ((B.length : Int) > 30) = false := decide_eq_false (by omega)
   by_cases hpl : P.length = B.length
   ·rw [if_pos hpl] at hR
    have hd3 : ((P.length : Int) == (B.length : Int)) = true := by rw [hpl]; simp
    have hd4 : ((P.length : Int) != (B.length : Int)) = false := by rw [hpl]; simp
    have HPL := Aside0.mk hpl
    have hn1 : 1 ≤ B.length := by omega
    have hn30 : B.length ≤ 30 := by omega
    obtain ⟨T1, hT1⟩ : ∃ r, tl1 B P B.length (2 ^ G.length - 1) B.length 0 0 0 = r := ⟨_, rfl⟩
    rw [hT1] at hR
    have HT1 := Aside0.mk hT1
    have HR := Aside0.mk hR
    have HOK : Aside0 (∀ r, T1 = some r → ∀ j, j < B.length → -1 ≤ rd P (j : Int) ∧ rd P (j : Int) < (B.length : Int) ∧ 0 ≤ rd B (j : Int) ∧ rd B (j : Int) ≤ ((2 ^ G.length - 1 : Nat) : Int)) := ⟨fun r e j hj => tl1_ok B P B.length (2 ^ G.length - 1) B.length 0 0 0 r (by rw [hT1, e]) j (Nat.zero_le _) (by omega)⟩
    obtain ⟨PA, hPA⟩ : ∃ x, 2 ^ G.length - 1 = x := ⟨_, rfl⟩
    rw [hPA] at HT1 HOK HALL
    have HPA := Aside0.mk hPA
    have hPA7 : PA < 512 := by rw [← hPA]; have := HN7.out; omega
    clear hb1 hb30 hpl hT1 hR hPA
    go_enter Tryd.func78, Tryd.ntmps78
    go_wp2_with (first | ((with_reducible refine gate_dst (N := 3) rfl ?_); refine box_event ?hg (N := 3) ?hd (cs := #[.slice A0 B.length c0, .slice A1 P.length c1]) (t := 53) ?hr ?_; (case hd => rfl); (case hg => rfl); (case hr => first | (go_simp; done) | (go_simp; rfl)); intro xB hga w7 hbox hb7; have HBOX := Aside0.mk hbox; have HB7 := Aside0.mk hb7; have hz0 : w7.cell? ⟨xB, 0, none⟩ = some (.slice A0 B.length c0) := (blk_cell hbox 0).trans rfl; have hz1 : w7.cell? ⟨xB, 1, none⟩ = some (.slice A1 P.length c1) := (blk_cell hbox 1).trans rfl; clear hbox hb7 hga))
    go_loopg [6, 7, 35] B.length (fun kq v6 v7 v35 w' => ∃ (i ro ac : Nat), v6 = .int .i64 (ro : Int) ∧ v7 = .int .i64 (ac : Int) ∧ v35 = .int .i64 (i : Int) ∧ i + kq = B.length ∧ Aside0 (tl1 B P B.length PA kq i ro ac = T1 ∧ ro ≤ i ∧ ac < 512) ∧ Aside0 (Below w7.heap.size w7 w'))
    case atStart => exact ⟨0, 0, 0, rfl, rfl, rfl, by omega, ⟨HT1.out, Nat.le_refl _, by decide⟩, ⟨Below.refl _ _⟩⟩
    case round =>
     clear HT1
     obtain ⟨i, ro, ac, rfl, rfl, rfl, hi, HT, HB⟩ := hrel
     by_cases hil : i < B.length
     ·have hi1 : ((i : Int) < (B.length : Int)) = True := eq_true (by omega)
      have hi2 : decide ((i : Int) < (B.length : Int)) = true := decide_eq_true (by omega)
      have hi3 : ((i : Int) < (P.length : Int)) = True := eq_true (by have := HPL.out; omega)
      have hi4 : decide ((i : Int) < (P.length : Int)) = true := decide_eq_true (by have := HPL.out; omega)
      cases gk with
      | zero => omega
      | succ gq =>
      obtain ⟨ht, hro, hac⟩ := HT.out
      simp only [tl1] at ht
      obtain ⟨adP, e1, hgp⟩ := Kd.at_int (Kd.C_below (Kd.C_below HR1.out HB7.out) HB.out) (i : Int) (by omega) (by have := HPL.out; omega)
      subst e1
      obtain ⟨adB, e2, hgb⟩ := Kd.at_int (Kd.C_below (Kd.C_below HR0.out HB7.out) HB.out) (i : Int) (by omega) (by omega)
      subst e2
      rw [Int.toNat_natCast] at hgp hgb
      have hgb0 := hgb
      generalize rd P (i : Int) = p at *
      generalize rd B (i : Int) = b at *
      have hbc := blk_below HBOX.out HB.out
      have f0d : wr.drew.cell? ⟨xB, 0, none⟩ = some (.slice (some adB) B.length c0) := (blk_cell hbc 0).trans rfl
      have f1d : wr.drew.cell? (adB.add i) = some (.int .i64 b) := hgb
      have fbd : Below w7.heap.size w7 wr.drew := below_drew HB.out
      clear HT hbc
      by_cases hp1 : p < -1
      ·rw [if_pos hp1] at ht
       have hd5 : decide (p < -1) = true := decide_eq_true hp1
       subst ht
       have hr := HR.out
       simp only [treeB2] at hr
       subst hr
       clear hp1
       go_wp2_with (fail)
       refine start_ (n := 25) (S := fun w' => Below w7.heap.size w7 w') (ds := []) (Qbz 25 0) (by kernel_rfl) rfl rfl (fbd) (fun hHeld => ?_)
       refine pure_ (i := 0) (N := some 40) (v := ?_) (a' := ?_) (Qbz 25 1) rfl rfl (by kernel_rfl) (fun _ _ _ h => h) (Or.inl ⟨by rfl, ?_⟩) ?_ ?_
       rotate_left
       ·intro w'
        go_simp
        with_reducible rfl
       rotate_left
       ·simp only [Act.put, Qp1, Qp2, Qp3, i64_w, i32_w]
        rfl
       refine pure_ (i := 1) (N := some 41) (v := ?_) (a' := ?_) (Qbz 25 3) rfl rfl (by kernel_rfl) (fun _ _ _ h => h) (Or.inl ⟨by rfl, ?_⟩) ?_ ?_
       rotate_left
       ·intro w'
        go_simp
        with_reducible rfl
       rotate_left
       ·simp only [Act.put, Qp1, Qp2, Qp3, i64_w, i32_w]
        rfl
       refine pure_ (i := 2) (N := some 42) (v := ?_) (a' := ?_) (Qbz 25 7) rfl rfl (by kernel_rfl) (fun _ _ _ h => h) (Or.inl ⟨by rfl, ?_⟩) ?_ ?_
       rotate_left
       ·intro w'
        go_simp
        with_reducible rfl
       rotate_left
       ·simp only [Act.put, Qp1, Qp2, Qp3, i64_w, i32_w]
        rfl
       refine pure_ (i := 3) (N := some 43) (v := undef) (a' := ?_) (Qbz 25 15) rfl rfl (by kernel_rfl) (fun _ _ _ h => h) (Or.inr ⟨by rfl, rfl⟩) ?_ ?_
       rotate_left
       ·simp only [Act.put, Qp1, Qp2, Qp3, i64_w, i32_w]
        rfl
       refine pure_ (i := 4) (N := some 44) (v := undef) (a' := ?_) (Qbz 25 31) rfl rfl (by kernel_rfl) (fun _ _ _ h => h) (Or.inr ⟨by rfl, rfl⟩) ?_ ?_
       rotate_left
       ·simp only [Act.put, Qp1, Qp2, Qp3, i64_w, i32_w]
        rfl
       refine pure_ (i := 5) (N := some 45) (v := undef) (a' := ?_) (Qbz 25 63) rfl rfl (by kernel_rfl) (fun _ _ _ h => h) (Or.inr ⟨by rfl, rfl⟩) ?_ ?_
       rotate_left
       ·simp only [Act.put, Qp1, Qp2, Qp3, i64_w, i32_w]
        rfl
       refine pure_ (i := 6) (N := some 46) (v := ?_) (a' := ?_) (Qbz 25 127) rfl rfl (by kernel_rfl) (fun _ _ _ h => h) (Or.inl ⟨by rfl, ?_⟩) ?_ ?_
       rotate_left
       ·intro w'
        go_simp
        with_reducible rfl
       rotate_left
       ·simp only [Act.put, Qp1, Qp2, Qp3, i64_w, i32_w]
        rfl
       refine pure_ (i := 7) (N := some 47) (v := ?_) (a' := ?_) (Qbz 25 255) rfl rfl (by kernel_rfl) (fun _ _ _ h => h) (Or.inl ⟨by rfl, ?_⟩) ?_ ?_
       rotate_left
       ·intro w'
        go_simp
        with_reducible rfl
       rotate_left
       ·simp only [Act.put, Qp1, Qp2, Qp3, i64_w, i32_w]
        rfl
       refine pure_ (i := 8) (N := some 48) (v := undef) (a' := ?_) (Qbz 25 511) rfl rfl (by kernel_rfl) (fun _ _ _ h => h) (Or.inr ⟨by rfl, rfl⟩) ?_ ?_
       rotate_left
       ·simp only [Act.put, Qp1, Qp2, Qp3, i64_w, i32_w]
        rfl
       refine pure_ (i := 9) (N := some 49) (v := undef) (a' := ?_) (Qbz 25 1023) rfl rfl (by kernel_rfl) (fun _ _ _ h => h) (Or.inr ⟨by rfl, rfl⟩) ?_ ?_
       rotate_left
       ·simp only [Act.put, Qp1, Qp2, Qp3, i64_w, i32_w]
        rfl
       refine pure_ (i := 10) (N := some 50) (v := undef) (a' := ?_) (Qbz 25 2047) rfl rfl (by kernel_rfl) (fun _ _ _ h => h) (Or.inr ⟨by rfl, rfl⟩) ?_ ?_
       rotate_left
       ·simp only [Act.put, Qp1, Qp2, Qp3, i64_w, i32_w]
        rfl
       refine pure_ (i := 11) (N := some 51) (v := undef) (a' := ?_) (Qbz 25 4095) rfl rfl (by kernel_rfl) (fun _ _ _ h => h) (Or.inr ⟨by rfl, rfl⟩) ?_ ?_
       rotate_left
       ·simp only [Act.put, Qp1, Qp2, Qp3, i64_w, i32_w]
        rfl
       refine pure_ (i := 12) (N := some 52) (v := undef) (a' := ?_) (Qbz 25 8191) rfl rfl (by kernel_rfl) (fun _ _ _ h => h) (Or.inr ⟨by rfl, rfl⟩) ?_ ?_
       rotate_left
       ·simp only [Act.put, Qp1, Qp2, Qp3, i64_w, i32_w]
        rfl
       refine pure_ (i := 13) (N := some 53) (v := undef) (a' := ?_) (Qbz 25 16383) rfl rfl (by kernel_rfl) (fun _ _ _ h => h) (Or.inr ⟨by rfl, rfl⟩) ?_ ?_
       rotate_left
       ·simp only [Act.put, Qp1, Qp2, Qp3, i64_w, i32_w]
        rfl
       refine pure_ (i := 14) (N := some 54) (v := ?_) (a' := ?_) (Qbz 25 32767) rfl rfl (by kernel_rfl) (fun _ _ _ h => h) (Or.inl ⟨by rfl, ?_⟩) ?_ ?_
       rotate_left
       ·intro w'
        go_simp
        with_reducible rfl
       rotate_left
       ·simp only [Act.put, Qp1, Qp2, Qp3, i64_w, i32_w]
        rfl
       refine pure_ (i := 15) (N := some 55) (v := ?_) (a' := ?_) (Qbz 25 65535) rfl rfl (by kernel_rfl) (fun _ _ _ h => h) (Or.inl ⟨by rfl, ?_⟩) ?_ ?_
       rotate_left
       ·intro w'
        go_simp
        with_reducible rfl
       rotate_left
       ·simp only [Act.put, Qp1, Qp2, Qp3, i64_w, i32_w]
        rfl
       refine pure_ (i := 16) (N := some 56) (v := undef) (a' := ?_) (Qbz 25 131071) rfl rfl (by kernel_rfl) (fun _ _ _ h => h) (Or.inr ⟨by rfl, rfl⟩) ?_ ?_
       rotate_left
       ·simp only [Act.put, Qp1, Qp2, Qp3, i64_w, i32_w]
        rfl
       refine pure_ (i := 17) (N := some 57) (v := undef) (a' := ?_) (Qbz 25 262143) rfl rfl (by kernel_rfl) (fun _ _ _ h => h) (Or.inr ⟨by rfl, rfl⟩) ?_ ?_
       rotate_left
       ·simp only [Act.put, Qp1, Qp2, Qp3, i64_w, i32_w]
        rfl
       refine pure_ (i := 18) (N := some 58) (v := undef) (a' := ?_) (Qbz 25 524287) rfl rfl (by kernel_rfl) (fun _ _ _ h => h) (Or.inr ⟨by rfl, rfl⟩) ?_ ?_
       rotate_left
       ·simp only [Act.put, Qp1, Qp2, Qp3, i64_w, i32_w]
        rfl
       refine pure_ (i := 19) (N := some 59) (v := undef) (a' := ?_) (Qbz 25 1048575) rfl rfl (by kernel_rfl) (fun _ _ _ h => h) (Or.inr ⟨by rfl, rfl⟩) ?_ ?_
       rotate_left
       ·simp only [Act.put, Qp1, Qp2, Qp3, i64_w, i32_w]
        rfl
       refine pure_ (i := 20) (N := some 60) (v := undef) (a' := ?_) (Qbz 25 2097151) rfl rfl (by kernel_rfl) (fun _ _ _ h => h) (Or.inr ⟨by rfl, rfl⟩) ?_ ?_
       rotate_left
       ·simp only [Act.put, Qp1, Qp2, Qp3, i64_w, i32_w]
        rfl
       refine pure_ (i := 21) (N := some 61) (v := undef) (a' := ?_) (Qbz 25 4194303) rfl rfl (by kernel_rfl) (fun _ _ _ h => h) (Or.inr ⟨by rfl, rfl⟩) ?_ ?_
       rotate_left
       ·simp only [Act.put, Qp1, Qp2, Qp3, i64_w, i32_w]
        rfl
       refine pure_ (i := 22) (N := some 62) (v := undef) (a' := ?_) (Qbz 25 8388607) rfl rfl (by kernel_rfl) (fun _ _ _ h => h) (Or.inr ⟨by rfl, rfl⟩) ?_ ?_
       rotate_left
       ·simp only [Act.put, Qp1, Qp2, Qp3, i64_w, i32_w]
        rfl
       refine pure_ (i := 23) (N := some 63) (v := undef) (a' := ?_) (Qbz 25 16777215) rfl rfl (by kernel_rfl) (fun _ _ _ h => h) (Or.inr ⟨by rfl, rfl⟩) ?_ ?_
       rotate_left
       ·simp only [Act.put, Qp1, Qp2, Qp3, i64_w, i32_w]
        rfl
       refine pure_ (i := 24) (N := some 64) (v := ?_) (a' := ?_) (Qbz 25 33554431) rfl rfl (by kernel_rfl) (fun _ _ _ h => h) (Or.inl ⟨by rfl, ?_⟩) ?_ ?_
       rotate_left
       ·intro w'
        go_simp
        with_reducible rfl
       rotate_left
       ·simp only [Act.put, Qp1, Qp2, Qp3, i64_w, i32_w]
        rfl
       refine done_ (by kernel_rfl) ?_
       go_wp2
       go_ret
       exact ⟨rfl, below_step HB7.out fbd⟩
      ·rw [if_neg hp1] at ht
       have hd5 : decide (p < -1) = false := decide_eq_false hp1
       by_cases hp2 : (B.length : Int) ≤ p
       ·rw [if_pos hp2] at ht
        have hd6 : decide (p ≥ (B.length : Int)) = true := decide_eq_true hp2
        have hd7 : decide ((B.length : Int) ≤ p) = true := decide_eq_true hp2
        subst ht
        have hr := HR.out
        simp only [treeB2] at hr
        subst hr
        clear hp1 hp2
        go_wp2_with (fail)
        refine start_ (n := 25) (S := fun w' => Below w7.heap.size w7 w') (ds := []) (Qbz 25 0) (by kernel_rfl) rfl rfl (fbd) (fun hHeld => ?_)
        refine pure_ (i := 0) (N := some 40) (v := ?_) (a' := ?_) (Qbz 25 1) rfl rfl (by kernel_rfl) (fun _ _ _ h => h) (Or.inl ⟨by rfl, ?_⟩) ?_ ?_
        rotate_left
        ·intro w'
         go_simp
         with_reducible rfl
        rotate_left
        ·simp only [Act.put, Qp1, Qp2, Qp3, i64_w, i32_w]
         rfl
        refine pure_ (i := 1) (N := some 41) (v := ?_) (a' := ?_) (Qbz 25 3) rfl rfl (by kernel_rfl) (fun _ _ _ h => h) (Or.inl ⟨by rfl, ?_⟩) ?_ ?_
        rotate_left
        ·intro w'
         go_simp
         with_reducible rfl
        rotate_left
        ·simp only [Act.put, Qp1, Qp2, Qp3, i64_w, i32_w]
         rfl
        refine pure_ (i := 2) (N := some 42) (v := ?_) (a' := ?_) (Qbz 25 7) rfl rfl (by kernel_rfl) (fun _ _ _ h => h) (Or.inl ⟨by rfl, ?_⟩) ?_ ?_
        rotate_left
        ·intro w'
         go_simp
         with_reducible rfl
        rotate_left
        ·simp only [Act.put, Qp1, Qp2, Qp3, i64_w, i32_w]
         rfl
        refine pure_ (i := 3) (N := some 43) (v := ?_) (a' := ?_) (Qbz 25 15) rfl rfl (by kernel_rfl) (fun _ _ _ h => h) (Or.inl ⟨by rfl, ?_⟩) ?_ ?_
        rotate_left
        ·intro w'
         go_simp
         with_reducible rfl
        rotate_left
        ·simp only [Act.put, Qp1, Qp2, Qp3, i64_w, i32_w]
         rfl
        refine pure_ (i := 4) (N := some 44) (v := ?_) (a' := ?_) (Qbz 25 31) rfl rfl (by kernel_rfl) (fun _ _ _ h => h) (Or.inl ⟨by rfl, ?_⟩) ?_ ?_
        rotate_left
        ·intro w'
         go_simp
         with_reducible rfl
        rotate_left
        ·simp only [Act.put, Qp1, Qp2, Qp3, i64_w, i32_w]
         rfl
        refine pure_ (i := 5) (N := some 45) (v := ?_) (a' := ?_) (Qbz 25 63) rfl rfl (by kernel_rfl) (fun _ _ _ h => h) (Or.inl ⟨by rfl, ?_⟩) ?_ ?_
        rotate_left
        ·intro w'
         go_simp
         with_reducible rfl
        rotate_left
        ·simp only [Act.put, Qp1, Qp2, Qp3, i64_w, i32_w]
         rfl
        refine pure_ (i := 6) (N := some 46) (v := ?_) (a' := ?_) (Qbz 25 127) rfl rfl (by kernel_rfl) (fun _ _ _ h => h) (Or.inl ⟨by rfl, ?_⟩) ?_ ?_
        rotate_left
        ·intro w'
         go_simp
         with_reducible rfl
        rotate_left
        ·simp only [Act.put, Qp1, Qp2, Qp3, i64_w, i32_w]
         rfl
        refine pure_ (i := 7) (N := some 47) (v := ?_) (a' := ?_) (Qbz 25 255) rfl rfl (by kernel_rfl) (fun _ _ _ h => h) (Or.inl ⟨by rfl, ?_⟩) ?_ ?_
        rotate_left
        ·intro w'
         go_simp
         with_reducible rfl
        rotate_left
        ·simp only [Act.put, Qp1, Qp2, Qp3, i64_w, i32_w]
         rfl
        refine pure_ (i := 8) (N := some 48) (v := undef) (a' := ?_) (Qbz 25 511) rfl rfl (by kernel_rfl) (fun _ _ _ h => h) (Or.inr ⟨by rfl, rfl⟩) ?_ ?_
        rotate_left
        ·simp only [Act.put, Qp1, Qp2, Qp3, i64_w, i32_w]
         rfl
        refine pure_ (i := 9) (N := some 49) (v := undef) (a' := ?_) (Qbz 25 1023) rfl rfl (by kernel_rfl) (fun _ _ _ h => h) (Or.inr ⟨by rfl, rfl⟩) ?_ ?_
        rotate_left
        ·simp only [Act.put, Qp1, Qp2, Qp3, i64_w, i32_w]
         rfl
        refine pure_ (i := 10) (N := some 50) (v := undef) (a' := ?_) (Qbz 25 2047) rfl rfl (by kernel_rfl) (fun _ _ _ h => h) (Or.inr ⟨by rfl, rfl⟩) ?_ ?_
        rotate_left
        ·simp only [Act.put, Qp1, Qp2, Qp3, i64_w, i32_w]
         rfl
        refine pure_ (i := 11) (N := some 51) (v := undef) (a' := ?_) (Qbz 25 4095) rfl rfl (by kernel_rfl) (fun _ _ _ h => h) (Or.inr ⟨by rfl, rfl⟩) ?_ ?_
        rotate_left
        ·simp only [Act.put, Qp1, Qp2, Qp3, i64_w, i32_w]
         rfl
        refine pure_ (i := 12) (N := some 52) (v := undef) (a' := ?_) (Qbz 25 8191) rfl rfl (by kernel_rfl) (fun _ _ _ h => h) (Or.inr ⟨by rfl, rfl⟩) ?_ ?_
        rotate_left
        ·simp only [Act.put, Qp1, Qp2, Qp3, i64_w, i32_w]
         rfl
        refine pure_ (i := 13) (N := some 53) (v := undef) (a' := ?_) (Qbz 25 16383) rfl rfl (by kernel_rfl) (fun _ _ _ h => h) (Or.inr ⟨by rfl, rfl⟩) ?_ ?_
        rotate_left
        ·simp only [Act.put, Qp1, Qp2, Qp3, i64_w, i32_w]
         rfl
        refine pure_ (i := 14) (N := some 54) (v := ?_) (a' := ?_) (Qbz 25 32767) rfl rfl (by kernel_rfl) (fun _ _ _ h => h) (Or.inl ⟨by rfl, ?_⟩) ?_ ?_
        rotate_left
        ·intro w'
         go_simp
         with_reducible rfl
        rotate_left
        ·simp only [Act.put, Qp1, Qp2, Qp3, i64_w, i32_w]
         rfl
        refine pure_ (i := 15) (N := some 55) (v := ?_) (a' := ?_) (Qbz 25 65535) rfl rfl (by kernel_rfl) (fun _ _ _ h => h) (Or.inl ⟨by rfl, ?_⟩) ?_ ?_
        rotate_left
        ·intro w'
         go_simp
         with_reducible rfl
        rotate_left
        ·simp only [Act.put, Qp1, Qp2, Qp3, i64_w, i32_w]
         rfl
        refine pure_ (i := 16) (N := some 56) (v := undef) (a' := ?_) (Qbz 25 131071) rfl rfl (by kernel_rfl) (fun _ _ _ h => h) (Or.inr ⟨by rfl, rfl⟩) ?_ ?_
        rotate_left
        ·simp only [Act.put, Qp1, Qp2, Qp3, i64_w, i32_w]
         rfl
        refine pure_ (i := 17) (N := some 57) (v := undef) (a' := ?_) (Qbz 25 262143) rfl rfl (by kernel_rfl) (fun _ _ _ h => h) (Or.inr ⟨by rfl, rfl⟩) ?_ ?_
        rotate_left
        ·simp only [Act.put, Qp1, Qp2, Qp3, i64_w, i32_w]
         rfl
        refine pure_ (i := 18) (N := some 58) (v := undef) (a' := ?_) (Qbz 25 524287) rfl rfl (by kernel_rfl) (fun _ _ _ h => h) (Or.inr ⟨by rfl, rfl⟩) ?_ ?_
        rotate_left
        ·simp only [Act.put, Qp1, Qp2, Qp3, i64_w, i32_w]
         rfl
        refine pure_ (i := 19) (N := some 59) (v := undef) (a' := ?_) (Qbz 25 1048575) rfl rfl (by kernel_rfl) (fun _ _ _ h => h) (Or.inr ⟨by rfl, rfl⟩) ?_ ?_
        rotate_left
        ·simp only [Act.put, Qp1, Qp2, Qp3, i64_w, i32_w]
         rfl
        refine pure_ (i := 20) (N := some 60) (v := undef) (a' := ?_) (Qbz 25 2097151) rfl rfl (by kernel_rfl) (fun _ _ _ h => h) (Or.inr ⟨by rfl, rfl⟩) ?_ ?_
        rotate_left
        ·simp only [Act.put, Qp1, Qp2, Qp3, i64_w, i32_w]
         rfl
        refine pure_ (i := 21) (N := some 61) (v := undef) (a' := ?_) (Qbz 25 4194303) rfl rfl (by kernel_rfl) (fun _ _ _ h => h) (Or.inr ⟨by rfl, rfl⟩) ?_ ?_
        rotate_left
        ·simp only [Act.put, Qp1, Qp2, Qp3, i64_w, i32_w]
         rfl
        refine pure_ (i := 22) (N := some 62) (v := undef) (a' := ?_) (Qbz 25 8388607) rfl rfl (by kernel_rfl) (fun _ _ _ h => h) (Or.inr ⟨by rfl, rfl⟩) ?_ ?_
        rotate_left
        ·simp only [Act.put, Qp1, Qp2, Qp3, i64_w, i32_w]
         rfl
        refine pure_ (i := 23) (N := some 63) (v := undef) (a' := ?_) (Qbz 25 16777215) rfl rfl (by kernel_rfl) (fun _ _ _ h => h) (Or.inr ⟨by rfl, rfl⟩) ?_ ?_
        rotate_left
        ·simp only [Act.put, Qp1, Qp2, Qp3, i64_w, i32_w]
         rfl
        refine pure_ (i := 24) (N := some 64) (v := ?_) (a' := ?_) (Qbz 25 33554431) rfl rfl (by kernel_rfl) (fun _ _ _ h => h) (Or.inl ⟨by rfl, ?_⟩) ?_ ?_
        rotate_left
        ·intro w'
         go_simp
         with_reducible rfl
        rotate_left
        ·simp only [Act.put, Qp1, Qp2, Qp3, i64_w, i32_w]
         rfl
        refine done_ (by kernel_rfl) ?_
        go_wp2
        go_ret
        exact ⟨rfl, below_step HB7.out fbd⟩
       ·rw [if_neg hp2] at ht
        have hd6 : decide (p ≥ (B.length : Int)) = false := decide_eq_false hp2
        have hd7 : decide ((B.length : Int) ≤ p) = false := decide_eq_false hp2
        by_cases hb1 : b < 0
        ·rw [if_pos hb1] at ht
         have hd8 : decide (b < 0) = true := decide_eq_true hb1
         subst ht
         have hr := HR.out
         simp only [treeB2] at hr
         subst hr
         clear hp1 hp2 hb1
         go_wp2_with (fail)
         refine start_ (n := 25) (S := fun w' => w'.cell? ⟨xB, 0, none⟩ = some (.slice (some adB) B.length c0) ∧ w'.cell? (adB.add i) = some (.int .i64 b) ∧ Below w7.heap.size w7 w') (ds := []) (Qbz 25 0) (by kernel_rfl) rfl rfl ⟨f0d, f1d, fbd⟩ (fun hHeld => ?_)
         refine pure_ (i := 0) (N := some 40) (v := ?_) (a' := ?_) (Qbz 25 1) rfl rfl (by kernel_rfl) (fun _ _ _ h => h) (Or.inl ⟨by rfl, ?_⟩) ?_ ?_
         rotate_left
         ·intro w'
          go_simp
          with_reducible rfl
         rotate_left
         ·simp only [Act.put, Qp1, Qp2, Qp3, i64_w, i32_w]
          rfl
         refine pure_ (i := 1) (N := some 41) (v := ?_) (a' := ?_) (Qbz 25 3) rfl rfl (by kernel_rfl) (fun _ _ _ h => h) (Or.inl ⟨by rfl, ?_⟩) ?_ ?_
         rotate_left
         ·intro w'
          go_simp
          with_reducible rfl
         rotate_left
         ·simp only [Act.put, Qp1, Qp2, Qp3, i64_w, i32_w]
          rfl
         refine pure_ (i := 2) (N := some 42) (v := ?_) (a' := ?_) (Qbz 25 7) rfl rfl (by kernel_rfl) (fun _ _ _ h => h) (Or.inl ⟨by rfl, ?_⟩) ?_ ?_
         rotate_left
         ·intro w'
          go_simp
          with_reducible rfl
         rotate_left
         ·simp only [Act.put, Qp1, Qp2, Qp3, i64_w, i32_w]
          rfl
         refine pure_ (i := 3) (N := some 43) (v := ?_) (a' := ?_) (Qbz 25 15) rfl rfl (by kernel_rfl) (fun _ _ _ h => h) (Or.inl ⟨by rfl, ?_⟩) ?_ ?_
         rotate_left
         ·intro w'
          go_simp
          with_reducible rfl
         rotate_left
         ·simp only [Act.put, Qp1, Qp2, Qp3, i64_w, i32_w]
          rfl
         refine pure_ (i := 4) (N := some 44) (v := ?_) (a' := ?_) (Qbz 25 31) rfl rfl (by kernel_rfl) (fun _ _ _ h => h) (Or.inl ⟨by rfl, ?_⟩) ?_ ?_
         rotate_left
         ·intro w'
          go_simp
          with_reducible rfl
         rotate_left
         ·simp only [Act.put, Qp1, Qp2, Qp3, i64_w, i32_w]
          rfl
         refine pure_ (i := 5) (N := some 45) (v := ?_) (a' := ?_) (Qbz 25 63) rfl rfl (by kernel_rfl) (fun _ _ _ h => h) (Or.inl ⟨by rfl, ?_⟩) ?_ ?_
         rotate_left
         ·intro w'
          go_simp
          with_reducible rfl
         rotate_left
         ·simp only [Act.put, Qp1, Qp2, Qp3, i64_w, i32_w]
          rfl
         refine pure_ (i := 6) (N := some 46) (v := ?_) (a' := ?_) (Qbz 25 127) rfl rfl (by kernel_rfl) (fun _ _ _ h => h) (Or.inl ⟨by rfl, ?_⟩) ?_ ?_
         rotate_left
         ·intro w'
          go_simp
          with_reducible rfl
         rotate_left
         ·simp only [Act.put, Qp1, Qp2, Qp3, i64_w, i32_w]
          rfl
         refine pure_ (i := 7) (N := some 47) (v := ?_) (a' := ?_) (Qbz 25 255) rfl rfl (by kernel_rfl) (fun _ _ _ h => h) (Or.inl ⟨by rfl, ?_⟩) ?_ ?_
         rotate_left
         ·intro w'
          go_simp
          with_reducible rfl
         rotate_left
         ·simp only [Act.put, Qp1, Qp2, Qp3, i64_w, i32_w]
          rfl
         refine pure_ (i := 8) (N := some 48) (v := ?_) (a' := ?_) (Qbz 25 511) rfl rfl (by kernel_rfl) (fun _ _ _ h => h) (Or.inl ⟨by rfl, ?_⟩) ?_ ?_
         rotate_left
         ·intro w'
          go_simp
          with_reducible rfl
         rotate_left
         ·simp only [Act.put, Qp1, Qp2, Qp3, i64_w, i32_w]
          rfl
         refine pure_ (i := 10) (N := some 50) (v := ?_) (a' := ?_) (Qbz 25 1535) rfl rfl (by kernel_rfl) (fun _ _ _ h => h) (Or.inl ⟨by rfl, ?_⟩) ?_ ?_
         rotate_left
         ·intro w'
          go_simp
          with_reducible rfl
         rotate_left
         ·simp only [Act.put, Qp1, Qp2, Qp3, i64_w, i32_w]
          rfl
         refine take_ (i := 9) (N := some 49) (v := ?_) (a' := ?_) (Qbz 25 2047) rfl rfl (by kernel_rfl) (fun _ _ _ h => h) (Or.inl ⟨by rfl, ?_⟩) hHeld ?_ ?_
         rotate_left
         ·rintro w' ⟨s0, s1, s2⟩
          go_simp
          with_reducible rfl
         rotate_left
         ·simp only [Act.put, Qp1, Qp2, Qp3, i64_w, i32_w]
          rfl
         refine pure_ (i := 11) (N := some 51) (v := ?_) (a' := ?_) (Qbz 25 4095) rfl rfl (by kernel_rfl) (fun _ _ _ h => h) (Or.inl ⟨by rfl, ?_⟩) ?_ ?_
         rotate_left
         ·intro w'
          go_simp
          with_reducible rfl
         rotate_left
         ·simp only [Act.put, Qp1, Qp2, Qp3, i64_w, i32_w]
          rfl
         refine take_ (i := 12) (N := some 52) (v := ?_) (a' := ?_) (Qbz 25 8191) rfl rfl (by kernel_rfl) (fun _ _ _ h => h) (Or.inl ⟨by rfl, ?_⟩) hHeld ?_ ?_
         rotate_left
         ·rintro w' ⟨s0, s1, s2⟩
          go_simp
          with_reducible rfl
         rotate_left
         ·simp only [Act.put, Qp1, Qp2, Qp3, i64_w, i32_w]
          rfl
         refine pure_ (i := 13) (N := some 53) (v := ?_) (a' := ?_) (Qbz 25 16383) rfl rfl (by kernel_rfl) (fun _ _ _ h => h) (Or.inl ⟨by rfl, ?_⟩) ?_ ?_
         rotate_left
         ·intro w'
          go_simp
          with_reducible rfl
         rotate_left
         ·simp only [Act.put, Qp1, Qp2, Qp3, i64_w, i32_w]
          rfl
         refine pure_ (i := 14) (N := some 54) (v := ?_) (a' := ?_) (Qbz 25 32767) rfl rfl (by kernel_rfl) (fun _ _ _ h => h) (Or.inl ⟨by rfl, ?_⟩) ?_ ?_
         rotate_left
         ·intro w'
          go_simp
          with_reducible rfl
         rotate_left
         ·simp only [Act.put, Qp1, Qp2, Qp3, i64_w, i32_w]
          rfl
         refine pure_ (i := 15) (N := some 55) (v := ?_) (a' := ?_) (Qbz 25 65535) rfl rfl (by kernel_rfl) (fun _ _ _ h => h) (Or.inl ⟨by rfl, ?_⟩) ?_ ?_
         rotate_left
         ·intro w'
          go_simp
          with_reducible rfl
         rotate_left
         ·simp only [Act.put, Qp1, Qp2, Qp3, i64_w, i32_w]
          rfl
         refine pure_ (i := 16) (N := some 56) (v := undef) (a' := ?_) (Qbz 25 131071) rfl rfl (by kernel_rfl) (fun _ _ _ h => h) (Or.inr ⟨by rfl, rfl⟩) ?_ ?_
         rotate_left
         ·simp only [Act.put, Qp1, Qp2, Qp3, i64_w, i32_w]
          rfl
         refine pure_ (i := 17) (N := some 57) (v := undef) (a' := ?_) (Qbz 25 262143) rfl rfl (by kernel_rfl) (fun _ _ _ h => h) (Or.inr ⟨by rfl, rfl⟩) ?_ ?_
         rotate_left
         ·simp only [Act.put, Qp1, Qp2, Qp3, i64_w, i32_w]
          rfl
         refine pure_ (i := 18) (N := some 58) (v := undef) (a' := ?_) (Qbz 25 524287) rfl rfl (by kernel_rfl) (fun _ _ _ h => h) (Or.inr ⟨by rfl, rfl⟩) ?_ ?_
         rotate_left
         ·simp only [Act.put, Qp1, Qp2, Qp3, i64_w, i32_w]
          rfl
         refine pure_ (i := 19) (N := some 59) (v := undef) (a' := ?_) (Qbz 25 1048575) rfl rfl (by kernel_rfl) (fun _ _ _ h => h) (Or.inr ⟨by rfl, rfl⟩) ?_ ?_
         rotate_left
         ·simp only [Act.put, Qp1, Qp2, Qp3, i64_w, i32_w]
          rfl
         refine pure_ (i := 20) (N := some 60) (v := undef) (a' := ?_) (Qbz 25 2097151) rfl rfl (by kernel_rfl) (fun _ _ _ h => h) (Or.inr ⟨by rfl, rfl⟩) ?_ ?_
         rotate_left
         ·simp only [Act.put, Qp1, Qp2, Qp3, i64_w, i32_w]
          rfl
         refine pure_ (i := 21) (N := some 61) (v := undef) (a' := ?_) (Qbz 25 4194303) rfl rfl (by kernel_rfl) (fun _ _ _ h => h) (Or.inr ⟨by rfl, rfl⟩) ?_ ?_
         rotate_left
         ·simp only [Act.put, Qp1, Qp2, Qp3, i64_w, i32_w]
          rfl
         refine pure_ (i := 22) (N := some 62) (v := undef) (a' := ?_) (Qbz 25 8388607) rfl rfl (by kernel_rfl) (fun _ _ _ h => h) (Or.inr ⟨by rfl, rfl⟩) ?_ ?_
         rotate_left
         ·simp only [Act.put, Qp1, Qp2, Qp3, i64_w, i32_w]
          rfl
         refine pure_ (i := 23) (N := some 63) (v := undef) (a' := ?_) (Qbz 25 16777215) rfl rfl (by kernel_rfl) (fun _ _ _ h => h) (Or.inr ⟨by rfl, rfl⟩) ?_ ?_
         rotate_left
         ·simp only [Act.put, Qp1, Qp2, Qp3, i64_w, i32_w]
          rfl
         refine pure_ (i := 24) (N := some 64) (v := ?_) (a' := ?_) (Qbz 25 33554431) rfl rfl (by kernel_rfl) (fun _ _ _ h => h) (Or.inl ⟨by rfl, ?_⟩) ?_ ?_
         rotate_left
         ·intro w'
          go_simp
          with_reducible rfl
         rotate_left
         ·simp only [Act.put, Qp1, Qp2, Qp3, i64_w, i32_w]
          rfl
         refine done_ (by kernel_rfl) ?_
         go_wp2
         go_ret
         exact ⟨rfl, below_step HB7.out fbd⟩
        ·rw [if_neg hb1] at ht
         have hd8 : decide (b < 0) = false := decide_eq_false hb1
         have CALL : Aside0 (∀ W, (W.cell? ⟨xB, 0, none⟩ = some (.slice (some adB) B.length c0) ∧ W.cell? (adB.add i) = some (.int .i64 b) ∧ Below w7.heap.size w7 W) → Calls Tryd.prog 67 #[.slice Ag G.length cg] W fun e w' => e = .returned (.int .i64 (PA : Int)) ∧ w'.cell? ⟨xB, 0, none⟩ = some (.slice (some adB) B.length c0) ∧ w'.cell? (adB.add i) = some (.int .i64 b) ∧ Below w7.heap.size w7 w') := ⟨fun W hW => by
          have := width_town_all.calls Ag cg (gi G) _ W (Kd.C_below (Kd.C_below HRG.out HB7.out) hW.2.2) (by rw [HL.out]; exact hcg) HALL.out
          rw [HL.out] at this
          exact this.mono fun e w' ⟨h, m, hm⟩ => ⟨h, by rw [hm]; exact ⟨hW.1, hW.2.1, pw_below_drewN hW.2.2 m⟩⟩⟩
         by_cases hb2 : (PA : Int) < b
         ·rw [if_pos hb2] at ht
          have hd9 : decide (b > (PA : Int)) = true := decide_eq_true hb2
          have hd10 : decide ((PA : Int) < b) = true := decide_eq_true hb2
          subst ht
          have hr := HR.out
          simp only [treeB2] at hr
          subst hr
          clear hp1 hp2 hb1 hb2
          go_wp2_with (fail)
          refine start_ (n := 25) (S := fun w' => w'.cell? ⟨xB, 0, none⟩ = some (.slice (some adB) B.length c0) ∧ w'.cell? (adB.add i) = some (.int .i64 b) ∧ Below w7.heap.size w7 w') (ds := []) (Qbz 25 0) (by kernel_rfl) rfl rfl ⟨f0d, f1d, fbd⟩ (fun hHeld => ?_)
          refine pure_ (i := 0) (N := some 40) (v := ?_) (a' := ?_) (Qbz 25 1) rfl rfl (by kernel_rfl) (fun _ _ _ h => h) (Or.inl ⟨by rfl, ?_⟩) ?_ ?_
          rotate_left
          ·intro w'
           go_simp
           with_reducible rfl
          rotate_left
          ·simp only [Act.put, Qp1, Qp2, Qp3, i64_w, i32_w]
           rfl
          refine pure_ (i := 1) (N := some 41) (v := ?_) (a' := ?_) (Qbz 25 3) rfl rfl (by kernel_rfl) (fun _ _ _ h => h) (Or.inl ⟨by rfl, ?_⟩) ?_ ?_
          rotate_left
          ·intro w'
           go_simp
           with_reducible rfl
          rotate_left
          ·simp only [Act.put, Qp1, Qp2, Qp3, i64_w, i32_w]
           rfl
          refine pure_ (i := 2) (N := some 42) (v := ?_) (a' := ?_) (Qbz 25 7) rfl rfl (by kernel_rfl) (fun _ _ _ h => h) (Or.inl ⟨by rfl, ?_⟩) ?_ ?_
          rotate_left
          ·intro w'
           go_simp
           with_reducible rfl
          rotate_left
          ·simp only [Act.put, Qp1, Qp2, Qp3, i64_w, i32_w]
           rfl
          refine pure_ (i := 3) (N := some 43) (v := ?_) (a' := ?_) (Qbz 25 15) rfl rfl (by kernel_rfl) (fun _ _ _ h => h) (Or.inl ⟨by rfl, ?_⟩) ?_ ?_
          rotate_left
          ·intro w'
           go_simp
           with_reducible rfl
          rotate_left
          ·simp only [Act.put, Qp1, Qp2, Qp3, i64_w, i32_w]
           rfl
          refine pure_ (i := 4) (N := some 44) (v := ?_) (a' := ?_) (Qbz 25 31) rfl rfl (by kernel_rfl) (fun _ _ _ h => h) (Or.inl ⟨by rfl, ?_⟩) ?_ ?_
          rotate_left
          ·intro w'
           go_simp
           with_reducible rfl
          rotate_left
          ·simp only [Act.put, Qp1, Qp2, Qp3, i64_w, i32_w]
           rfl
          refine pure_ (i := 5) (N := some 45) (v := ?_) (a' := ?_) (Qbz 25 63) rfl rfl (by kernel_rfl) (fun _ _ _ h => h) (Or.inl ⟨by rfl, ?_⟩) ?_ ?_
          rotate_left
          ·intro w'
           go_simp
           with_reducible rfl
          rotate_left
          ·simp only [Act.put, Qp1, Qp2, Qp3, i64_w, i32_w]
           rfl
          refine pure_ (i := 6) (N := some 46) (v := ?_) (a' := ?_) (Qbz 25 127) rfl rfl (by kernel_rfl) (fun _ _ _ h => h) (Or.inl ⟨by rfl, ?_⟩) ?_ ?_
          rotate_left
          ·intro w'
           go_simp
           with_reducible rfl
          rotate_left
          ·simp only [Act.put, Qp1, Qp2, Qp3, i64_w, i32_w]
           rfl
          refine pure_ (i := 7) (N := some 47) (v := ?_) (a' := ?_) (Qbz 25 255) rfl rfl (by kernel_rfl) (fun _ _ _ h => h) (Or.inl ⟨by rfl, ?_⟩) ?_ ?_
          rotate_left
          ·intro w'
           go_simp
           with_reducible rfl
          rotate_left
          ·simp only [Act.put, Qp1, Qp2, Qp3, i64_w, i32_w]
           rfl
          refine pure_ (i := 8) (N := some 48) (v := ?_) (a' := ?_) (Qbz 25 511) rfl rfl (by kernel_rfl) (fun _ _ _ h => h) (Or.inl ⟨by rfl, ?_⟩) ?_ ?_
          rotate_left
          ·intro w'
           go_simp
           with_reducible rfl
          rotate_left
          ·simp only [Act.put, Qp1, Qp2, Qp3, i64_w, i32_w]
           rfl
          refine pure_ (i := 10) (N := some 50) (v := ?_) (a' := ?_) (Qbz 25 1535) rfl rfl (by kernel_rfl) (fun _ _ _ h => h) (Or.inl ⟨by rfl, ?_⟩) ?_ ?_
          rotate_left
          ·intro w'
           go_simp
           with_reducible rfl
          rotate_left
          ·simp only [Act.put, Qp1, Qp2, Qp3, i64_w, i32_w]
           rfl
          refine take_ (i := 9) (N := some 49) (v := ?_) (a' := ?_) (Qbz 25 2047) rfl rfl (by kernel_rfl) (fun _ _ _ h => h) (Or.inl ⟨by rfl, ?_⟩) hHeld ?_ ?_
          rotate_left
          ·rintro w' ⟨s0, s1, s2⟩
           go_simp
           with_reducible rfl
          rotate_left
          ·simp only [Act.put, Qp1, Qp2, Qp3, i64_w, i32_w]
           rfl
          refine pure_ (i := 11) (N := some 51) (v := ?_) (a' := ?_) (Qbz 25 4095) rfl rfl (by kernel_rfl) (fun _ _ _ h => h) (Or.inl ⟨by rfl, ?_⟩) ?_ ?_
          rotate_left
          ·intro w'
           go_simp
           with_reducible rfl
          rotate_left
          ·simp only [Act.put, Qp1, Qp2, Qp3, i64_w, i32_w]
           rfl
          refine take_ (i := 12) (N := some 52) (v := ?_) (a' := ?_) (Qbz 25 8191) rfl rfl (by kernel_rfl) (fun _ _ _ h => h) (Or.inl ⟨by rfl, ?_⟩) hHeld ?_ ?_
          rotate_left
          ·rintro w' ⟨s0, s1, s2⟩
           go_simp
           with_reducible rfl
          rotate_left
          ·simp only [Act.put, Qp1, Qp2, Qp3, i64_w, i32_w]
           rfl
          refine pure_ (i := 13) (N := some 53) (v := ?_) (a' := ?_) (Qbz 25 16383) rfl rfl (by kernel_rfl) (fun _ _ _ h => h) (Or.inl ⟨by rfl, ?_⟩) ?_ ?_
          rotate_left
          ·intro w'
           go_simp
           with_reducible rfl
          rotate_left
          ·simp only [Act.put, Qp1, Qp2, Qp3, i64_w, i32_w]
           rfl
          refine pure_ (i := 14) (N := some 54) (v := ?_) (a' := ?_) (Qbz 25 32767) rfl rfl (by kernel_rfl) (fun _ _ _ h => h) (Or.inl ⟨by rfl, ?_⟩) ?_ ?_
          rotate_left
          ·intro w'
           go_simp
           with_reducible rfl
          rotate_left
          ·simp only [Act.put, Qp1, Qp2, Qp3, i64_w, i32_w]
           rfl
          refine pure_ (i := 15) (N := some 55) (v := ?_) (a' := ?_) (Qbz 25 65535) rfl rfl (by kernel_rfl) (fun _ _ _ h => h) (Or.inl ⟨by rfl, ?_⟩) ?_ ?_
          rotate_left
          ·intro w'
           go_simp
           with_reducible rfl
          rotate_left
          ·simp only [Act.put, Qp1, Qp2, Qp3, i64_w, i32_w]
           rfl
          refine pure_ (i := 16) (N := some 56) (v := ?_) (a' := ?_) (Qbz 25 131071) rfl rfl (by kernel_rfl) (fun _ _ _ h => h) (Or.inl ⟨by rfl, ?_⟩) ?_ ?_
          rotate_left
          ·intro w'
           go_simp
           with_reducible rfl
          rotate_left
          ·simp only [Act.put, Qp1, Qp2, Qp3, i64_w, i32_w]
           rfl
          refine pure_ (i := 18) (N := some 58) (v := ?_) (a' := ?_) (Qbz 25 393215) rfl rfl (by kernel_rfl) (fun _ _ _ h => h) (Or.inl ⟨by rfl, ?_⟩) ?_ ?_
          rotate_left
          ·intro w'
           go_simp
           with_reducible rfl
          rotate_left
          ·simp only [Act.put, Qp1, Qp2, Qp3, i64_w, i32_w]
           rfl
          refine pure_ (i := 21) (N := some 61) (v := ?_) (a' := ?_) (Qbz 25 2490367) rfl rfl (by kernel_rfl) (fun _ _ _ h => h) (Or.inl ⟨by rfl, ?_⟩) ?_ ?_
          rotate_left
          ·intro w'
           go_simp
           with_reducible rfl
          rotate_left
          ·simp only [Act.put, Qp1, Qp2, Qp3, i64_w, i32_w]
           rfl
          refine take_ (i := 17) (N := some 57) (v := ?_) (a' := ?_) (Qbz 25 2621439) rfl rfl (by kernel_rfl) (fun _ _ _ h => h) (Or.inl ⟨by rfl, ?_⟩) hHeld ?_ ?_
          rotate_left
          ·rintro w' ⟨s0, s1, s2⟩
           go_simp
           with_reducible rfl
          rotate_left
          ·simp only [Act.put, Qp1, Qp2, Qp3, i64_w, i32_w]
           rfl
          refine pure_ (i := 19) (N := some 59) (v := ?_) (a' := ?_) (Qbz 25 3145727) rfl rfl (by kernel_rfl) (fun _ _ _ h => h) (Or.inl ⟨by rfl, ?_⟩) ?_ ?_
          rotate_left
          ·intro w'
           go_simp
           with_reducible rfl
          rotate_left
          ·simp only [Act.put, Qp1, Qp2, Qp3, i64_w, i32_w]
           rfl
          refine take_ (i := 20) (N := some 60) (v := ?_) (a' := ?_) (Qbz 25 4194303) rfl rfl (by kernel_rfl) (fun _ _ _ h => h) (Or.inl ⟨by rfl, ?_⟩) hHeld ?_ ?_
          rotate_left
          ·rintro w' ⟨s0, s1, s2⟩
           go_simp
           with_reducible rfl
          rotate_left
          ·simp only [Act.put, Qp1, Qp2, Qp3, i64_w, i32_w]
           rfl
          refine one_ (i := 22) (N := some 62) (Qbz 25 8388607) rfl rfl (by kernel_rfl) (by decide) (fun K hK => ?_)
          refine goes_ Tryd.func67 (by kernel_rfl) rfl #[.slice Ag G.length cg] (by rfl) rfl rfl (by simp only [List.map_toArray, List.map_cons, List.map_nil]; rfl) ?_
          with_reducible refine (CALL.out _ hHeld).mono ?_
          rintro e w3 ⟨rfl, g0, g1, gB⟩
          refine ⟨_, rfl, ?_⟩
          refine hK.out _ _ ⟨g0, g1, gB⟩ (fun hHeld => ?_)
          clear hK K
          refine norm_ (a' := ?_) ?_ ?_
          rotate_left
          ·show Act.put _ (some 62) _ = _
           simp only [Act.put, Qp1, Qp2, Qp3, i64_w, i32_w]
           rfl
          refine pure_ (i := 23) (N := some 63) (v := ?_) (a' := ?_) (Qbz 25 16777215) rfl rfl (by kernel_rfl) (fun _ _ _ h => h) (Or.inl ⟨by rfl, ?_⟩) ?_ ?_
          rotate_left
          ·intro w'
           go_simp
           with_reducible rfl
          rotate_left
          ·simp only [Act.put, Qp1, Qp2, Qp3, i64_w, i32_w]
           rfl
          refine pure_ (i := 24) (N := some 64) (v := ?_) (a' := ?_) (Qbz 25 33554431) rfl rfl (by kernel_rfl) (fun _ _ _ h => h) (Or.inl ⟨by rfl, ?_⟩) ?_ ?_
          rotate_left
          ·intro w'
           go_simp
           with_reducible rfl
          rotate_left
          ·simp only [Act.put, Qp1, Qp2, Qp3, i64_w, i32_w]
           rfl
          refine done_ (by kernel_rfl) ?_
          go_wp2
          go_ret
          exact ⟨rfl, below_step HB7.out gB⟩
         ·rw [if_neg hb2] at ht
          have hd9 : decide (b > (PA : Int)) = false := decide_eq_false hb2
          have hd10 : decide ((PA : Int) < b) = false := decide_eq_false hb2
          obtain ⟨bn, rfl⟩ := Int.eq_ofNat_of_zero_le (show 0 ≤ b by omega)
          rw [Int.toNat_natCast] at ht
          have hd12 : decide (PA < bn) = false := decide_eq_false (by omega)
          have hd13 : decide (bn > PA) = false := decide_eq_false (by omega)
          have hor := b_or ac bn (by omega) (by omega)
          have hac2 : ac ||| bn < 512 := Nat.or_lt_two_pow (n := 9) hac (by omega)
          generalize ac ||| bn = a2 at *
          by_cases hp0 : p < 0
          ·rw [if_pos hp0] at ht
           have hd11 : decide (p < 0) = true := decide_eq_true hp0
           have HT2 := Aside0.mk ht
           clear hp1 hp2 hb1 hb2 ht hp0
           go_wp2_with (fail)
           refine start_ (n := 25) (S := fun w' => w'.cell? ⟨xB, 0, none⟩ = some (.slice (some adB) B.length c0) ∧ w'.cell? (adB.add i) = some (.int .i64 (bn : Int)) ∧ Below w7.heap.size w7 w') (ds := []) (Qbz 25 0) (by kernel_rfl) rfl rfl ⟨f0d, f1d, fbd⟩ (fun hHeld => ?_)
           refine pure_ (i := 0) (N := some 40) (v := ?_) (a' := ?_) (Qbz 25 1) rfl rfl (by kernel_rfl) (fun _ _ _ h => h) (Or.inl ⟨by rfl, ?_⟩) ?_ ?_
           rotate_left
           ·intro w'
            go_simp
            with_reducible rfl
           rotate_left
           ·simp only [Act.put, Qp1, Qp2, Qp3, i64_w, i32_w]
            rfl
           refine pure_ (i := 1) (N := some 41) (v := ?_) (a' := ?_) (Qbz 25 3) rfl rfl (by kernel_rfl) (fun _ _ _ h => h) (Or.inl ⟨by rfl, ?_⟩) ?_ ?_
           rotate_left
           ·intro w'
            go_simp
            with_reducible rfl
           rotate_left
           ·simp only [Act.put, Qp1, Qp2, Qp3, i64_w, i32_w]
            rfl
           refine pure_ (i := 2) (N := some 42) (v := ?_) (a' := ?_) (Qbz 25 7) rfl rfl (by kernel_rfl) (fun _ _ _ h => h) (Or.inl ⟨by rfl, ?_⟩) ?_ ?_
           rotate_left
           ·intro w'
            go_simp
            with_reducible rfl
           rotate_left
           ·simp only [Act.put, Qp1, Qp2, Qp3, i64_w, i32_w]
            rfl
           refine pure_ (i := 3) (N := some 43) (v := ?_) (a' := ?_) (Qbz 25 15) rfl rfl (by kernel_rfl) (fun _ _ _ h => h) (Or.inl ⟨by rfl, ?_⟩) ?_ ?_
           rotate_left
           ·intro w'
            go_simp
            with_reducible rfl
           rotate_left
           ·simp only [Act.put, Qp1, Qp2, Qp3, i64_w, i32_w]
            rfl
           refine pure_ (i := 4) (N := some 44) (v := ?_) (a' := ?_) (Qbz 25 31) rfl rfl (by kernel_rfl) (fun _ _ _ h => h) (Or.inl ⟨by rfl, ?_⟩) ?_ ?_
           rotate_left
           ·intro w'
            go_simp
            with_reducible rfl
           rotate_left
           ·simp only [Act.put, Qp1, Qp2, Qp3, i64_w, i32_w]
            rfl
           refine pure_ (i := 5) (N := some 45) (v := ?_) (a' := ?_) (Qbz 25 63) rfl rfl (by kernel_rfl) (fun _ _ _ h => h) (Or.inl ⟨by rfl, ?_⟩) ?_ ?_
           rotate_left
           ·intro w'
            go_simp
            with_reducible rfl
           rotate_left
           ·simp only [Act.put, Qp1, Qp2, Qp3, i64_w, i32_w]
            rfl
           refine pure_ (i := 6) (N := some 46) (v := ?_) (a' := ?_) (Qbz 25 127) rfl rfl (by kernel_rfl) (fun _ _ _ h => h) (Or.inl ⟨by rfl, ?_⟩) ?_ ?_
           rotate_left
           ·intro w'
            go_simp
            with_reducible rfl
           rotate_left
           ·simp only [Act.put, Qp1, Qp2, Qp3, i64_w, i32_w]
            rfl
           refine pure_ (i := 7) (N := some 47) (v := ?_) (a' := ?_) (Qbz 25 255) rfl rfl (by kernel_rfl) (fun _ _ _ h => h) (Or.inl ⟨by rfl, ?_⟩) ?_ ?_
           rotate_left
           ·intro w'
            go_simp
            with_reducible rfl
           rotate_left
           ·simp only [Act.put, Qp1, Qp2, Qp3, i64_w, i32_w]
            rfl
           refine pure_ (i := 8) (N := some 48) (v := ?_) (a' := ?_) (Qbz 25 511) rfl rfl (by kernel_rfl) (fun _ _ _ h => h) (Or.inl ⟨by rfl, ?_⟩) ?_ ?_
           rotate_left
           ·intro w'
            go_simp
            with_reducible rfl
           rotate_left
           ·simp only [Act.put, Qp1, Qp2, Qp3, i64_w, i32_w]
            rfl
           refine pure_ (i := 10) (N := some 50) (v := ?_) (a' := ?_) (Qbz 25 1535) rfl rfl (by kernel_rfl) (fun _ _ _ h => h) (Or.inl ⟨by rfl, ?_⟩) ?_ ?_
           rotate_left
           ·intro w'
            go_simp
            with_reducible rfl
           rotate_left
           ·simp only [Act.put, Qp1, Qp2, Qp3, i64_w, i32_w]
            rfl
           refine take_ (i := 9) (N := some 49) (v := ?_) (a' := ?_) (Qbz 25 2047) rfl rfl (by kernel_rfl) (fun _ _ _ h => h) (Or.inl ⟨by rfl, ?_⟩) hHeld ?_ ?_
           rotate_left
           ·rintro w' ⟨s0, s1, s2⟩
            go_simp
            with_reducible rfl
           rotate_left
           ·simp only [Act.put, Qp1, Qp2, Qp3, i64_w, i32_w]
            rfl
           refine pure_ (i := 11) (N := some 51) (v := ?_) (a' := ?_) (Qbz 25 4095) rfl rfl (by kernel_rfl) (fun _ _ _ h => h) (Or.inl ⟨by rfl, ?_⟩) ?_ ?_
           rotate_left
           ·intro w'
            go_simp
            with_reducible rfl
           rotate_left
           ·simp only [Act.put, Qp1, Qp2, Qp3, i64_w, i32_w]
            rfl
           refine take_ (i := 12) (N := some 52) (v := ?_) (a' := ?_) (Qbz 25 8191) rfl rfl (by kernel_rfl) (fun _ _ _ h => h) (Or.inl ⟨by rfl, ?_⟩) hHeld ?_ ?_
           rotate_left
           ·rintro w' ⟨s0, s1, s2⟩
            go_simp
            with_reducible rfl
           rotate_left
           ·simp only [Act.put, Qp1, Qp2, Qp3, i64_w, i32_w]
            rfl
           refine pure_ (i := 13) (N := some 53) (v := ?_) (a' := ?_) (Qbz 25 16383) rfl rfl (by kernel_rfl) (fun _ _ _ h => h) (Or.inl ⟨by rfl, ?_⟩) ?_ ?_
           rotate_left
           ·intro w'
            go_simp
            with_reducible rfl
           rotate_left
           ·simp only [Act.put, Qp1, Qp2, Qp3, i64_w, i32_w]
            rfl
           refine pure_ (i := 14) (N := some 54) (v := ?_) (a' := ?_) (Qbz 25 32767) rfl rfl (by kernel_rfl) (fun _ _ _ h => h) (Or.inl ⟨by rfl, ?_⟩) ?_ ?_
           rotate_left
           ·intro w'
            go_simp
            with_reducible rfl
           rotate_left
           ·simp only [Act.put, Qp1, Qp2, Qp3, i64_w, i32_w]
            rfl
           refine pure_ (i := 15) (N := some 55) (v := ?_) (a' := ?_) (Qbz 25 65535) rfl rfl (by kernel_rfl) (fun _ _ _ h => h) (Or.inl ⟨by rfl, ?_⟩) ?_ ?_
           rotate_left
           ·intro w'
            go_simp
            with_reducible rfl
           rotate_left
           ·simp only [Act.put, Qp1, Qp2, Qp3, i64_w, i32_w]
            rfl
           refine pure_ (i := 16) (N := some 56) (v := ?_) (a' := ?_) (Qbz 25 131071) rfl rfl (by kernel_rfl) (fun _ _ _ h => h) (Or.inl ⟨by rfl, ?_⟩) ?_ ?_
           rotate_left
           ·intro w'
            go_simp
            with_reducible rfl
           rotate_left
           ·simp only [Act.put, Qp1, Qp2, Qp3, i64_w, i32_w]
            rfl
           refine pure_ (i := 18) (N := some 58) (v := ?_) (a' := ?_) (Qbz 25 393215) rfl rfl (by kernel_rfl) (fun _ _ _ h => h) (Or.inl ⟨by rfl, ?_⟩) ?_ ?_
           rotate_left
           ·intro w'
            go_simp
            with_reducible rfl
           rotate_left
           ·simp only [Act.put, Qp1, Qp2, Qp3, i64_w, i32_w]
            rfl
           refine pure_ (i := 21) (N := some 61) (v := ?_) (a' := ?_) (Qbz 25 2490367) rfl rfl (by kernel_rfl) (fun _ _ _ h => h) (Or.inl ⟨by rfl, ?_⟩) ?_ ?_
           rotate_left
           ·intro w'
            go_simp
            with_reducible rfl
           rotate_left
           ·simp only [Act.put, Qp1, Qp2, Qp3, i64_w, i32_w]
            rfl
           refine take_ (i := 17) (N := some 57) (v := ?_) (a' := ?_) (Qbz 25 2621439) rfl rfl (by kernel_rfl) (fun _ _ _ h => h) (Or.inl ⟨by rfl, ?_⟩) hHeld ?_ ?_
           rotate_left
           ·rintro w' ⟨s0, s1, s2⟩
            go_simp
            with_reducible rfl
           rotate_left
           ·simp only [Act.put, Qp1, Qp2, Qp3, i64_w, i32_w]
            rfl
           refine pure_ (i := 19) (N := some 59) (v := ?_) (a' := ?_) (Qbz 25 3145727) rfl rfl (by kernel_rfl) (fun _ _ _ h => h) (Or.inl ⟨by rfl, ?_⟩) ?_ ?_
           rotate_left
           ·intro w'
            go_simp
            with_reducible rfl
           rotate_left
           ·simp only [Act.put, Qp1, Qp2, Qp3, i64_w, i32_w]
            rfl
           refine take_ (i := 20) (N := some 60) (v := ?_) (a' := ?_) (Qbz 25 4194303) rfl rfl (by kernel_rfl) (fun _ _ _ h => h) (Or.inl ⟨by rfl, ?_⟩) hHeld ?_ ?_
           rotate_left
           ·rintro w' ⟨s0, s1, s2⟩
            go_simp
            with_reducible rfl
           rotate_left
           ·simp only [Act.put, Qp1, Qp2, Qp3, i64_w, i32_w]
            rfl
           refine one_ (i := 22) (N := some 62) (Qbz 25 8388607) rfl rfl (by kernel_rfl) (by decide) (fun K hK => ?_)
           refine goes_ Tryd.func67 (by kernel_rfl) rfl #[.slice Ag G.length cg] (by rfl) rfl rfl (by simp only [List.map_toArray, List.map_cons, List.map_nil]; rfl) ?_
           with_reducible refine (CALL.out _ hHeld).mono ?_
           rintro e w3 ⟨rfl, g0, g1, gB⟩
           refine ⟨_, rfl, ?_⟩
           refine hK.out _ _ ⟨g0, g1, gB⟩ (fun hHeld => ?_)
           clear hK K
           refine norm_ (a' := ?_) ?_ ?_
           rotate_left
           ·show Act.put _ (some 62) _ = _
            simp only [Act.put, Qp1, Qp2, Qp3, i64_w, i32_w]
            rfl
           refine pure_ (i := 23) (N := some 63) (v := ?_) (a' := ?_) (Qbz 25 16777215) rfl rfl (by kernel_rfl) (fun _ _ _ h => h) (Or.inl ⟨by rfl, ?_⟩) ?_ ?_
           rotate_left
           ·intro w'
            go_simp
            with_reducible rfl
           rotate_left
           ·simp only [Act.put, Qp1, Qp2, Qp3, i64_w, i32_w]
            rfl
           refine pure_ (i := 24) (N := some 64) (v := ?_) (a' := ?_) (Qbz 25 33554431) rfl rfl (by kernel_rfl) (fun _ _ _ h => h) (Or.inl ⟨by rfl, ?_⟩) ?_ ?_
           rotate_left
           ·intro w'
            go_simp
            with_reducible rfl
           rotate_left
           ·simp only [Act.put, Qp1, Qp2, Qp3, i64_w, i32_w]
            rfl
           refine done_ (by kernel_rfl) ?_
           go_wp2
           go_roundg gq
           case measure => omega
           case rel => exact ⟨i + 1, ro + 1, a2, by go_num, rfl, by go_num, by omega, ⟨HT2.out, by omega, hac2⟩, ⟨gB⟩⟩
          ·rw [if_neg hp0] at ht
           have hd11 : decide (p < 0) = false := decide_eq_false hp0
           have HT2 := Aside0.mk ht
           clear hp1 hp2 hb1 hb2 ht hp0
           go_wp2_with (fail)
           refine start_ (n := 25) (S := fun w' => w'.cell? ⟨xB, 0, none⟩ = some (.slice (some adB) B.length c0) ∧ w'.cell? (adB.add i) = some (.int .i64 (bn : Int)) ∧ Below w7.heap.size w7 w') (ds := []) (Qbz 25 0) (by kernel_rfl) rfl rfl ⟨f0d, f1d, fbd⟩ (fun hHeld => ?_)
           refine pure_ (i := 0) (N := some 40) (v := ?_) (a' := ?_) (Qbz 25 1) rfl rfl (by kernel_rfl) (fun _ _ _ h => h) (Or.inl ⟨by rfl, ?_⟩) ?_ ?_
           rotate_left
           ·intro w'
            go_simp
            with_reducible rfl
           rotate_left
           ·simp only [Act.put, Qp1, Qp2, Qp3, i64_w, i32_w]
            rfl
           refine pure_ (i := 1) (N := some 41) (v := ?_) (a' := ?_) (Qbz 25 3) rfl rfl (by kernel_rfl) (fun _ _ _ h => h) (Or.inl ⟨by rfl, ?_⟩) ?_ ?_
           rotate_left
           ·intro w'
            go_simp
            with_reducible rfl
           rotate_left
           ·simp only [Act.put, Qp1, Qp2, Qp3, i64_w, i32_w]
            rfl
           refine pure_ (i := 2) (N := some 42) (v := ?_) (a' := ?_) (Qbz 25 7) rfl rfl (by kernel_rfl) (fun _ _ _ h => h) (Or.inl ⟨by rfl, ?_⟩) ?_ ?_
           rotate_left
           ·intro w'
            go_simp
            with_reducible rfl
           rotate_left
           ·simp only [Act.put, Qp1, Qp2, Qp3, i64_w, i32_w]
            rfl
           refine pure_ (i := 3) (N := some 43) (v := ?_) (a' := ?_) (Qbz 25 15) rfl rfl (by kernel_rfl) (fun _ _ _ h => h) (Or.inl ⟨by rfl, ?_⟩) ?_ ?_
           rotate_left
           ·intro w'
            go_simp
            with_reducible rfl
           rotate_left
           ·simp only [Act.put, Qp1, Qp2, Qp3, i64_w, i32_w]
            rfl
           refine pure_ (i := 4) (N := some 44) (v := ?_) (a' := ?_) (Qbz 25 31) rfl rfl (by kernel_rfl) (fun _ _ _ h => h) (Or.inl ⟨by rfl, ?_⟩) ?_ ?_
           rotate_left
           ·intro w'
            go_simp
            with_reducible rfl
           rotate_left
           ·simp only [Act.put, Qp1, Qp2, Qp3, i64_w, i32_w]
            rfl
           refine pure_ (i := 5) (N := some 45) (v := ?_) (a' := ?_) (Qbz 25 63) rfl rfl (by kernel_rfl) (fun _ _ _ h => h) (Or.inl ⟨by rfl, ?_⟩) ?_ ?_
           rotate_left
           ·intro w'
            go_simp
            with_reducible rfl
           rotate_left
           ·simp only [Act.put, Qp1, Qp2, Qp3, i64_w, i32_w]
            rfl
           refine pure_ (i := 6) (N := some 46) (v := ?_) (a' := ?_) (Qbz 25 127) rfl rfl (by kernel_rfl) (fun _ _ _ h => h) (Or.inl ⟨by rfl, ?_⟩) ?_ ?_
           rotate_left
           ·intro w'
            go_simp
            with_reducible rfl
           rotate_left
           ·simp only [Act.put, Qp1, Qp2, Qp3, i64_w, i32_w]
            rfl
           refine pure_ (i := 7) (N := some 47) (v := ?_) (a' := ?_) (Qbz 25 255) rfl rfl (by kernel_rfl) (fun _ _ _ h => h) (Or.inl ⟨by rfl, ?_⟩) ?_ ?_
           rotate_left
           ·intro w'
            go_simp
            with_reducible rfl
           rotate_left
           ·simp only [Act.put, Qp1, Qp2, Qp3, i64_w, i32_w]
            rfl
           refine pure_ (i := 8) (N := some 48) (v := ?_) (a' := ?_) (Qbz 25 511) rfl rfl (by kernel_rfl) (fun _ _ _ h => h) (Or.inl ⟨by rfl, ?_⟩) ?_ ?_
           rotate_left
           ·intro w'
            go_simp
            with_reducible rfl
           rotate_left
           ·simp only [Act.put, Qp1, Qp2, Qp3, i64_w, i32_w]
            rfl
           refine pure_ (i := 10) (N := some 50) (v := ?_) (a' := ?_) (Qbz 25 1535) rfl rfl (by kernel_rfl) (fun _ _ _ h => h) (Or.inl ⟨by rfl, ?_⟩) ?_ ?_
           rotate_left
           ·intro w'
            go_simp
            with_reducible rfl
           rotate_left
           ·simp only [Act.put, Qp1, Qp2, Qp3, i64_w, i32_w]
            rfl
           refine take_ (i := 9) (N := some 49) (v := ?_) (a' := ?_) (Qbz 25 2047) rfl rfl (by kernel_rfl) (fun _ _ _ h => h) (Or.inl ⟨by rfl, ?_⟩) hHeld ?_ ?_
           rotate_left
           ·rintro w' ⟨s0, s1, s2⟩
            go_simp
            with_reducible rfl
           rotate_left
           ·simp only [Act.put, Qp1, Qp2, Qp3, i64_w, i32_w]
            rfl
           refine pure_ (i := 11) (N := some 51) (v := ?_) (a' := ?_) (Qbz 25 4095) rfl rfl (by kernel_rfl) (fun _ _ _ h => h) (Or.inl ⟨by rfl, ?_⟩) ?_ ?_
           rotate_left
           ·intro w'
            go_simp
            with_reducible rfl
           rotate_left
           ·simp only [Act.put, Qp1, Qp2, Qp3, i64_w, i32_w]
            rfl
           refine take_ (i := 12) (N := some 52) (v := ?_) (a' := ?_) (Qbz 25 8191) rfl rfl (by kernel_rfl) (fun _ _ _ h => h) (Or.inl ⟨by rfl, ?_⟩) hHeld ?_ ?_
           rotate_left
           ·rintro w' ⟨s0, s1, s2⟩
            go_simp
            with_reducible rfl
           rotate_left
           ·simp only [Act.put, Qp1, Qp2, Qp3, i64_w, i32_w]
            rfl
           refine pure_ (i := 13) (N := some 53) (v := ?_) (a' := ?_) (Qbz 25 16383) rfl rfl (by kernel_rfl) (fun _ _ _ h => h) (Or.inl ⟨by rfl, ?_⟩) ?_ ?_
           rotate_left
           ·intro w'
            go_simp
            with_reducible rfl
           rotate_left
           ·simp only [Act.put, Qp1, Qp2, Qp3, i64_w, i32_w]
            rfl
           refine pure_ (i := 14) (N := some 54) (v := ?_) (a' := ?_) (Qbz 25 32767) rfl rfl (by kernel_rfl) (fun _ _ _ h => h) (Or.inl ⟨by rfl, ?_⟩) ?_ ?_
           rotate_left
           ·intro w'
            go_simp
            with_reducible rfl
           rotate_left
           ·simp only [Act.put, Qp1, Qp2, Qp3, i64_w, i32_w]
            rfl
           refine pure_ (i := 15) (N := some 55) (v := ?_) (a' := ?_) (Qbz 25 65535) rfl rfl (by kernel_rfl) (fun _ _ _ h => h) (Or.inl ⟨by rfl, ?_⟩) ?_ ?_
           rotate_left
           ·intro w'
            go_simp
            with_reducible rfl
           rotate_left
           ·simp only [Act.put, Qp1, Qp2, Qp3, i64_w, i32_w]
            rfl
           refine pure_ (i := 16) (N := some 56) (v := ?_) (a' := ?_) (Qbz 25 131071) rfl rfl (by kernel_rfl) (fun _ _ _ h => h) (Or.inl ⟨by rfl, ?_⟩) ?_ ?_
           rotate_left
           ·intro w'
            go_simp
            with_reducible rfl
           rotate_left
           ·simp only [Act.put, Qp1, Qp2, Qp3, i64_w, i32_w]
            rfl
           refine pure_ (i := 18) (N := some 58) (v := ?_) (a' := ?_) (Qbz 25 393215) rfl rfl (by kernel_rfl) (fun _ _ _ h => h) (Or.inl ⟨by rfl, ?_⟩) ?_ ?_
           rotate_left
           ·intro w'
            go_simp
            with_reducible rfl
           rotate_left
           ·simp only [Act.put, Qp1, Qp2, Qp3, i64_w, i32_w]
            rfl
           refine pure_ (i := 21) (N := some 61) (v := ?_) (a' := ?_) (Qbz 25 2490367) rfl rfl (by kernel_rfl) (fun _ _ _ h => h) (Or.inl ⟨by rfl, ?_⟩) ?_ ?_
           rotate_left
           ·intro w'
            go_simp
            with_reducible rfl
           rotate_left
           ·simp only [Act.put, Qp1, Qp2, Qp3, i64_w, i32_w]
            rfl
           refine take_ (i := 17) (N := some 57) (v := ?_) (a' := ?_) (Qbz 25 2621439) rfl rfl (by kernel_rfl) (fun _ _ _ h => h) (Or.inl ⟨by rfl, ?_⟩) hHeld ?_ ?_
           rotate_left
           ·rintro w' ⟨s0, s1, s2⟩
            go_simp
            with_reducible rfl
           rotate_left
           ·simp only [Act.put, Qp1, Qp2, Qp3, i64_w, i32_w]
            rfl
           refine pure_ (i := 19) (N := some 59) (v := ?_) (a' := ?_) (Qbz 25 3145727) rfl rfl (by kernel_rfl) (fun _ _ _ h => h) (Or.inl ⟨by rfl, ?_⟩) ?_ ?_
           rotate_left
           ·intro w'
            go_simp
            with_reducible rfl
           rotate_left
           ·simp only [Act.put, Qp1, Qp2, Qp3, i64_w, i32_w]
            rfl
           refine take_ (i := 20) (N := some 60) (v := ?_) (a' := ?_) (Qbz 25 4194303) rfl rfl (by kernel_rfl) (fun _ _ _ h => h) (Or.inl ⟨by rfl, ?_⟩) hHeld ?_ ?_
           rotate_left
           ·rintro w' ⟨s0, s1, s2⟩
            go_simp
            with_reducible rfl
           rotate_left
           ·simp only [Act.put, Qp1, Qp2, Qp3, i64_w, i32_w]
            rfl
           refine one_ (i := 22) (N := some 62) (Qbz 25 8388607) rfl rfl (by kernel_rfl) (by decide) (fun K hK => ?_)
           refine goes_ Tryd.func67 (by kernel_rfl) rfl #[.slice Ag G.length cg] (by rfl) rfl rfl (by simp only [List.map_toArray, List.map_cons, List.map_nil]; rfl) ?_
           with_reducible refine (CALL.out _ hHeld).mono ?_
           rintro e w3 ⟨rfl, g0, g1, gB⟩
           refine ⟨_, rfl, ?_⟩
           refine hK.out _ _ ⟨g0, g1, gB⟩ (fun hHeld => ?_)
           clear hK K
           refine norm_ (a' := ?_) ?_ ?_
           rotate_left
           ·show Act.put _ (some 62) _ = _
            simp only [Act.put, Qp1, Qp2, Qp3, i64_w, i32_w]
            rfl
           refine pure_ (i := 23) (N := some 63) (v := ?_) (a' := ?_) (Qbz 25 16777215) rfl rfl (by kernel_rfl) (fun _ _ _ h => h) (Or.inl ⟨by rfl, ?_⟩) ?_ ?_
           rotate_left
           ·intro w'
            go_simp
            with_reducible rfl
           rotate_left
           ·simp only [Act.put, Qp1, Qp2, Qp3, i64_w, i32_w]
            rfl
           refine pure_ (i := 24) (N := some 64) (v := ?_) (a' := ?_) (Qbz 25 33554431) rfl rfl (by kernel_rfl) (fun _ _ _ h => h) (Or.inl ⟨by rfl, ?_⟩) ?_ ?_
           rotate_left
           ·intro w'
            go_simp
            with_reducible rfl
           rotate_left
           ·simp only [Act.put, Qp1, Qp2, Qp3, i64_w, i32_w]
            rfl
           refine done_ (by kernel_rfl) ?_
           go_wp2
           go_roundg gq
           case measure => omega
           case rel => exact ⟨i + 1, ro, a2, rfl, rfl, by go_num, by omega, ⟨HT2.out, by omega, hac2⟩, ⟨gB⟩⟩
     ·have hi1 : ((i : Int) < (B.length : Int)) = False := eq_false (by omega)
      have hi2 : decide ((i : Int) < (B.length : Int)) = false := decide_eq_false (by omega)
      have hi3 : ((i : Int) < (P.length : Int)) = False := eq_false (by have := HPL.out; omega)
      have hi4 : decide ((i : Int) < (P.length : Int)) = false := decide_eq_false (by have := HPL.out; omega)
      obtain rfl : gk = 0 := by omega
      obtain ⟨ht, hro, hac⟩ := HT.out
      simp only [tl1] at ht
      subst ht
      clear HT
      have hr := HR.out
      simp only [treeB2] at hr
      have CAL2 : Aside0 (∀ W, Below wr.heap.size wr W → Calls Tryd.prog 67 #[.slice Ag G.length cg] W fun e w' => e = .returned (.int .i64 (PA : Int)) ∧ Below wr.heap.size wr w') := ⟨fun W hW => by
       have := width_town_all.calls Ag cg (T.gi G) _ W (Kd.C_below (Kd.C_below (Kd.C_below HRG.out HB7.out) HB.out) hW) (by rw [HL.out]; exact hcg) HALL.out
       rw [HL.out] at this
       exact this.mono fun e w' ⟨h, m, hm⟩ => ⟨h, by rw [hm]; exact pw_below_drewN hW m⟩⟩
      have hinp : InP P := fun j hj => by
       have := HOK.out _ rfl j (by have := HPL.out; omega)
       have e := HPL.out
       omega
      have hbc := blk_below HBOX.out HB.out
      have hz1' : wr.cell? ⟨xB, 1, none⟩ = some (.slice A1 P.length c1) := (blk_cell hbc 1).trans rfl
      have CCY : Aside0 (∀ W, Below wr.heap.size wr W → Calls Tryd.prog 54 #[.slice A1 P.length c1, .func (.func 100) #[] #[.pointer (some ⟨xB, 0, none⟩)]] W fun e w' => e = .returned (.bool (P.any (cycB P P.length))) ∧ Below W.heap.size W w') := ⟨fun W hW => contains_cyc A1 c1 P (cycB P P.length) xB W (Kd.C_below (Kd.C_below (Kd.C_below HR1.out HB7.out) HB.out) hW) (by have := HPL.out; omega) (fun V hV x hx => by
       have hb2 := below_step hW hV
       refine cyc1 xB A0 B.length c0 A1 c1 P x hinp (by have := HPL.out; omega) ?_ V (Kd.C_below (Kd.C_below (Kd.C_below HR1.out HB7.out) HB.out) hb2) ((blk_cell (blk_below hbc hb2) 0).trans rfl) ((blk_cell (blk_below hbc hb2) 1).trans rfl)
       obtain ⟨j, hj, e⟩ := List.getElem_of_mem hx
       have := (hinp j hj).2
       unfold rd at this
       rw [Int.toNat_natCast, List.getD_eq_getElem?_getD, List.getElem?_eq_getElem hj] at this
       rw [← e]
       exact this)⟩
      have HBC := Aside0.mk hbc
      have hro30 : ro ≤ 30 := by omega
      by_cases h1 : ro = 1
      ·subst h1
       rw [if_pos rfl] at hr
       by_cases h2 : ac = PA
       ·subst h2
        rw [if_pos HPA.out.symm] at hr
        have hx5 : ((ac : Int) == (ac : Int)) = true := by simp
        have hx6 : ((ac : Int) != (ac : Int)) = false := by simp
        obtain ⟨cy, hcy⟩ : ∃ b, P.any (cycB P P.length) = b := ⟨_, rfl⟩
        rw [hcy] at CCY hr
        clear hcy hbc
        cases cy
        ·rw [if_neg (by simp)] at hr
         have HR2 := Aside0.mk hr
         clear hr hz1
         go_wp2_with (first
          | (go_at_call 67; refine (CAL2.out _ (Below.refl _ _)).mono ?_; rintro e w3 ⟨rfl, hb3⟩; have HB3 := Aside0.mk hb3; have hz3 : w3.cell? ⟨xB, 1, none⟩ = some (.slice A1 P.length c1) := (blk_cell (blk_below HBC.out hb3) 1).trans rfl; clear hb3)
          | (go_at_call 54; refine (CCY.out _ HB3.out).mono ?_; rintro e w4 ⟨rfl, hb4⟩; have HB4 := Aside0.mk (below_step HB3.out hb4); clear hb4))
         have HB5 : Aside0 (Below w7.heap.size w7 w4) := ⟨below_step HB.out HB4.out⟩
         have HOK2 : Aside0 (∀ j, j < B.length → -1 ≤ rd P (j : Int) ∧ rd P (j : Int) < (B.length : Int) ∧ 0 ≤ rd B (j : Int) ∧ rd B (j : Int) < 512) := ⟨fun j hj => by
          have := HOK.out _ rfl j hj
          omega⟩
         obtain ⟨adB, eB, _⟩ := Kd.at_int HR0.out 0 (by omega) (by omega)
         subst eB
         obtain ⟨adP, eP, _⟩ := Kd.at_int HR1.out 0 (by omega) (by have := HPL.out; omega)
         subst eP
         clear HB4 HB3 CAL2 CCY HALL HOK hz0
         clear HB
         go_loopg [93] G.length (fun kq v93 w' => ∃ v : Nat, v93 = .int .i64 (v : Int) ∧ v + kq = G.length ∧ Aside0 (tl2 G B P kq v = R) ∧ Aside0 (Below w7.heap.size w7 w'))
         case atStart => exact ⟨0, rfl, by omega, HR2, HB5⟩
         case round =>
          clear HR2 HB5
          obtain ⟨v, rfl, hv, HT2, HB⟩ := hrel
          by_cases hvl : v < G.length
          ·have hv1 : ((v : Int) < (G.length : Int)) = True := eq_true (by omega)
           have hv2 : decide ((v : Int) < (G.length : Int)) = true := decide_eq_true (by omega)
           cases gk with
           | zero => omega
           | succ gq =>
           have ht := HT2.out
           simp only [tl2] at ht
           obtain ⟨TP, hTP⟩ : ∃ t, topsF B P v B.length 0 0 = t := ⟨_, rfl⟩
           rw [hTP] at ht
           have HTP := Aside0.mk hTP
           have HT3 := Aside0.mk ht
           clear HT2 ht hTP
           go_wp2_with (first | ((with_reducible refine gate_dst (N := 10) rfl ?_); refine box_event ?hg (N := 10) ?hd (cs := #[.int .i64 0]) (t := 3) ?hr ?_; (case hd => rfl); (case hg => rfl); (case hr => first | (go_simp; done) | (go_simp; rfl)); intro vB hgv w8' hbox hb8; have HGV := Aside0.mk (show wr.heap.size ≤ vB by rw [hgv]; exact Nat.le_refl _); clear hgv; have hv0 : w8'.cell? ⟨vB, 0, none⟩ = some (.int .i64 0) := (blk_cell hbox 0).trans rfl; have hvf := blk_frozen hbox 0; have hx0 : ∀ u : Value, (w8'.setCell ⟨vB, 0, none⟩ u).cell? ⟨xB, 0, none⟩ = some (.slice (some adB) B.length c0) := (fun u => (cell_sameT (heap_setT _ ⟨vB, 0, none⟩ u _ (by have := HGV.out; have := HB.out.size; have := blk_ltT HBOX.out; show xB ≠ vB; omega))).trans ((blk_cell (blk_below (blk_below HBOX.out HB.out) hb8) 0).trans rfl)); have HBV := Aside0.mk hbox; have HB8 := Aside0.mk hb8; clear hbox hb8))
           have hcv := blk_set HBV.out 0 (.int .i64 (v : Int))
           have HB9 : Aside0 (Below w7.heap.size w7 (w8'.setCell ⟨vB, 0, none⟩ (.int .i64 (v : Int)))) := ⟨below_then HB.out HB.out.size (below_set HB8.out HGV.out)⟩
           generalize w8'.setCell ⟨vB, 0, none⟩ (.int .i64 (v : Int)) = w9 at *
           have HCV := Aside0.mk hcv
           have HBOX9 := Aside0.mk (blk_below HBOX.out HB9.out)
           clear hcv HBV HB8 HGV hv0 hvf hx0 HB
           go_loopg [11, 99] B.length (fun kq v11 v99 w' => ∃ i t : Nat, v11 = .int .i64 (t : Int) ∧ v99 = .int .i64 (i : Int) ∧ i + kq = B.length ∧ Aside0 (topsF B P v kq i t = TP ∧ t ≤ i) ∧ Aside0 (Below w9.heap.size w9 w'))
           case atStart => exact ⟨0, 0, rfl, rfl, by omega, ⟨HTP.out, Nat.le_refl _⟩, ⟨Below.refl _ _⟩⟩
           case round =>
            clear HTP
            obtain ⟨i, t, rfl, rfl, hi, HT, HB⟩ := hrel
            by_cases hil : i < B.length
            ·have hi1 : ((i : Int) < (B.length : Int)) = True := eq_true (by omega)
             have hi2 : decide ((i : Int) < (B.length : Int)) = true := decide_eq_true (by omega)
             have hi3 : ((i : Int) < (P.length : Int)) = True := eq_true (by have := HPL.out; omega)
             have hi4 : decide ((i : Int) < (P.length : Int)) = true := decide_eq_true (by have := HPL.out; omega)
             cases gk with
             | zero => omega
             | succ gx =>
             obtain ⟨ht, hti⟩ := HT.out
             simp only [topsF] at ht
             obtain ⟨hk1, hk2, hk3, hk4⟩ := HOK2.out i hil
             have hcB := Kd.C_below (Kd.C_below (Kd.C_below HR0.out HB7.out) HB9.out) HB.out
             have hcP := Kd.C_below (Kd.C_below (Kd.C_below HR1.out HB7.out) HB9.out) HB.out
             obtain ⟨adP', e1, hgp⟩ := Kd.at_int hcP (i : Int) (by omega) (by have := HPL.out; omega)
             injection e1 with e1
             subst e1
             obtain ⟨adB', e2, hgb⟩ := Kd.at_int hcB (i : Int) (by omega) (by omega)
             injection e2 with e2
             subst e2
             rw [Int.toNat_natCast] at hgp hgb
             obtain ⟨p, hp⟩ : ∃ p, rd P (i : Int) = p := ⟨_, rfl⟩
             rw [hp] at hgp ht hk1 hk2
             obtain ⟨bn, hbn⟩ := Int.eq_ofNat_of_zero_le hk3
             rw [hbn] at hgb ht hk4
             have hbn7 : bn < 512 := by omega
             have hcv2 := blk_below HCV.out HB.out
             have hcx2 := blk_below HBOX9.out HB.out
             have fvd : wr.drew.cell? ⟨vB, 0, none⟩ = some (.int .i64 (v : Int)) := (blk_cell hcv2 0).trans rfl
             have f0d : wr.drew.cell? ⟨xB, 0, none⟩ = some (.slice (some adB) B.length c0) := (blk_cell hcx2 0).trans rfl
             have f1d : wr.drew.cell? ⟨xB, 1, none⟩ = some (.slice (some adP) P.length c1) := (blk_cell hcx2 1).trans rfl
             have fpd : wr.drew.cell? (adP.add i) = some (.int .i64 p) := hgp
             have hzv : (0 : Int) ≤ (v : Int) := by omega
             obtain ⟨J, hJ1, hJ2, hJ3, hJ4, hJ5⟩ := bitJT bn v (by omega) (by omega)
             have hbi : bitI (bn : Int) v = bn.testBit v := rfl
             rw [hbi] at ht
             clear HT hk3 hbn hp hcv2 hcx2 hbi hJ3 hJ5 hcP
             cases hbt : bn.testBit v
             ·rw [hbt] at hJ4 ht
              have HT4 : Aside0 (topsF B P v gx (i + 1) t = TP) := ⟨by simpa using ht⟩
              clear ht hbt hcB
              go_wp2_with (fail)
              refine start_ (n := 28) (S := fun w' => w'.cell? ⟨vB, 0, none⟩ = some (.int .i64 (v : Int))) (ds := []) (Qbz 28 0) (by kernel_rfl) rfl rfl (fvd) (fun hHeld => ?_)
              refine pure_ (i := 0) (N := some 104) (v := ?_) (a' := ?_) (Qbz 28 1) rfl rfl (by kernel_rfl) (fun _ _ _ h => h) (Or.inl ⟨by rfl, ?_⟩) ?_ ?_
              rotate_left
              ·intro w'
               go_simp
               with_reducible rfl
              rotate_left
              ·simp only [Act.put, Qp1, Qp2, Qp3, i64_w, i32_w]
               rfl
              refine take_ (i := 1) (N := some 105) (v := ?_) (a' := ?_) (Qbz 28 3) rfl rfl (by kernel_rfl) (fun _ _ _ h => h) (Or.inl ⟨by rfl, ?_⟩) hHeld ?_ ?_
              rotate_left
              ·intro w' s0
               go_simp
               with_reducible rfl
              rotate_left
              ·simp only [Act.put, Qp1, Qp2, Qp3, i64_w, i32_w]
               rfl
              refine pure_ (i := 2) (N := some 106) (v := ?_) (a' := ?_) (Qbz 28 7) rfl rfl (by kernel_rfl) (fun _ _ _ h => h) (Or.inl ⟨by rfl, ?_⟩) ?_ ?_
              rotate_left
              ·intro w'
               go_simp
               with_reducible rfl
              rotate_left
              ·simp only [Act.put, Qp1, Qp2, Qp3, i64_w, i32_w]
               rfl
              refine pure_ (i := 3) (N := some 107) (v := ?_) (a' := ?_) (Qbz 28 15) rfl rfl (by kernel_rfl) (fun _ _ _ h => h) (Or.inl ⟨by rfl, ?_⟩) ?_ ?_
              rotate_left
              ·intro w'
               go_simp
               with_reducible rfl
              rotate_left
              ·simp only [Act.put, Qp1, Qp2, Qp3, i64_w, i32_w]
               rfl
              refine pure_ (i := 4) (N := some 108) (v := ?_) (a' := ?_) (Qbz 28 31) rfl rfl (by kernel_rfl) (fun _ _ _ h => h) (Or.inl ⟨by rfl, ?_⟩) ?_ ?_
              rotate_left
              ·intro w'
               go_simp
               with_reducible rfl
              rotate_left
              ·simp only [Act.put, Qp1, Qp2, Qp3, i64_w, i32_w]
               rfl
              refine pure_ (i := 5) (N := some 109) (v := ?_) (a' := ?_) (Qbz 28 63) rfl rfl (by kernel_rfl) (fun _ _ _ h => h) (Or.inl ⟨by rfl, ?_⟩) ?_ ?_
              rotate_left
              ·intro w'
               go_simp
               with_reducible rfl
              rotate_left
              ·simp only [Act.put, Qp1, Qp2, Qp3, i64_w, i32_w]
               rfl
              refine pure_ (i := 6) (N := some 110) (v := undef) (a' := ?_) (Qbz 28 127) rfl rfl (by kernel_rfl) (fun _ _ _ h => h) (Or.inr ⟨by rfl, rfl⟩) ?_ ?_
              rotate_left
              ·simp only [Act.put, Qp1, Qp2, Qp3, i64_w, i32_w]
               rfl
              refine pure_ (i := 7) (N := some 111) (v := undef) (a' := ?_) (Qbz 28 255) rfl rfl (by kernel_rfl) (fun _ _ _ h => h) (Or.inr ⟨by rfl, rfl⟩) ?_ ?_
              rotate_left
              ·simp only [Act.put, Qp1, Qp2, Qp3, i64_w, i32_w]
               rfl
              refine pure_ (i := 8) (N := some 112) (v := undef) (a' := ?_) (Qbz 28 511) rfl rfl (by kernel_rfl) (fun _ _ _ h => h) (Or.inr ⟨by rfl, rfl⟩) ?_ ?_
              rotate_left
              ·simp only [Act.put, Qp1, Qp2, Qp3, i64_w, i32_w]
               rfl
              refine pure_ (i := 9) (N := some 113) (v := undef) (a' := ?_) (Qbz 28 1023) rfl rfl (by kernel_rfl) (fun _ _ _ h => h) (Or.inr ⟨by rfl, rfl⟩) ?_ ?_
              rotate_left
              ·simp only [Act.put, Qp1, Qp2, Qp3, i64_w, i32_w]
               rfl
              refine pure_ (i := 10) (N := some 114) (v := undef) (a' := ?_) (Qbz 28 2047) rfl rfl (by kernel_rfl) (fun _ _ _ h => h) (Or.inr ⟨by rfl, rfl⟩) ?_ ?_
              rotate_left
              ·simp only [Act.put, Qp1, Qp2, Qp3, i64_w, i32_w]
               rfl
              refine pure_ (i := 11) (N := some 115) (v := undef) (a' := ?_) (Qbz 28 4095) rfl rfl (by kernel_rfl) (fun _ _ _ h => h) (Or.inr ⟨by rfl, rfl⟩) ?_ ?_
              rotate_left
              ·simp only [Act.put, Qp1, Qp2, Qp3, i64_w, i32_w]
               rfl
              refine pure_ (i := 12) (N := some 116) (v := undef) (a' := ?_) (Qbz 28 8191) rfl rfl (by kernel_rfl) (fun _ _ _ h => h) (Or.inr ⟨by rfl, rfl⟩) ?_ ?_
              rotate_left
              ·simp only [Act.put, Qp1, Qp2, Qp3, i64_w, i32_w]
               rfl
              refine pure_ (i := 13) (N := some 117) (v := undef) (a' := ?_) (Qbz 28 16383) rfl rfl (by kernel_rfl) (fun _ _ _ h => h) (Or.inr ⟨by rfl, rfl⟩) ?_ ?_
              rotate_left
              ·simp only [Act.put, Qp1, Qp2, Qp3, i64_w, i32_w]
               rfl
              refine pure_ (i := 14) (N := some 118) (v := undef) (a' := ?_) (Qbz 28 32767) rfl rfl (by kernel_rfl) (fun _ _ _ h => h) (Or.inr ⟨by rfl, rfl⟩) ?_ ?_
              rotate_left
              ·simp only [Act.put, Qp1, Qp2, Qp3, i64_w, i32_w]
               rfl
              refine pure_ (i := 15) (N := some 119) (v := undef) (a' := ?_) (Qbz 28 65535) rfl rfl (by kernel_rfl) (fun _ _ _ h => h) (Or.inr ⟨by rfl, rfl⟩) ?_ ?_
              rotate_left
              ·simp only [Act.put, Qp1, Qp2, Qp3, i64_w, i32_w]
               rfl
              refine pure_ (i := 16) (N := some 120) (v := undef) (a' := ?_) (Qbz 28 131071) rfl rfl (by kernel_rfl) (fun _ _ _ h => h) (Or.inr ⟨by rfl, rfl⟩) ?_ ?_
              rotate_left
              ·simp only [Act.put, Qp1, Qp2, Qp3, i64_w, i32_w]
               rfl
              refine pure_ (i := 17) (N := some 121) (v := undef) (a' := ?_) (Qbz 28 262143) rfl rfl (by kernel_rfl) (fun _ _ _ h => h) (Or.inr ⟨by rfl, rfl⟩) ?_ ?_
              rotate_left
              ·simp only [Act.put, Qp1, Qp2, Qp3, i64_w, i32_w]
               rfl
              refine pure_ (i := 18) (N := some 122) (v := undef) (a' := ?_) (Qbz 28 524287) rfl rfl (by kernel_rfl) (fun _ _ _ h => h) (Or.inr ⟨by rfl, rfl⟩) ?_ ?_
              rotate_left
              ·simp only [Act.put, Qp1, Qp2, Qp3, i64_w, i32_w]
               rfl
              refine pure_ (i := 19) (N := some 123) (v := undef) (a' := ?_) (Qbz 28 1048575) rfl rfl (by kernel_rfl) (fun _ _ _ h => h) (Or.inr ⟨by rfl, rfl⟩) ?_ ?_
              rotate_left
              ·simp only [Act.put, Qp1, Qp2, Qp3, i64_w, i32_w]
               rfl
              refine pure_ (i := 20) (N := some 124) (v := undef) (a' := ?_) (Qbz 28 2097151) rfl rfl (by kernel_rfl) (fun _ _ _ h => h) (Or.inr ⟨by rfl, rfl⟩) ?_ ?_
              rotate_left
              ·simp only [Act.put, Qp1, Qp2, Qp3, i64_w, i32_w]
               rfl
              refine pure_ (i := 21) (N := some 125) (v := undef) (a' := ?_) (Qbz 28 4194303) rfl rfl (by kernel_rfl) (fun _ _ _ h => h) (Or.inr ⟨by rfl, rfl⟩) ?_ ?_
              rotate_left
              ·simp only [Act.put, Qp1, Qp2, Qp3, i64_w, i32_w]
               rfl
              refine pure_ (i := 22) (N := some 126) (v := undef) (a' := ?_) (Qbz 28 8388607) rfl rfl (by kernel_rfl) (fun _ _ _ h => h) (Or.inr ⟨by rfl, rfl⟩) ?_ ?_
              rotate_left
              ·simp only [Act.put, Qp1, Qp2, Qp3, i64_w, i32_w]
               rfl
              refine pure_ (i := 23) (N := some 127) (v := undef) (a' := ?_) (Qbz 28 16777215) rfl rfl (by kernel_rfl) (fun _ _ _ h => h) (Or.inr ⟨by rfl, rfl⟩) ?_ ?_
              rotate_left
              ·simp only [Act.put, Qp1, Qp2, Qp3, i64_w, i32_w]
               rfl
              refine pure_ (i := 24) (N := some 128) (v := undef) (a' := ?_) (Qbz 28 33554431) rfl rfl (by kernel_rfl) (fun _ _ _ h => h) (Or.inr ⟨by rfl, rfl⟩) ?_ ?_
              rotate_left
              ·simp only [Act.put, Qp1, Qp2, Qp3, i64_w, i32_w]
               rfl
              refine pure_ (i := 25) (N := some 129) (v := undef) (a' := ?_) (Qbz 28 67108863) rfl rfl (by kernel_rfl) (fun _ _ _ h => h) (Or.inr ⟨by rfl, rfl⟩) ?_ ?_
              rotate_left
              ·simp only [Act.put, Qp1, Qp2, Qp3, i64_w, i32_w]
               rfl
              refine pure_ (i := 26) (N := some 130) (v := undef) (a' := ?_) (Qbz 28 134217727) rfl rfl (by kernel_rfl) (fun _ _ _ h => h) (Or.inr ⟨by rfl, rfl⟩) ?_ ?_
              rotate_left
              ·simp only [Act.put, Qp1, Qp2, Qp3, i64_w, i32_w]
               rfl
              refine pure_ (i := 27) (N := some 131) (v := ?_) (a' := ?_) (Qbz 28 268435455) rfl rfl (by kernel_rfl) (fun _ _ _ h => h) (Or.inl ⟨by rfl, ?_⟩) ?_ ?_
              rotate_left
              ·intro w'
               go_simp
               with_reducible rfl
              rotate_left
              ·simp only [Act.put, Qp1, Qp2, Qp3, i64_w, i32_w]
               rfl
              refine done_ (by kernel_rfl) ?_
              go_wp2
              go_roundg gx
              case measure => omega
              case rel => exact ⟨i + 1, t, rfl, by go_num, by omega, ⟨HT4.out, by omega⟩, ⟨below_drew HB.out⟩⟩
             ·rw [hbt] at hJ4 ht
              by_cases hp0 : p < 0
              ·have hd1' : decide (p < 0) = true := decide_eq_true hp0
               rw [hd1'] at ht
               have HT4 : Aside0 (topsF B P v gx (i + 1) (t + 1) = TP) := ⟨by simpa using ht⟩
               clear ht hbt hcB hp0
               go_wp2_with (fail)
               refine start_ (n := 28) (S := fun w' => w'.cell? ⟨vB, 0, none⟩ = some (.int .i64 (v : Int)) ∧ w'.cell? ⟨xB, 1, none⟩ = some (.slice (some adP) P.length c1) ∧ w'.cell? (adP.add i) = some (.int .i64 p)) (ds := []) (Qbz 28 0) (by kernel_rfl) rfl rfl ⟨fvd, f1d, fpd⟩ (fun hHeld => ?_)
               refine pure_ (i := 0) (N := some 104) (v := ?_) (a' := ?_) (Qbz 28 1) rfl rfl (by kernel_rfl) (fun _ _ _ h => h) (Or.inl ⟨by rfl, ?_⟩) ?_ ?_
               rotate_left
               ·intro w'
                go_simp
                with_reducible rfl
               rotate_left
               ·simp only [Act.put, Qp1, Qp2, Qp3, i64_w, i32_w]
                rfl
               refine take_ (i := 1) (N := some 105) (v := ?_) (a' := ?_) (Qbz 28 3) rfl rfl (by kernel_rfl) (fun _ _ _ h => h) (Or.inl ⟨by rfl, ?_⟩) hHeld ?_ ?_
               rotate_left
               ·rintro w' ⟨s0, s1, s2⟩
                go_simp
                with_reducible rfl
               rotate_left
               ·simp only [Act.put, Qp1, Qp2, Qp3, i64_w, i32_w]
                rfl
               refine pure_ (i := 2) (N := some 106) (v := ?_) (a' := ?_) (Qbz 28 7) rfl rfl (by kernel_rfl) (fun _ _ _ h => h) (Or.inl ⟨by rfl, ?_⟩) ?_ ?_
               rotate_left
               ·intro w'
                go_simp
                with_reducible rfl
               rotate_left
               ·simp only [Act.put, Qp1, Qp2, Qp3, i64_w, i32_w]
                rfl
               refine pure_ (i := 3) (N := some 107) (v := ?_) (a' := ?_) (Qbz 28 15) rfl rfl (by kernel_rfl) (fun _ _ _ h => h) (Or.inl ⟨by rfl, ?_⟩) ?_ ?_
               rotate_left
               ·intro w'
                go_simp
                with_reducible rfl
               rotate_left
               ·simp only [Act.put, Qp1, Qp2, Qp3, i64_w, i32_w]
                rfl
               refine pure_ (i := 4) (N := some 108) (v := ?_) (a' := ?_) (Qbz 28 31) rfl rfl (by kernel_rfl) (fun _ _ _ h => h) (Or.inl ⟨by rfl, ?_⟩) ?_ ?_
               rotate_left
               ·intro w'
                go_simp
                with_reducible rfl
               rotate_left
               ·simp only [Act.put, Qp1, Qp2, Qp3, i64_w, i32_w]
                rfl
               refine pure_ (i := 5) (N := some 109) (v := ?_) (a' := ?_) (Qbz 28 63) rfl rfl (by kernel_rfl) (fun _ _ _ h => h) (Or.inl ⟨by rfl, ?_⟩) ?_ ?_
               rotate_left
               ·intro w'
                go_simp
                with_reducible rfl
               rotate_left
               ·simp only [Act.put, Qp1, Qp2, Qp3, i64_w, i32_w]
                rfl
               refine pure_ (i := 6) (N := some 110) (v := ?_) (a' := ?_) (Qbz 28 127) rfl rfl (by kernel_rfl) (fun _ _ _ h => h) (Or.inl ⟨by rfl, ?_⟩) ?_ ?_
               rotate_left
               ·intro w'
                go_simp
                with_reducible rfl
               rotate_left
               ·simp only [Act.put, Qp1, Qp2, Qp3, i64_w, i32_w]
                rfl
               refine pure_ (i := 8) (N := some 112) (v := ?_) (a' := ?_) (Qbz 28 383) rfl rfl (by kernel_rfl) (fun _ _ _ h => h) (Or.inl ⟨by rfl, ?_⟩) ?_ ?_
               rotate_left
               ·intro w'
                go_simp
                with_reducible rfl
               rotate_left
               ·simp only [Act.put, Qp1, Qp2, Qp3, i64_w, i32_w]
                rfl
               refine take_ (i := 7) (N := some 111) (v := ?_) (a' := ?_) (Qbz 28 511) rfl rfl (by kernel_rfl) (fun _ _ _ h => h) (Or.inl ⟨by rfl, ?_⟩) hHeld ?_ ?_
               rotate_left
               ·rintro w' ⟨s0, s1, s2⟩
                go_simp
                with_reducible rfl
               rotate_left
               ·simp only [Act.put, Qp1, Qp2, Qp3, i64_w, i32_w]
                rfl
               refine pure_ (i := 9) (N := some 113) (v := ?_) (a' := ?_) (Qbz 28 1023) rfl rfl (by kernel_rfl) (fun _ _ _ h => h) (Or.inl ⟨by rfl, ?_⟩) ?_ ?_
               rotate_left
               ·intro w'
                go_simp
                with_reducible rfl
               rotate_left
               ·simp only [Act.put, Qp1, Qp2, Qp3, i64_w, i32_w]
                rfl
               refine take_ (i := 10) (N := some 114) (v := ?_) (a' := ?_) (Qbz 28 2047) rfl rfl (by kernel_rfl) (fun _ _ _ h => h) (Or.inl ⟨by rfl, ?_⟩) hHeld ?_ ?_
               rotate_left
               ·rintro w' ⟨s0, s1, s2⟩
                go_simp
                with_reducible rfl
               rotate_left
               ·simp only [Act.put, Qp1, Qp2, Qp3, i64_w, i32_w]
                rfl
               refine pure_ (i := 11) (N := some 115) (v := ?_) (a' := ?_) (Qbz 28 4095) rfl rfl (by kernel_rfl) (fun _ _ _ h => h) (Or.inl ⟨by rfl, ?_⟩) ?_ ?_
               rotate_left
               ·intro w'
                go_simp
                with_reducible rfl
               rotate_left
               ·simp only [Act.put, Qp1, Qp2, Qp3, i64_w, i32_w]
                rfl
               refine pure_ (i := 12) (N := some 116) (v := ?_) (a' := ?_) (Qbz 28 8191) rfl rfl (by kernel_rfl) (fun _ _ _ h => h) (Or.inl ⟨by rfl, ?_⟩) ?_ ?_
               rotate_left
               ·intro w'
                go_simp
                with_reducible rfl
               rotate_left
               ·simp only [Act.put, Qp1, Qp2, Qp3, i64_w, i32_w]
                rfl
               refine pure_ (i := 13) (N := some 117) (v := undef) (a' := ?_) (Qbz 28 16383) rfl rfl (by kernel_rfl) (fun _ _ _ h => h) (Or.inr ⟨by rfl, rfl⟩) ?_ ?_
               rotate_left
               ·simp only [Act.put, Qp1, Qp2, Qp3, i64_w, i32_w]
                rfl
               refine pure_ (i := 14) (N := some 118) (v := undef) (a' := ?_) (Qbz 28 32767) rfl rfl (by kernel_rfl) (fun _ _ _ h => h) (Or.inr ⟨by rfl, rfl⟩) ?_ ?_
               rotate_left
               ·simp only [Act.put, Qp1, Qp2, Qp3, i64_w, i32_w]
                rfl
               refine pure_ (i := 15) (N := some 119) (v := undef) (a' := ?_) (Qbz 28 65535) rfl rfl (by kernel_rfl) (fun _ _ _ h => h) (Or.inr ⟨by rfl, rfl⟩) ?_ ?_
               rotate_left
               ·simp only [Act.put, Qp1, Qp2, Qp3, i64_w, i32_w]
                rfl
               refine pure_ (i := 16) (N := some 120) (v := undef) (a' := ?_) (Qbz 28 131071) rfl rfl (by kernel_rfl) (fun _ _ _ h => h) (Or.inr ⟨by rfl, rfl⟩) ?_ ?_
               rotate_left
               ·simp only [Act.put, Qp1, Qp2, Qp3, i64_w, i32_w]
                rfl
               refine pure_ (i := 17) (N := some 121) (v := undef) (a' := ?_) (Qbz 28 262143) rfl rfl (by kernel_rfl) (fun _ _ _ h => h) (Or.inr ⟨by rfl, rfl⟩) ?_ ?_
               rotate_left
               ·simp only [Act.put, Qp1, Qp2, Qp3, i64_w, i32_w]
                rfl
               refine pure_ (i := 18) (N := some 122) (v := undef) (a' := ?_) (Qbz 28 524287) rfl rfl (by kernel_rfl) (fun _ _ _ h => h) (Or.inr ⟨by rfl, rfl⟩) ?_ ?_
               rotate_left
               ·simp only [Act.put, Qp1, Qp2, Qp3, i64_w, i32_w]
                rfl
               refine pure_ (i := 19) (N := some 123) (v := undef) (a' := ?_) (Qbz 28 1048575) rfl rfl (by kernel_rfl) (fun _ _ _ h => h) (Or.inr ⟨by rfl, rfl⟩) ?_ ?_
               rotate_left
               ·simp only [Act.put, Qp1, Qp2, Qp3, i64_w, i32_w]
                rfl
               refine pure_ (i := 20) (N := some 124) (v := undef) (a' := ?_) (Qbz 28 2097151) rfl rfl (by kernel_rfl) (fun _ _ _ h => h) (Or.inr ⟨by rfl, rfl⟩) ?_ ?_
               rotate_left
               ·simp only [Act.put, Qp1, Qp2, Qp3, i64_w, i32_w]
                rfl
               refine pure_ (i := 21) (N := some 125) (v := undef) (a' := ?_) (Qbz 28 4194303) rfl rfl (by kernel_rfl) (fun _ _ _ h => h) (Or.inr ⟨by rfl, rfl⟩) ?_ ?_
               rotate_left
               ·simp only [Act.put, Qp1, Qp2, Qp3, i64_w, i32_w]
                rfl
               refine pure_ (i := 22) (N := some 126) (v := undef) (a' := ?_) (Qbz 28 8388607) rfl rfl (by kernel_rfl) (fun _ _ _ h => h) (Or.inr ⟨by rfl, rfl⟩) ?_ ?_
               rotate_left
               ·simp only [Act.put, Qp1, Qp2, Qp3, i64_w, i32_w]
                rfl
               refine pure_ (i := 23) (N := some 127) (v := undef) (a' := ?_) (Qbz 28 16777215) rfl rfl (by kernel_rfl) (fun _ _ _ h => h) (Or.inr ⟨by rfl, rfl⟩) ?_ ?_
               rotate_left
               ·simp only [Act.put, Qp1, Qp2, Qp3, i64_w, i32_w]
                rfl
               refine pure_ (i := 24) (N := some 128) (v := undef) (a' := ?_) (Qbz 28 33554431) rfl rfl (by kernel_rfl) (fun _ _ _ h => h) (Or.inr ⟨by rfl, rfl⟩) ?_ ?_
               rotate_left
               ·simp only [Act.put, Qp1, Qp2, Qp3, i64_w, i32_w]
                rfl
               refine pure_ (i := 25) (N := some 129) (v := undef) (a' := ?_) (Qbz 28 67108863) rfl rfl (by kernel_rfl) (fun _ _ _ h => h) (Or.inr ⟨by rfl, rfl⟩) ?_ ?_
               rotate_left
               ·simp only [Act.put, Qp1, Qp2, Qp3, i64_w, i32_w]
                rfl
               refine pure_ (i := 26) (N := some 130) (v := ?_) (a' := ?_) (Qbz 28 134217727) rfl rfl (by kernel_rfl) (fun _ _ _ h => h) (Or.inl ⟨by rfl, ?_⟩) ?_ ?_
               rotate_left
               ·intro w'
                go_simp
                with_reducible rfl
               rotate_left
               ·simp only [Act.put, Qp1, Qp2, Qp3, i64_w, i32_w]
                rfl
               refine pure_ (i := 27) (N := some 131) (v := ?_) (a' := ?_) (Qbz 28 268435455) rfl rfl (by kernel_rfl) (fun _ _ _ h => h) (Or.inl ⟨by rfl, ?_⟩) ?_ ?_
               rotate_left
               ·intro w'
                go_simp
                with_reducible rfl
               rotate_left
               ·simp only [Act.put, Qp1, Qp2, Qp3, i64_w, i32_w]
                rfl
               refine done_ (by kernel_rfl) ?_
               go_wp2
               go_roundg gx
               case measure => omega
               case rel => exact ⟨i + 1, t + 1, by go_num, by go_num, by omega, ⟨HT4.out, by omega⟩, ⟨below_drew HB.out⟩⟩
              ·have hd1' : decide (p < 0) = false := decide_eq_false hp0
               rw [hd1'] at ht
               obtain ⟨pn, rfl⟩ := Int.eq_ofNat_of_zero_le (show 0 ≤ p by omega)
               have hpn : pn < B.length := by omega
               obtain ⟨hm1, hm2, hm3, hm4⟩ := HOK2.out pn hpn
               obtain ⟨adB'', e3, hgc⟩ := Kd.at_int hcB (pn : Int) (by omega) (by omega)
               injection e3 with e3
               subst e3
               rw [Int.toNat_natCast] at hgc
               obtain ⟨cn, hcn⟩ := Int.eq_ofNat_of_zero_le hm3
               rw [hcn] at hgc ht hm4
               have hcn7 : cn < 512 := by omega
               have fcd : wr.drew.cell? (adB.add pn) = some (.int .i64 (cn : Int)) := hgc
               have hci : bitI (cn : Int) v = cn.testBit v := rfl
               rw [hci] at ht
               obtain ⟨J2, hK1, hK2, hK3, hK4, hK5⟩ := bitJT cn v (by omega) (by omega)
               have hp5 : ((pn : Int) < (B.length : Int)) = True := eq_true (by omega)
               have hp6 : decide ((pn : Int) < (B.length : Int)) = true := decide_eq_true (by omega)
               have hd1n : decide ((pn : Int) < 0) = false := hd1'
               clear hm1 hm2 hm3 hcn hci hK3 hK4 hcB hbt hp0
               cases hct : cn.testBit v
               ·rw [hct] at hK5 ht
                have HT4 : Aside0 (topsF B P v gx (i + 1) (t + 1) = TP) := ⟨by simpa using ht⟩
                clear ht hct
                go_wp2_with (fail)
                refine start_ (n := 28) (S := fun w' => w'.cell? ⟨vB, 0, none⟩ = some (.int .i64 (v : Int)) ∧ w'.cell? ⟨xB, 0, none⟩ = some (.slice (some adB) B.length c0) ∧ w'.cell? ⟨xB, 1, none⟩ = some (.slice (some adP) P.length c1) ∧ w'.cell? (adP.add i) = some (.int .i64 (pn : Int)) ∧ w'.cell? (adB.add pn) = some (.int .i64 (cn : Int))) (ds := []) (Qbz 28 0) (by kernel_rfl) rfl rfl ⟨fvd, f0d, f1d, fpd, fcd⟩ (fun hHeld => ?_)
                refine pure_ (i := 0) (N := some 104) (v := ?_) (a' := ?_) (Qbz 28 1) rfl rfl (by kernel_rfl) (fun _ _ _ h => h) (Or.inl ⟨by rfl, ?_⟩) ?_ ?_
                rotate_left
                ·intro w'
                 go_simp
                 with_reducible rfl
                rotate_left
                ·simp only [Act.put, Qp1, Qp2, Qp3, i64_w, i32_w]
                 rfl
                refine take_ (i := 1) (N := some 105) (v := ?_) (a' := ?_) (Qbz 28 3) rfl rfl (by kernel_rfl) (fun _ _ _ h => h) (Or.inl ⟨by rfl, ?_⟩) hHeld ?_ ?_
                rotate_left
                ·rintro w' ⟨s0, s1, s2, s3, s4⟩
                 go_simp
                 with_reducible rfl
                rotate_left
                ·simp only [Act.put, Qp1, Qp2, Qp3, i64_w, i32_w]
                 rfl
                refine pure_ (i := 2) (N := some 106) (v := ?_) (a' := ?_) (Qbz 28 7) rfl rfl (by kernel_rfl) (fun _ _ _ h => h) (Or.inl ⟨by rfl, ?_⟩) ?_ ?_
                rotate_left
                ·intro w'
                 go_simp
                 with_reducible rfl
                rotate_left
                ·simp only [Act.put, Qp1, Qp2, Qp3, i64_w, i32_w]
                 rfl
                refine pure_ (i := 3) (N := some 107) (v := ?_) (a' := ?_) (Qbz 28 15) rfl rfl (by kernel_rfl) (fun _ _ _ h => h) (Or.inl ⟨by rfl, ?_⟩) ?_ ?_
                rotate_left
                ·intro w'
                 go_simp
                 with_reducible rfl
                rotate_left
                ·simp only [Act.put, Qp1, Qp2, Qp3, i64_w, i32_w]
                 rfl
                refine pure_ (i := 4) (N := some 108) (v := ?_) (a' := ?_) (Qbz 28 31) rfl rfl (by kernel_rfl) (fun _ _ _ h => h) (Or.inl ⟨by rfl, ?_⟩) ?_ ?_
                rotate_left
                ·intro w'
                 go_simp
                 with_reducible rfl
                rotate_left
                ·simp only [Act.put, Qp1, Qp2, Qp3, i64_w, i32_w]
                 rfl
                refine pure_ (i := 5) (N := some 109) (v := ?_) (a' := ?_) (Qbz 28 63) rfl rfl (by kernel_rfl) (fun _ _ _ h => h) (Or.inl ⟨by rfl, ?_⟩) ?_ ?_
                rotate_left
                ·intro w'
                 go_simp
                 with_reducible rfl
                rotate_left
                ·simp only [Act.put, Qp1, Qp2, Qp3, i64_w, i32_w]
                 rfl
                refine pure_ (i := 6) (N := some 110) (v := ?_) (a' := ?_) (Qbz 28 127) rfl rfl (by kernel_rfl) (fun _ _ _ h => h) (Or.inl ⟨by rfl, ?_⟩) ?_ ?_
                rotate_left
                ·intro w'
                 go_simp
                 with_reducible rfl
                rotate_left
                ·simp only [Act.put, Qp1, Qp2, Qp3, i64_w, i32_w]
                 rfl
                refine pure_ (i := 8) (N := some 112) (v := ?_) (a' := ?_) (Qbz 28 383) rfl rfl (by kernel_rfl) (fun _ _ _ h => h) (Or.inl ⟨by rfl, ?_⟩) ?_ ?_
                rotate_left
                ·intro w'
                 go_simp
                 with_reducible rfl
                rotate_left
                ·simp only [Act.put, Qp1, Qp2, Qp3, i64_w, i32_w]
                 rfl
                refine take_ (i := 7) (N := some 111) (v := ?_) (a' := ?_) (Qbz 28 511) rfl rfl (by kernel_rfl) (fun _ _ _ h => h) (Or.inl ⟨by rfl, ?_⟩) hHeld ?_ ?_
                rotate_left
                ·rintro w' ⟨s0, s1, s2, s3, s4⟩
                 go_simp
                 with_reducible rfl
                rotate_left
                ·simp only [Act.put, Qp1, Qp2, Qp3, i64_w, i32_w]
                 rfl
                refine pure_ (i := 9) (N := some 113) (v := ?_) (a' := ?_) (Qbz 28 1023) rfl rfl (by kernel_rfl) (fun _ _ _ h => h) (Or.inl ⟨by rfl, ?_⟩) ?_ ?_
                rotate_left
                ·intro w'
                 go_simp
                 with_reducible rfl
                rotate_left
                ·simp only [Act.put, Qp1, Qp2, Qp3, i64_w, i32_w]
                 rfl
                refine take_ (i := 10) (N := some 114) (v := ?_) (a' := ?_) (Qbz 28 2047) rfl rfl (by kernel_rfl) (fun _ _ _ h => h) (Or.inl ⟨by rfl, ?_⟩) hHeld ?_ ?_
                rotate_left
                ·rintro w' ⟨s0, s1, s2, s3, s4⟩
                 go_simp
                 with_reducible rfl
                rotate_left
                ·simp only [Act.put, Qp1, Qp2, Qp3, i64_w, i32_w]
                 rfl
                refine pure_ (i := 11) (N := some 115) (v := ?_) (a' := ?_) (Qbz 28 4095) rfl rfl (by kernel_rfl) (fun _ _ _ h => h) (Or.inl ⟨by rfl, ?_⟩) ?_ ?_
                rotate_left
                ·intro w'
                 go_simp
                 with_reducible rfl
                rotate_left
                ·simp only [Act.put, Qp1, Qp2, Qp3, i64_w, i32_w]
                 rfl
                refine pure_ (i := 12) (N := some 116) (v := ?_) (a' := ?_) (Qbz 28 8191) rfl rfl (by kernel_rfl) (fun _ _ _ h => h) (Or.inl ⟨by rfl, ?_⟩) ?_ ?_
                rotate_left
                ·intro w'
                 go_simp
                 with_reducible rfl
                rotate_left
                ·simp only [Act.put, Qp1, Qp2, Qp3, i64_w, i32_w]
                 rfl
                refine pure_ (i := 13) (N := some 117) (v := ?_) (a' := ?_) (Qbz 28 16383) rfl rfl (by kernel_rfl) (fun _ _ _ h => h) (Or.inl ⟨by rfl, ?_⟩) ?_ ?_
                rotate_left
                ·intro w'
                 go_simp
                 with_reducible rfl
                rotate_left
                ·simp only [Act.put, Qp1, Qp2, Qp3, i64_w, i32_w]
                 rfl
                refine pure_ (i := 15) (N := some 119) (v := ?_) (a' := ?_) (Qbz 28 49151) rfl rfl (by kernel_rfl) (fun _ _ _ h => h) (Or.inl ⟨by rfl, ?_⟩) ?_ ?_
                rotate_left
                ·intro w'
                 go_simp
                 with_reducible rfl
                rotate_left
                ·simp only [Act.put, Qp1, Qp2, Qp3, i64_w, i32_w]
                 rfl
                refine pure_ (i := 17) (N := some 121) (v := ?_) (a' := ?_) (Qbz 28 180223) rfl rfl (by kernel_rfl) (fun _ _ _ h => h) (Or.inl ⟨by rfl, ?_⟩) ?_ ?_
                rotate_left
                ·intro w'
                 go_simp
                 with_reducible rfl
                rotate_left
                ·simp only [Act.put, Qp1, Qp2, Qp3, i64_w, i32_w]
                 rfl
                refine take_ (i := 14) (N := some 118) (v := ?_) (a' := ?_) (Qbz 28 196607) rfl rfl (by kernel_rfl) (fun _ _ _ h => h) (Or.inl ⟨by rfl, ?_⟩) hHeld ?_ ?_
                rotate_left
                ·rintro w' ⟨s0, s1, s2, s3, s4⟩
                 go_simp
                 with_reducible rfl
                rotate_left
                ·simp only [Act.put, Qp1, Qp2, Qp3, i64_w, i32_w]
                 rfl
                refine take_ (i := 16) (N := some 120) (v := ?_) (a' := ?_) (Qbz 28 262143) rfl rfl (by kernel_rfl) (fun _ _ _ h => h) (Or.inl ⟨by rfl, ?_⟩) hHeld ?_ ?_
                rotate_left
                ·rintro w' ⟨s0, s1, s2, s3, s4⟩
                 go_simp
                 with_reducible rfl
                rotate_left
                ·simp only [Act.put, Qp1, Qp2, Qp3, i64_w, i32_w]
                 rfl
                refine pure_ (i := 18) (N := some 122) (v := ?_) (a' := ?_) (Qbz 28 524287) rfl rfl (by kernel_rfl) (fun _ _ _ h => h) (Or.inl ⟨by rfl, ?_⟩) ?_ ?_
                rotate_left
                ·intro w'
                 go_simp
                 with_reducible rfl
                rotate_left
                ·simp only [Act.put, Qp1, Qp2, Qp3, i64_w, i32_w]
                 rfl
                refine take_ (i := 19) (N := some 123) (v := ?_) (a' := ?_) (Qbz 28 1048575) rfl rfl (by kernel_rfl) (fun _ _ _ h => h) (Or.inl ⟨by rfl, ?_⟩) hHeld ?_ ?_
                rotate_left
                ·rintro w' ⟨s0, s1, s2, s3, s4⟩
                 go_simp
                 with_reducible rfl
                rotate_left
                ·simp only [Act.put, Qp1, Qp2, Qp3, i64_w, i32_w]
                 rfl
                refine pure_ (i := 20) (N := some 124) (v := ?_) (a' := ?_) (Qbz 28 2097151) rfl rfl (by kernel_rfl) (fun _ _ _ h => h) (Or.inl ⟨by rfl, ?_⟩) ?_ ?_
                rotate_left
                ·intro w'
                 go_simp
                 with_reducible rfl
                rotate_left
                ·simp only [Act.put, Qp1, Qp2, Qp3, i64_w, i32_w]
                 rfl
                refine take_ (i := 21) (N := some 125) (v := ?_) (a' := ?_) (Qbz 28 4194303) rfl rfl (by kernel_rfl) (fun _ _ _ h => h) (Or.inl ⟨by rfl, ?_⟩) hHeld ?_ ?_
                rotate_left
                ·rintro w' ⟨s0, s1, s2, s3, s4⟩
                 go_simp
                 with_reducible rfl
                rotate_left
                ·simp only [Act.put, Qp1, Qp2, Qp3, i64_w, i32_w]
                 rfl
                refine take_ (i := 22) (N := some 126) (v := ?_) (a' := ?_) (Qbz 28 8388607) rfl rfl (by kernel_rfl) (fun _ _ _ h => h) (Or.inl ⟨by rfl, ?_⟩) hHeld ?_ ?_
                rotate_left
                ·rintro w' ⟨s0, s1, s2, s3, s4⟩
                 go_simp
                 with_reducible rfl
                rotate_left
                ·simp only [Act.put, Qp1, Qp2, Qp3, i64_w, i32_w]
                 rfl
                refine pure_ (i := 23) (N := some 127) (v := ?_) (a' := ?_) (Qbz 28 16777215) rfl rfl (by kernel_rfl) (fun _ _ _ h => h) (Or.inl ⟨by rfl, ?_⟩) ?_ ?_
                rotate_left
                ·intro w'
                 go_simp
                 with_reducible rfl
                rotate_left
                ·simp only [Act.put, Qp1, Qp2, Qp3, i64_w, i32_w]
                 rfl
                refine pure_ (i := 24) (N := some 128) (v := ?_) (a' := ?_) (Qbz 28 33554431) rfl rfl (by kernel_rfl) (fun _ _ _ h => h) (Or.inl ⟨by rfl, ?_⟩) ?_ ?_
                rotate_left
                ·intro w'
                 go_simp
                 with_reducible rfl
                rotate_left
                ·simp only [Act.put, Qp1, Qp2, Qp3, i64_w, i32_w]
                 rfl
                refine pure_ (i := 25) (N := some 129) (v := ?_) (a' := ?_) (Qbz 28 67108863) rfl rfl (by kernel_rfl) (fun _ _ _ h => h) (Or.inl ⟨by rfl, ?_⟩) ?_ ?_
                rotate_left
                ·intro w'
                 go_simp
                 with_reducible rfl
                rotate_left
                ·simp only [Act.put, Qp1, Qp2, Qp3, i64_w, i32_w]
                 rfl
                refine pure_ (i := 26) (N := some 130) (v := ?_) (a' := ?_) (Qbz 28 134217727) rfl rfl (by kernel_rfl) (fun _ _ _ h => h) (Or.inl ⟨by rfl, ?_⟩) ?_ ?_
                rotate_left
                ·intro w'
                 go_simp
                 with_reducible rfl
                rotate_left
                ·simp only [Act.put, Qp1, Qp2, Qp3, i64_w, i32_w]
                 rfl
                refine pure_ (i := 27) (N := some 131) (v := ?_) (a' := ?_) (Qbz 28 268435455) rfl rfl (by kernel_rfl) (fun _ _ _ h => h) (Or.inl ⟨by rfl, ?_⟩) ?_ ?_
                rotate_left
                ·intro w'
                 go_simp
                 with_reducible rfl
                rotate_left
                ·simp only [Act.put, Qp1, Qp2, Qp3, i64_w, i32_w]
                 rfl
                refine done_ (by kernel_rfl) ?_
                go_wp2
                go_roundg gx
                case measure => omega
                case rel => exact ⟨i + 1, t + 1, by go_num, by go_num, by omega, ⟨HT4.out, by omega⟩, ⟨below_drew HB.out⟩⟩
               ·rw [hct] at hK5 ht
                have HT4 : Aside0 (topsF B P v gx (i + 1) t = TP) := ⟨by simpa using ht⟩
                clear ht hct
                go_wp2_with (fail)
                refine start_ (n := 28) (S := fun w' => w'.cell? ⟨vB, 0, none⟩ = some (.int .i64 (v : Int)) ∧ w'.cell? ⟨xB, 0, none⟩ = some (.slice (some adB) B.length c0) ∧ w'.cell? ⟨xB, 1, none⟩ = some (.slice (some adP) P.length c1) ∧ w'.cell? (adP.add i) = some (.int .i64 (pn : Int)) ∧ w'.cell? (adB.add pn) = some (.int .i64 (cn : Int))) (ds := []) (Qbz 28 0) (by kernel_rfl) rfl rfl ⟨fvd, f0d, f1d, fpd, fcd⟩ (fun hHeld => ?_)
                refine pure_ (i := 0) (N := some 104) (v := ?_) (a' := ?_) (Qbz 28 1) rfl rfl (by kernel_rfl) (fun _ _ _ h => h) (Or.inl ⟨by rfl, ?_⟩) ?_ ?_
                rotate_left
                ·intro w'
                 go_simp
                 with_reducible rfl
                rotate_left
                ·simp only [Act.put, Qp1, Qp2, Qp3, i64_w, i32_w]
                 rfl
                refine take_ (i := 1) (N := some 105) (v := ?_) (a' := ?_) (Qbz 28 3) rfl rfl (by kernel_rfl) (fun _ _ _ h => h) (Or.inl ⟨by rfl, ?_⟩) hHeld ?_ ?_
                rotate_left
                ·rintro w' ⟨s0, s1, s2, s3, s4⟩
                 go_simp
                 with_reducible rfl
                rotate_left
                ·simp only [Act.put, Qp1, Qp2, Qp3, i64_w, i32_w]
                 rfl
                refine pure_ (i := 2) (N := some 106) (v := ?_) (a' := ?_) (Qbz 28 7) rfl rfl (by kernel_rfl) (fun _ _ _ h => h) (Or.inl ⟨by rfl, ?_⟩) ?_ ?_
                rotate_left
                ·intro w'
                 go_simp
                 with_reducible rfl
                rotate_left
                ·simp only [Act.put, Qp1, Qp2, Qp3, i64_w, i32_w]
                 rfl
                refine pure_ (i := 3) (N := some 107) (v := ?_) (a' := ?_) (Qbz 28 15) rfl rfl (by kernel_rfl) (fun _ _ _ h => h) (Or.inl ⟨by rfl, ?_⟩) ?_ ?_
                rotate_left
                ·intro w'
                 go_simp
                 with_reducible rfl
                rotate_left
                ·simp only [Act.put, Qp1, Qp2, Qp3, i64_w, i32_w]
                 rfl
                refine pure_ (i := 4) (N := some 108) (v := ?_) (a' := ?_) (Qbz 28 31) rfl rfl (by kernel_rfl) (fun _ _ _ h => h) (Or.inl ⟨by rfl, ?_⟩) ?_ ?_
                rotate_left
                ·intro w'
                 go_simp
                 with_reducible rfl
                rotate_left
                ·simp only [Act.put, Qp1, Qp2, Qp3, i64_w, i32_w]
                 rfl
                refine pure_ (i := 5) (N := some 109) (v := ?_) (a' := ?_) (Qbz 28 63) rfl rfl (by kernel_rfl) (fun _ _ _ h => h) (Or.inl ⟨by rfl, ?_⟩) ?_ ?_
                rotate_left
                ·intro w'
                 go_simp
                 with_reducible rfl
                rotate_left
                ·simp only [Act.put, Qp1, Qp2, Qp3, i64_w, i32_w]
                 rfl
                refine pure_ (i := 6) (N := some 110) (v := ?_) (a' := ?_) (Qbz 28 127) rfl rfl (by kernel_rfl) (fun _ _ _ h => h) (Or.inl ⟨by rfl, ?_⟩) ?_ ?_
                rotate_left
                ·intro w'
                 go_simp
                 with_reducible rfl
                rotate_left
                ·simp only [Act.put, Qp1, Qp2, Qp3, i64_w, i32_w]
                 rfl
                refine pure_ (i := 8) (N := some 112) (v := ?_) (a' := ?_) (Qbz 28 383) rfl rfl (by kernel_rfl) (fun _ _ _ h => h) (Or.inl ⟨by rfl, ?_⟩) ?_ ?_
                rotate_left
                ·intro w'
                 go_simp
                 with_reducible rfl
                rotate_left
                ·simp only [Act.put, Qp1, Qp2, Qp3, i64_w, i32_w]
                 rfl
                refine take_ (i := 7) (N := some 111) (v := ?_) (a' := ?_) (Qbz 28 511) rfl rfl (by kernel_rfl) (fun _ _ _ h => h) (Or.inl ⟨by rfl, ?_⟩) hHeld ?_ ?_
                rotate_left
                ·rintro w' ⟨s0, s1, s2, s3, s4⟩
                 go_simp
                 with_reducible rfl
                rotate_left
                ·simp only [Act.put, Qp1, Qp2, Qp3, i64_w, i32_w]
                 rfl
                refine pure_ (i := 9) (N := some 113) (v := ?_) (a' := ?_) (Qbz 28 1023) rfl rfl (by kernel_rfl) (fun _ _ _ h => h) (Or.inl ⟨by rfl, ?_⟩) ?_ ?_
                rotate_left
                ·intro w'
                 go_simp
                 with_reducible rfl
                rotate_left
                ·simp only [Act.put, Qp1, Qp2, Qp3, i64_w, i32_w]
                 rfl
                refine take_ (i := 10) (N := some 114) (v := ?_) (a' := ?_) (Qbz 28 2047) rfl rfl (by kernel_rfl) (fun _ _ _ h => h) (Or.inl ⟨by rfl, ?_⟩) hHeld ?_ ?_
                rotate_left
                ·rintro w' ⟨s0, s1, s2, s3, s4⟩
                 go_simp
                 with_reducible rfl
                rotate_left
                ·simp only [Act.put, Qp1, Qp2, Qp3, i64_w, i32_w]
                 rfl
                refine pure_ (i := 11) (N := some 115) (v := ?_) (a' := ?_) (Qbz 28 4095) rfl rfl (by kernel_rfl) (fun _ _ _ h => h) (Or.inl ⟨by rfl, ?_⟩) ?_ ?_
                rotate_left
                ·intro w'
                 go_simp
                 with_reducible rfl
                rotate_left
                ·simp only [Act.put, Qp1, Qp2, Qp3, i64_w, i32_w]
                 rfl
                refine pure_ (i := 12) (N := some 116) (v := ?_) (a' := ?_) (Qbz 28 8191) rfl rfl (by kernel_rfl) (fun _ _ _ h => h) (Or.inl ⟨by rfl, ?_⟩) ?_ ?_
                rotate_left
                ·intro w'
                 go_simp
                 with_reducible rfl
                rotate_left
                ·simp only [Act.put, Qp1, Qp2, Qp3, i64_w, i32_w]
                 rfl
                refine pure_ (i := 13) (N := some 117) (v := ?_) (a' := ?_) (Qbz 28 16383) rfl rfl (by kernel_rfl) (fun _ _ _ h => h) (Or.inl ⟨by rfl, ?_⟩) ?_ ?_
                rotate_left
                ·intro w'
                 go_simp
                 with_reducible rfl
                rotate_left
                ·simp only [Act.put, Qp1, Qp2, Qp3, i64_w, i32_w]
                 rfl
                refine pure_ (i := 15) (N := some 119) (v := ?_) (a' := ?_) (Qbz 28 49151) rfl rfl (by kernel_rfl) (fun _ _ _ h => h) (Or.inl ⟨by rfl, ?_⟩) ?_ ?_
                rotate_left
                ·intro w'
                 go_simp
                 with_reducible rfl
                rotate_left
                ·simp only [Act.put, Qp1, Qp2, Qp3, i64_w, i32_w]
                 rfl
                refine pure_ (i := 17) (N := some 121) (v := ?_) (a' := ?_) (Qbz 28 180223) rfl rfl (by kernel_rfl) (fun _ _ _ h => h) (Or.inl ⟨by rfl, ?_⟩) ?_ ?_
                rotate_left
                ·intro w'
                 go_simp
                 with_reducible rfl
                rotate_left
                ·simp only [Act.put, Qp1, Qp2, Qp3, i64_w, i32_w]
                 rfl
                refine take_ (i := 14) (N := some 118) (v := ?_) (a' := ?_) (Qbz 28 196607) rfl rfl (by kernel_rfl) (fun _ _ _ h => h) (Or.inl ⟨by rfl, ?_⟩) hHeld ?_ ?_
                rotate_left
                ·rintro w' ⟨s0, s1, s2, s3, s4⟩
                 go_simp
                 with_reducible rfl
                rotate_left
                ·simp only [Act.put, Qp1, Qp2, Qp3, i64_w, i32_w]
                 rfl
                refine take_ (i := 16) (N := some 120) (v := ?_) (a' := ?_) (Qbz 28 262143) rfl rfl (by kernel_rfl) (fun _ _ _ h => h) (Or.inl ⟨by rfl, ?_⟩) hHeld ?_ ?_
                rotate_left
                ·rintro w' ⟨s0, s1, s2, s3, s4⟩
                 go_simp
                 with_reducible rfl
                rotate_left
                ·simp only [Act.put, Qp1, Qp2, Qp3, i64_w, i32_w]
                 rfl
                refine pure_ (i := 18) (N := some 122) (v := ?_) (a' := ?_) (Qbz 28 524287) rfl rfl (by kernel_rfl) (fun _ _ _ h => h) (Or.inl ⟨by rfl, ?_⟩) ?_ ?_
                rotate_left
                ·intro w'
                 go_simp
                 with_reducible rfl
                rotate_left
                ·simp only [Act.put, Qp1, Qp2, Qp3, i64_w, i32_w]
                 rfl
                refine take_ (i := 19) (N := some 123) (v := ?_) (a' := ?_) (Qbz 28 1048575) rfl rfl (by kernel_rfl) (fun _ _ _ h => h) (Or.inl ⟨by rfl, ?_⟩) hHeld ?_ ?_
                rotate_left
                ·rintro w' ⟨s0, s1, s2, s3, s4⟩
                 go_simp
                 with_reducible rfl
                rotate_left
                ·simp only [Act.put, Qp1, Qp2, Qp3, i64_w, i32_w]
                 rfl
                refine pure_ (i := 20) (N := some 124) (v := ?_) (a' := ?_) (Qbz 28 2097151) rfl rfl (by kernel_rfl) (fun _ _ _ h => h) (Or.inl ⟨by rfl, ?_⟩) ?_ ?_
                rotate_left
                ·intro w'
                 go_simp
                 with_reducible rfl
                rotate_left
                ·simp only [Act.put, Qp1, Qp2, Qp3, i64_w, i32_w]
                 rfl
                refine take_ (i := 21) (N := some 125) (v := ?_) (a' := ?_) (Qbz 28 4194303) rfl rfl (by kernel_rfl) (fun _ _ _ h => h) (Or.inl ⟨by rfl, ?_⟩) hHeld ?_ ?_
                rotate_left
                ·rintro w' ⟨s0, s1, s2, s3, s4⟩
                 go_simp
                 with_reducible rfl
                rotate_left
                ·simp only [Act.put, Qp1, Qp2, Qp3, i64_w, i32_w]
                 rfl
                refine take_ (i := 22) (N := some 126) (v := ?_) (a' := ?_) (Qbz 28 8388607) rfl rfl (by kernel_rfl) (fun _ _ _ h => h) (Or.inl ⟨by rfl, ?_⟩) hHeld ?_ ?_
                rotate_left
                ·rintro w' ⟨s0, s1, s2, s3, s4⟩
                 go_simp
                 with_reducible rfl
                rotate_left
                ·simp only [Act.put, Qp1, Qp2, Qp3, i64_w, i32_w]
                 rfl
                refine pure_ (i := 23) (N := some 127) (v := ?_) (a' := ?_) (Qbz 28 16777215) rfl rfl (by kernel_rfl) (fun _ _ _ h => h) (Or.inl ⟨by rfl, ?_⟩) ?_ ?_
                rotate_left
                ·intro w'
                 go_simp
                 with_reducible rfl
                rotate_left
                ·simp only [Act.put, Qp1, Qp2, Qp3, i64_w, i32_w]
                 rfl
                refine pure_ (i := 24) (N := some 128) (v := ?_) (a' := ?_) (Qbz 28 33554431) rfl rfl (by kernel_rfl) (fun _ _ _ h => h) (Or.inl ⟨by rfl, ?_⟩) ?_ ?_
                rotate_left
                ·intro w'
                 go_simp
                 with_reducible rfl
                rotate_left
                ·simp only [Act.put, Qp1, Qp2, Qp3, i64_w, i32_w]
                 rfl
                refine pure_ (i := 25) (N := some 129) (v := ?_) (a' := ?_) (Qbz 28 67108863) rfl rfl (by kernel_rfl) (fun _ _ _ h => h) (Or.inl ⟨by rfl, ?_⟩) ?_ ?_
                rotate_left
                ·intro w'
                 go_simp
                 with_reducible rfl
                rotate_left
                ·simp only [Act.put, Qp1, Qp2, Qp3, i64_w, i32_w]
                 rfl
                refine pure_ (i := 26) (N := some 130) (v := ?_) (a' := ?_) (Qbz 28 134217727) rfl rfl (by kernel_rfl) (fun _ _ _ h => h) (Or.inl ⟨by rfl, ?_⟩) ?_ ?_
                rotate_left
                ·intro w'
                 go_simp
                 with_reducible rfl
                rotate_left
                ·simp only [Act.put, Qp1, Qp2, Qp3, i64_w, i32_w]
                 rfl
                refine pure_ (i := 27) (N := some 131) (v := ?_) (a' := ?_) (Qbz 28 268435455) rfl rfl (by kernel_rfl) (fun _ _ _ h => h) (Or.inl ⟨by rfl, ?_⟩) ?_ ?_
                rotate_left
                ·intro w'
                 go_simp
                 with_reducible rfl
                rotate_left
                ·simp only [Act.put, Qp1, Qp2, Qp3, i64_w, i32_w]
                 rfl
                refine done_ (by kernel_rfl) ?_
                go_wp2
                go_roundg gx
                case measure => omega
                case rel => exact ⟨i + 1, t, rfl, by go_num, by omega, ⟨HT4.out, by omega⟩, ⟨below_drew HB.out⟩⟩
            ·have hi1 : ((i : Int) < (B.length : Int)) = False := eq_false (by omega)
             have hi2 : decide ((i : Int) < (B.length : Int)) = false := decide_eq_false (by omega)
             obtain rfl : gk = 0 := by omega
             obtain ⟨ht, hti⟩ := HT.out
             simp only [topsF] at ht
             subst ht
             have ht := HT3.out
             clear HT HT3
             by_cases htp : t = 1
             ·subst htp
              rw [if_pos rfl] at ht
              have hx7 : ((1 : Int) != 1) = false := by decide
              obtain ⟨s, hs⟩ : ∃ s, G.getD v 0 = s := ⟨_, rfl⟩
              obtain ⟨adG, e4, hgg⟩ := Kd.at_int (Kd.C_below (Kd.C_below (Kd.C_below HRG.out HB7.out) HB9.out) HB.out) (v : Int) (by omega) (by rw [HL.out]; omega)
              subst e4
              have hsl := HG.out.row v
              rw [rd_gi, Int.toNat_natCast, hs] at hgg
              rw [hs] at ht hsl
              have hs7 : s < 512 := Nat.lt_of_lt_of_le hsl HN7.out
              have HWN := Aside0.mk (wnodes_all ⟨s, hs7⟩)
              obtain ⟨L, hL⟩ : ∃ L, els s 9 = L := ⟨_, rfl⟩
              have HLM : Aside0 (∀ u ∈ L, u < 62) := ⟨fun u hu => by
               rw [← hL] at hu
               have := (mem_els.1 hu).1
               omega⟩
              have HWN2 : Aside0 (width_nodes.f 12 (s : Int) = some (gi L)) := ⟨by rw [← hL]; exact HWN.out⟩
              rw [hL] at ht
              have hll : L.length ≤ 9 := by rw [← hL]; rw [els_length]; exact pc_le s 9
              have hfv : wr.cell? ⟨vB, 0, none⟩ = some (.int .i64 (v : Int)) := (blk_cell (blk_below HCV.out HB.out) 0).trans rfl
              have HND := Aside0.mk (width_nodes.calls 12 (s : Int) (gi L) wr (GL_below HGL.out (below_step HB7.out (below_step HB9.out HB.out))) HWN2.out)
              have HT5 := Aside0.mk ht
              have HLG := Aside0.mk (gi_length L)
              clear ht hL hs hsl hs7 HWN
              go_wp2_with (go_at_call 98; refine HND.out.mono ?_; rintro e w10 ⟨u5, rfl, hu, hb10⟩; obtain ⟨A5, c5, eu, hc5, hC5⟩ := Kd.R_reads hu; subst eu; have HC5 := Aside0.mk hC5; have HB10 := Aside0.mk hb10; clear hu hb10 hC5 hc5)
              rw [HLG.out]
              have HBT : Aside0 (Below w9.heap.size w9 w10) := ⟨below_step HB.out HB10.out⟩
              have HBOX9 := Aside0.mk (blk_below HBOX9.out HBT.out)
              have HCV9 := Aside0.mk (blk_below HCV.out HBT.out)
              have HB11 : Aside0 (Below w7.heap.size w7 w10) := ⟨below_step HB9.out HBT.out⟩
              clear HB HB10 HND hfv hgg
              have HCBOTH : Aside0 (∀ (uB u : Nat), u < 62 → ∀ W, Below w10.heap.size w10 W → W.cell? ⟨uB, 0, none⟩ = some (.int .i64 (u : Int)) → Calls Tryd.prog 54 #[.slice (some adB) B.length c0, .func (.func 102) #[] #[.pointer (some ⟨uB, 0, none⟩), .pointer (some ⟨vB, 0, none⟩)]] W fun e w' => e = .returned (.bool (B.any (bothB u v))) ∧ Below W.heap.size W w') := ⟨fun uB u hu W hW hc => contains_both (some adB) c0 B (bothB u v) uB vB W (Kd.C_below (Kd.C_below (Kd.C_below HR0.out HB7.out) HB11.out) hW) (by omega) (fun V hV x hx => by
               obtain ⟨j, hj, e⟩ := List.getElem_of_mem hx
               obtain ⟨_, _, q3, q4⟩ := HOK2.out j hj
               unfold rd at q3 q4
               rw [Int.toNat_natCast, List.getD_eq_getElem?_getD, List.getElem?_eq_getElem hj] at q3 q4
               rw [← e]
               obtain ⟨xn, hxn⟩ := Int.eq_ofNat_of_zero_le (show 0 ≤ B[j] from q3)
               have q5 : B[j] < 512 := q4
               rw [hxn] at q5 ⊢
               exact both1 uB vB u v xn hu (by omega) (by omega) V ((hV.cell (World.block_lt_of_cell? W _ hc)).trans hc) ((blk_cell (blk_below HCV9.out (below_step hW hV)) 0).trans rfl))⟩
              go_loopg [143] L.length (fun kq v143 w' => ∃ j : Nat, v143 = .int .i64 (j : Int) ∧ j + kq = L.length ∧ Aside0 ((nbF B v (L.drop j) && tl2 G B P gq (v + 1)) = R) ∧ Aside0 (Below w10.heap.size w10 w'))
              case atStart => exact ⟨0, rfl, by omega, HT5, ⟨Below.refl _ _⟩⟩
              case round =>
               clear HT5
               obtain ⟨j, rfl, hj, HT5, HB⟩ := hrel
               by_cases hjl : j < L.length
               ·have hj1 : ((j : Int) < (L.length : Int)) = True := eq_true (by omega)
                have hj2 : decide ((j : Int) < (L.length : Int)) = true := decide_eq_true (by omega)
                cases gk with
                | zero => omega
                | succ gy =>
                obtain ⟨ad5, e5, hg5⟩ := Kd.at_int (Kd.C_below HC5.out HB.out) (j : Int) (by omega) (by rw [HLG.out]; omega)
                subst e5
                have hra : L.getD j 0 = L[j] := by rw [List.getD_eq_getElem?_getD, List.getElem?_eq_getElem hjl]; rfl
                rw [rd_gi, hra, Int.toNat_natCast] at hg5
                have hu62 := HLM.out L[j] (List.getElem_mem hjl)
                have ht := HT5.out
                rw [List.drop_eq_getElem_cons hjl] at ht
                simp only [nbF] at ht
                generalize L[j] = u at *
                clear HT5 hra
                obtain ⟨an, han⟩ : ∃ b, B.any (bothB u v) = b := ⟨_, rfl⟩
                have HCBU : Aside0 (∀ uB W, Below wr.heap.size wr W → W.cell? ⟨uB, 0, none⟩ = some (.int .i64 (u : Int)) → Calls Tryd.prog 54 #[.slice (some adB) B.length c0, .func (.func 102) #[] #[.pointer (some ⟨uB, 0, none⟩), .pointer (some ⟨vB, 0, none⟩)]] W fun e w' => e = .returned (.bool an) ∧ Below W.heap.size W w') := ⟨fun uB W hW hc => by rw [← han]; exact HCBOTH.out uB u hu62 W (below_step HB.out hW) hc⟩
                rw [han] at ht
                clear han
                cases an
                ·obtain rfl : false = R := by simpa using ht
                 clear ht
                 go_wp2_with (first
               | ((with_reducible refine gate_dst (N := 15) rfl ?_); refine box_event ?hg (N := 15) ?hd (cs := #[.int .i64 0]) (t := 3) ?hr ?_; (case hd => rfl); (case hg => rfl); (case hr => first | (go_simp; done) | (go_simp; rfl)); intro uB hgu w12' hbox hb12; have HGU := Aside0.mk (show wr.heap.size ≤ uB by rw [hgu]; exact Nat.le_refl _); clear hgu; have hu0 : w12'.cell? ⟨uB, 0, none⟩ = some (.int .i64 0) := (blk_cell hbox 0).trans rfl; have huf := blk_frozen hbox 0; have hux0 : ∀ x : Value, (w12'.setCell ⟨uB, 0, none⟩ x).cell? ⟨xB, 0, none⟩ = some (.slice (some adB) B.length c0) := (fun x => (cell_sameT (heap_setT _ ⟨uB, 0, none⟩ x _ (by have := HGU.out; have := HB.out.size; have := blk_ltT HBOX9.out; show xB ≠ uB; omega))).trans ((blk_cell (blk_below (blk_below HBOX9.out HB.out) hb12) 0).trans rfl)); have HBU := Aside0.mk hbox; have HB12 := Aside0.mk hb12; have HBS : Aside0 (Below wr.heap.size wr (w12'.setCell ⟨uB, 0, none⟩ (.int .i64 (u : Int)))) := ⟨below_set hb12 HGU.out⟩; have HCB := Aside0.mk (HCBU.out uB _ HBS.out (by have := HGU.out; exact (blk_cell (blk_set hbox 0 (.int .i64 (u : Int))) 0).trans rfl)); clear hbox hb12)
               | (go_at_call 54; refine HCB.out.mono ?_; rintro e w13 ⟨rfl, hb13⟩; have HB13 := Aside0.mk (below_step HBS.out hb13); clear hb13))
                 go_ret
                 exact ⟨rfl, below_step HB7.out (below_step HB11.out (below_step HB.out HB13.out))⟩
                ·have HT6 : Aside0 ((nbF B v (L.drop (j + 1)) && tl2 G B P gq (v + 1)) = R) := ⟨by simpa using ht⟩
                 clear ht
                 go_wp2_with (first
               | ((with_reducible refine gate_dst (N := 15) rfl ?_); refine box_event ?hg (N := 15) ?hd (cs := #[.int .i64 0]) (t := 3) ?hr ?_; (case hd => rfl); (case hg => rfl); (case hr => first | (go_simp; done) | (go_simp; rfl)); intro uB hgu w12' hbox hb12; have HGU := Aside0.mk (show wr.heap.size ≤ uB by rw [hgu]; exact Nat.le_refl _); clear hgu; have hu0 : w12'.cell? ⟨uB, 0, none⟩ = some (.int .i64 0) := (blk_cell hbox 0).trans rfl; have huf := blk_frozen hbox 0; have hux0 : ∀ x : Value, (w12'.setCell ⟨uB, 0, none⟩ x).cell? ⟨xB, 0, none⟩ = some (.slice (some adB) B.length c0) := (fun x => (cell_sameT (heap_setT _ ⟨uB, 0, none⟩ x _ (by have := HGU.out; have := HB.out.size; have := blk_ltT HBOX9.out; show xB ≠ uB; omega))).trans ((blk_cell (blk_below (blk_below HBOX9.out HB.out) hb12) 0).trans rfl)); have HBU := Aside0.mk hbox; have HB12 := Aside0.mk hb12; have HBS : Aside0 (Below wr.heap.size wr (w12'.setCell ⟨uB, 0, none⟩ (.int .i64 (u : Int)))) := ⟨below_set hb12 HGU.out⟩; have HCB := Aside0.mk (HCBU.out uB _ HBS.out (by have := HGU.out; exact (blk_cell (blk_set hbox 0 (.int .i64 (u : Int))) 0).trans rfl)); clear hbox hb12)
               | (go_at_call 54; refine HCB.out.mono ?_; rintro e w13 ⟨rfl, hb13⟩; have HB13 := Aside0.mk (below_step HBS.out hb13); clear hb13))
                 go_roundg gy
                 case measure => omega
                 case rel => exact ⟨j + 1, by go_num, by omega, HT6, ⟨below_step HB.out HB13.out⟩⟩
               ·have hj1 : ((j : Int) < (L.length : Int)) = False := eq_false (by omega)
                have hj2 : decide ((j : Int) < (L.length : Int)) = false := decide_eq_false (by omega)
                obtain rfl : gk = 0 := by omega
                have ht := HT5.out
                rw [List.drop_eq_nil_of_le (by omega)] at ht
                simp only [nbF, Bool.true_and] at ht
                have HT6 := Aside0.mk ht
                clear ht HT5
                go_wp2
                go_roundg gq
                case measure => omega
                case rel => exact ⟨v + 1, by go_num, by omega, HT6, ⟨below_step HB11.out HB.out⟩⟩
             ·rw [if_neg htp] at ht
              subst ht
              have hx1 : ((t : Int) == 1) = false := by simp; omega
              have hx2 : ((t : Int) != 1) = true := by simp; omega
              have hx3 : (t = 1) = False := eq_false htp
              clear htp
              go_wp2
              go_ret
              exact ⟨rfl, below_step HB7.out (below_step HB9.out HB.out)⟩
          ·have hv1 : ((v : Int) < (G.length : Int)) = False := eq_false (by omega)
           have hv2 : decide ((v : Int) < (G.length : Int)) = false := decide_eq_false (by omega)
           obtain rfl : gk = 0 := by omega
           have ht := HT2.out
           simp only [tl2] at ht
           subst ht
           clear HT2
           go_wp2
           go_ret
           exact ⟨rfl, below_step HB7.out HB.out⟩
        ·rw [if_pos rfl] at hr
         subst hr
         clear hz1
         go_wp2_with (first
          | (go_at_call 67; refine (CAL2.out _ (Below.refl _ _)).mono ?_; rintro e w3 ⟨rfl, hb3⟩; have HB3 := Aside0.mk hb3; have hz3 : w3.cell? ⟨xB, 1, none⟩ = some (.slice A1 P.length c1) := (blk_cell (blk_below HBC.out hb3) 1).trans rfl; clear hb3)
          | (go_at_call 54; refine (CCY.out _ HB3.out).mono ?_; rintro e w4 ⟨rfl, hb4⟩; have HB4 := Aside0.mk (below_step HB3.out hb4); clear hb4))
         go_ret
         exact ⟨rfl, below_step HB7.out (below_step HB.out HB4.out)⟩
       ·rw [if_neg (by rw [HPA.out]; exact h2)] at hr
        subst hr
        have hx5 : ((ac : Int) == (PA : Int)) = false := by simp; omega
        have hx6 : ((ac : Int) != (PA : Int)) = true := by simp; omega
        clear h2 hbc
        go_wp2_with (go_at_call 67; refine (CAL2.out _ (Below.refl _ _)).mono ?_; rintro e w3 ⟨rfl, hb3⟩)
        go_ret
        exact ⟨rfl, below_step HB7.out (below_step HB.out hb3)⟩
      ·rw [if_neg h1] at hr
       subst hr
       have hx1 : ((ro : Int) == 1) = false := by simp; omega
       have hx2 : ((ro : Int) != 1) = true := by simp; omega
       have hx3 : (ro = 1) = False := eq_false h1
       clear h1 hbc
       go_wp2
       go_ret
       exact ⟨rfl, below_step HB7.out HB.out⟩
   ·rw [if_neg hpl] at hR
    subst hR
    have hd3 : ((P.length : Int) == (B.length : Int)) = false := by simp; omega
    have hd4 : ((P.length : Int) != (B.length : Int)) = true := by simp; omega
    clear hb1 hb30 hpl
    go_enter Tryd.func78, Tryd.ntmps78
    go_wp2_with (first | ((with_reducible refine gate_dst (N := 3) rfl ?_); refine box_event ?hg (N := 3) ?hd (cs := #[.slice A0 B.length c0, .slice A1 P.length c1]) (t := 53) ?hr ?_; (case hd => rfl); (case hg => rfl); (case hr => first | (go_simp; done) | (go_simp; rfl)); intro xB hga w7 hbox hb7; have HBOX := Aside0.mk hbox; have HB7 := Aside0.mk hb7; have hz0 : w7.cell? ⟨xB, 0, none⟩ = some (.slice A0 B.length c0) := (blk_cell hbox 0).trans rfl; have hz1 : w7.cell? ⟨xB, 1, none⟩ = some (.slice A1 P.length c1) := (blk_cell hbox 1).trans rfl; clear hbox hb7 hga))
    go_ret
    exact ⟨rfl, HB7.out⟩
def width_town_tree.f (g : List Int) (B P : List Int) : Option Bool := if chk 9 g = true then some (treeB (g.map Int.toNat) B P) else none
theorem width_town_tree.calls (Ag : Option Addr) (cg : Nat) (g : List Int) (A0 : Option Addr) (c0 : Nat) (B : List Int) (A1 : Option Addr) (c1 : Nat) (P : List Int) (r : Bool) (w : World) (hGL : GL w) (hrg : Kd.C (Kd.int .i64) w Ag g.length g) (hcg : g.length ≤ cg) (hr0 : Kd.C (Kd.int .i64) w A0 B.length B) (hc0 : B.length ≤ c0) (hr1 : Kd.C (Kd.int .i64) w A1 P.length P) (hc1 : P.length ≤ c1) (h : width_town_tree.f g B P = some r) :
  Calls Tryd.prog 78 #[.slice Ag g.length cg, .agg #[.slice A0 B.length c0, .slice A1 P.length c1]] w fun e w' => e = .returned (.bool r) ∧ Below w.heap.size w w' := by
 unfold width_town_tree.f at h
 by_cases hchk : chk 9 g = true
 ·rw [if_pos hchk] at h
  obtain ⟨G, rfl, hG⟩ := (chk_iff 9 (by omega) _).1 hchk
  rw [gi_toNatT] at h
  rw [gi_length] at hcg ⊢
  exact tree_calls Ag cg G hG hcg A0 c0 B A1 c1 P r (Option.some.inj h) w hGL hrg hr0 hr1
 ·rw [if_neg hchk] at h
  cases h
end Go.Proofs.YtoffehihicabcaaDoor.X
end
section
namespace Go.Proofs.YtoffehihicabcaaDoor.X
open Go.RowKit YtoffehihicabcaaDoorW.PrintWords YtoffehihicabcaaDoorW.PrintLast YtoffehihicabcaaDoorW.PrintMore
attribute [local go_sem] max2_int min2_int max_two min_two max_three min_three max_four min_four
noncomputable section
def width_Tree_width.l0 : Nat → Int → List Int → Int → Int → Option (Int)
 | 0, _, _, _, _ => none
 | k + 1, x3, x7, x8, x9 => if x9 < x8 then (if 0 ≤ x9 then (if x9 < (x7.length : Int) then ((width_count.f (rd x7 x9)).bind fun t505 => (width_Tree_width.l0 k (mx x3 t505) x7 x8 (wrap64 (x9 + 1)))) else (none)) else (none)) else (some (wrap64 (x3 - 1)))
def width_Tree_width.f (k : Nat) (l0_0 : List Int) (l0_1 : List Int) : Option (Int) := width_Tree_width.l0 k 0 l0_0 (l0_0.length : Int) 0
set_option maxHeartbeats 8000000 in
set_option maxRecDepth 100000 in
theorem width_Tree_width.calls (k : Nat) (A0_0 : Option Addr) (c0_0 : Nat) (l0_0 : List Int) (A0_1 : Option Addr) (c0_1 : Nat) (l0_1 : List Int) (r : Int) (w : World) (hr0_0 : Kd.C (Kd.int .i64) w A0_0 l0_0.length l0_0) (hc0_0 : l0_0.length ≤ c0_0) (hr0_1 : Kd.C (Kd.int .i64) w A0_1 l0_1.length l0_1) (hc0_1 : l0_1.length ≤ c0_1) (h : width_Tree_width.f k l0_0 l0_1 = some r) :
  Calls Tryd.prog 81 #[.agg #[.slice A0_0 l0_0.length c0_0, .slice A0_1 l0_1.length c0_1]] w fun e w' => e = .returned (.int .i64 r) ∧ Below w.heap.size w w' := by
 have hu53 := Tryd.underlying53
 have HR0_0 := Aside0.mk hr0_0
 have HC0_0 := Aside0.mk hc0_0
 clear hr0_0 hc0_0
 have HR0_1 := Aside0.mk hr0_1
 have HC0_1 := Aside0.mk hc0_1
 clear hr0_1 hc0_1
 have HB := Aside0.mk (Below.refl w.heap.size w)
 have H : (width_Tree_width.l0 k 0 l0_0 (l0_0.length : Int) 0) = some r := h
 clear h
 have H' := Aside0.mk H
 clear H
 go_enter Tryd.func81, Tryd.ntmps81
 go_wp2_with (first | ((with_reducible refine gate_dst (N := 1) rfl ?_); refine box_event ?hg (N := 1) ?hd (cs := #[.slice A0_0 l0_0.length c0_0, .slice A0_1 l0_1.length c0_1]) (t := 53) ?hr ?_; (case hd => rfl); (case hg => rfl); (case hr => first | (go_simp; done) | (go_simp; rfl)); intro gb503 hg w2 hbox hb; have n0_ := Aside0.mk (below_step (Qaw) hb); have n1_ := Aside0.mk (hbox); have n2_ := Aside0.mk ((by rw [hg]; exact (below_size (Qaw)) : w.heap.size ≤ gb503)); have n3_ := Aside0.mk ((by rw [hg]; exact (below_size (Qaw)) : w.heap.size ≤ gb503)); clear HB; have HB := n0_; have BK503 := n1_; have GW503 := n2_; have GE503 := n3_; clear n0_ n1_ n2_ n3_; clear hb hbox hg; have hcz3_0 : w2.cell? ⟨gb503, 0, none⟩ = some (.slice A0_0 l0_0.length c0_0) := (blk_cell BK503.out 0).trans rfl; have hcz3_1 : w2.cell? ⟨gb503, 1, none⟩ = some (.slice A0_1 l0_1.length c0_1) := (blk_cell BK503.out 1).trans rfl; have hfz3_0 := blk_frozen BK503.out 0; have hfz3_1 := blk_frozen BK503.out 1))
 go_loopg [3, 9] k (fun kq v3 v9 w' => ∃ (x3_1 : Int) (x9_1 : Int), v3 = .int .i64 x3_1 ∧ v9 = .int .i64 x9_1 ∧ Aside0 (width_Tree_width.l0 kq x3_1 l0_0 (l0_0.length : Int) x9_1 = some r) ∧ Aside0 (kq ≤ k) ∧ Aside0 (w'.heap[gb503]? = some (.cells #[(.slice A0_0 l0_0.length c0_0), (.slice A0_1 l0_1.length c0_1)] 53 (0, 0))) ∧ Aside0 (Below w.heap.size w w'))
 case atStart => exact ⟨(0), (0), (Qrs), (Qrs), H', ⟨Nat.le_refl _⟩, ⟨by (with_reducible repeat (first | refine blk_drewN ?_ _ | refine blk_drew ?_ | refine blk_alloc ?_ _)); exact BK503.out⟩, ⟨by repeat (first | (with_reducible first | exact HB.out | apply below_alloc | apply pw_below_drewN | apply below_drew1 | refine below_set ?_ GE503.out) | exact HB.out)⟩⟩
 case round =>
  clear H'
  try clear p2
  try clear hcz3_0
  try clear hcz3_1
  try clear hfz3_0
  try clear hfz3_1
  obtain ⟨x3_1, x9_1, rfl, rfl, HA, HK1, BK503, HB⟩ := hrel
  cases gk with
  | zero => exact absurd HA.out (by simp [width_Tree_width.l0])
  | succ k1 =>
   have H := HA.out
   clear HA
   simp only [width_Tree_width.l0] at H
   by_cases c4 : x9_1 < (l0_0.length : Int)
   ·rw [if_pos c4] at H
    have c4b0 : decide (x9_1 < (l0_0.length : Int)) = true := decide_eq_true c4
    clear c4
    by_cases c5 : 0 ≤ x9_1
    ·rw [if_pos c5] at H
     have c5b0 : decide (0 ≤ x9_1) = true := decide_eq_true c5
     clear c5
     by_cases c6 : x9_1 < (l0_0.length : Int)
     ·rw [if_pos c6] at H
      have c6b0 : decide (x9_1 < (l0_0.length : Int)) = true := decide_eq_true c6
      clear c6
      replace H := Option.bind_eq_some_iff.mp H
      obtain ⟨t505, A70, H⟩ := H
      replace H : (width_Tree_width.l0 k1 (mx x3_1 t505) l0_0 (l0_0.length : Int) (wrap64 (x9_1 + 1))) = some r := H
      have A7 := Aside0.mk A70
      clear A70
      obtain ⟨ji8, hji8⟩ : ∃ j_ : Int, (mx x3_1 t505) = j_ := ⟨_, rfl⟩
      replace H : (width_Tree_width.l0 k1 ji8 l0_0 (l0_0.length : Int) (wrap64 (x9_1 + 1))) = some r := by first | (rw [hji8] at H; exact H) | (simp only [hji8] at H ⊢; exact H)
      (try rw [hji8] at A7)
      have hji8_ : (if x3_1 < t505 then t505 else x3_1) = ji8 := hji8
      have H' := Aside0.mk H
      clear H
      have p504 : 0 ≤ (x9_1 : Int) := of_decide_eq_true (Qas)
      have q504 : x9_1 < (l0_0.length : Int) := of_decide_eq_true (Qas)
      obtain ⟨ad504, e504, hx504_0⟩ := Kd.at_int HR0_0.out x9_1 p504 q504
      cases e504
      replace hx504_0 := (HB.out.cell (World.block_lt_of_cell? w _ hx504_0)).trans hx504_0
      replace p504 := eq_true p504
      replace q504 := eq_true q504
      go_wp2_with (first | ((with_reducible refine gate_callee (f := 68) rfl ?_); refine goesL_ (some 15) rfl rfl Tryd.func68 (by kernel_rfl) rfl #[.int .i64 (rd l0_0 x9_1)] rfl (Qls) ?_; (with_reducible refine (width_count.calls (rd l0_0 x9_1) t505 _ A7.out).mono ?_); rintro e w' ⟨rfl, ⟨nd, rfl⟩⟩; refine ⟨_, rfl, ?_⟩))
      go_roundg k1
      case measure => have := HK1.out; omega
      case rel => exact ⟨(ji8), (wrap64 (x9_1 + 1)), (by first | rfl | (simp; done) | (simp only [← hji8] <;> (first | rfl | simp)) | (simp [*]; done)), (Qrs), H', ⟨by have := HK1.out; omega⟩, ⟨by (with_reducible repeat (first | refine blk_drewN ?_ _ | refine blk_drew ?_ | refine blk_alloc ?_ _)); exact BK503.out⟩, ⟨by repeat (first | (with_reducible first | exact HB.out | apply below_alloc | apply pw_below_drewN | apply below_drew1 | refine below_set ?_ GE503.out) | exact HB.out)⟩⟩
     ·rw [if_neg c6] at H
      exact absurd H (by simp)
    ·rw [if_neg c5] at H
     exact absurd H (by simp)
   ·rw [if_neg c4] at H
    have c4b0 : decide (x9_1 < (l0_0.length : Int)) = false := decide_eq_false c4
    clear c4
    obtain rfl := Option.some.inj H
    go_wp2
    go_ret
    exact ⟨by first | rfl | (simp [errW_none, errW_some] <;> rfl) | (simp [*, errW_none, errW_some] <;> rfl), by repeat (first | (with_reducible first | exact HB.out | apply below_alloc | apply pw_below_drewN | apply below_drew1 | refine below_set ?_ GE503.out) | exact HB.out)⟩
end
noncomputable section
def width_Check.f (k : Nat) (l0 : List Int) (l1_0 : List Int) (l1_1 : List Int) : Option (Int × Bool × Int) := (width_read.f k l0).bind fun bt507 => (if bt507.2 = true then ((width_town_tree.f bt507.1 l1_0 l1_1).bind fun t511 => (if t511 = true then ((width_Tree_width.f k l1_0 l1_1).bind fun t512 => (some (t512, true, 0))) else (some (0, false, 0)))) else (some (0, false, 2)))
set_option maxHeartbeats 8000000 in
set_option maxRecDepth 100000 in
theorem width_Check.calls (k : Nat) (A0 : Option Addr) (c0 : Nat) (l0 : List Int) (A1_0 : Option Addr) (c1_0 : Nat) (l1_0 : List Int) (A1_1 : Option Addr) (c1_1 : Nat) (l1_1 : List Int) (r1 : Int) (r2 : Bool) (r3 : Int) (w : World) (hGL : GL w) (hr0 : Kd.C (Kd.int .i64) w A0 l0.length l0) (hc0 : l0.length ≤ c0) (hr1_0 : Kd.C (Kd.int .i64) w A1_0 l1_0.length l1_0) (hc1_0 : l1_0.length ≤ c1_0) (hr1_1 : Kd.C (Kd.int .i64) w A1_1 l1_1.length l1_1) (hc1_1 : l1_1.length ≤ c1_1) (h : width_Check.f k l0 l1_0 l1_1 = some (r1, r2, r3)) :
  Calls Tryd.prog 50 #[.slice A0 l0.length c0, .agg #[.slice A1_0 l1_0.length c1_0, .slice A1_1 l1_1.length c1_1]] w fun e w' => e = .returned (.tuple #[.int .i64 r1, .bool r2, .int .i64 r3]) ∧ Below w.heap.size w w' := by
 have HGL := Aside0.mk hGL
 clear hGL
 have hu53 := Tryd.underlying53
 have HR0 := Aside0.mk hr0
 have HC0 := Aside0.mk hc0
 clear hr0 hc0
 have HR1_0 := Aside0.mk hr1_0
 have HC1_0 := Aside0.mk hc1_0
 clear hr1_0 hc1_0
 have HR1_1 := Aside0.mk hr1_1
 have HC1_1 := Aside0.mk hc1_1
 clear hr1_1 hc1_1
 have HB := Aside0.mk (Below.refl w.heap.size w)
 have H : ((width_read.f k l0).bind fun bt507 => (if bt507.2 = true then ((width_town_tree.f bt507.1 l1_0 l1_1).bind fun t511 => (if t511 = true then ((width_Tree_width.f k l1_0 l1_1).bind fun t512 => (some (t512, true, 0))) else (some (0, false, 0)))) else (some (0, false, 2)))) = some (r1, r2, r3) := h
 clear h
 replace H := Option.bind_eq_some_iff.mp H
 obtain ⟨⟨t507, t510⟩, A30, H⟩ := H
 replace H : (if t510 = true then ((width_town_tree.f t507 l1_0 l1_1).bind fun t511 => (if t511 = true then ((width_Tree_width.f k l1_0 l1_1).bind fun t512 => (some (t512, true, 0))) else (some (0, false, 0)))) else (some (0, false, 2))) = some (r1, r2, r3) := H
 have A3 := Aside0.mk A30
 clear A30
 by_cases c4 : t510 = true
 ·subst c4
  have H1 : ((width_town_tree.f t507 l1_0 l1_1).bind fun t511 => (if t511 = true then ((width_Tree_width.f k l1_0 l1_1).bind fun t512 => (some (t512, true, 0))) else (some (0, false, 0)))) = some (r1, r2, r3) := by rw [if_pos rfl] at H; exact H
  clear H
  have H := H1
  clear H1
  replace H := Option.bind_eq_some_iff.mp H
  obtain ⟨t511, A50, H⟩ := H
  replace H : (if t511 = true then ((width_Tree_width.f k l1_0 l1_1).bind fun t512 => (some (t512, true, 0))) else (some (0, false, 0))) = some (r1, r2, r3) := H
  have A5 := Aside0.mk A50
  clear A50
  by_cases c6 : t511 = true
  ·subst c6
   have H1 : ((width_Tree_width.f k l1_0 l1_1).bind fun t512 => (some (t512, true, 0))) = some (r1, r2, r3) := by rw [if_pos rfl] at H; exact H
   clear H
   have H := H1
   clear H1
   replace H := Option.bind_eq_some_iff.mp H
   obtain ⟨t512, A70, H⟩ := H
   replace H : (some (t512, true, 0)) = some (r1, r2, r3) := H
   have A7 := Aside0.mk A70
   clear A70
   simp only [Option.some.injEq, Prod.mk.injEq] at H
   obtain ⟨rfl, rfl, rfl⟩ := H
   go_enter Tryd.func50, Tryd.ntmps50
   go_wp2_with (first | ((with_reducible refine gate_dst (N := 3) rfl ?_); refine box_event ?hg (N := 3) ?hd (cs := #[.slice A1_0 l1_0.length c1_0, .slice A1_1 l1_1.length c1_1]) (t := 53) ?hr ?_; (case hd => rfl); (case hg => rfl); (case hr => first | (go_simp; done) | (go_simp; rfl)); intro gb506 hg w8 hbox hb; have n0_ := Aside0.mk (below_step (Qaw) hb); have n1_ := Aside0.mk (hbox); have n2_ := Aside0.mk ((by rw [hg]; exact (below_size (Qaw)) : w.heap.size ≤ gb506)); have n3_ := Aside0.mk ((by rw [hg]; exact (below_size (Qaw)) : w.heap.size ≤ gb506)); clear HB; have HB := n0_; have BK506 := n1_; have GW506 := n2_; have GE506 := n3_; clear n0_ n1_ n2_ n3_; clear hb hbox hg) | ((with_reducible refine gate_callee (f := 59) rfl ?_); refine goesL_ (some 11) rfl rfl Tryd.func59 (by kernel_rfl) rfl #[.slice A0 l0.length c0] rfl (Qls) ?_; (with_reducible refine (width_read.calls k (fun k_ => k_ < w.heap.size) _ _ l0 t507 true _ ?side1 A3.out).mono ?_); (case side1 => exact Kd.V_mk HC0.out (Kd.F_below (Kd.C_F (Kd.heap_int .i64) HR0.out) (Qag GE506.out))); rintro e w9 ⟨v508, rfl, ho0, hb⟩; refine ⟨_, rfl, ?_⟩; have n0_ := Aside0.mk (Kd.V_lower (Kd.V_mono (ok' := fun k_ => k_ ≠ gb506) ho0 (fun k_ hk_ => Or.elim hk_ (fun hs_ => fun e_ => Nat.not_le.2 hs_ (by rw [e_]; exact GW506.out)) (fun hn_ => (Kd.freshB (g := gb506) (o := .cells #[.slice A1_0 l1_0.length c1_0, .slice A1_1 l1_1.length c1_1] 53 (0, 0)) (Qbl BK506.out) k_ hn_)))) (below_size (Qag GE506.out))); have n1_ := Aside0.mk (blk_below (g := gb506) (o := .cells #[.slice A1_0 l1_0.length c1_0, .slice A1_1 l1_1.length c1_1] 53 (0, 0)) (Qbl BK506.out) hb); have n2_ := Aside0.mk (below_step (Qag GE506.out) hb); clear BK506; clear HB; have HO509 := n0_; have BK506 := n1_; have HB := n2_; clear n0_ n1_ n2_; (try clear hb); (try clear hb2); (try clear hk); (try clear hi); (try clear ho0); have hcz10_0 : w9.cell? ⟨gb506, 0, none⟩ = some (.slice A1_0 l1_0.length c1_0) := (blk_cell BK506.out 0).trans rfl; have hcz10_1 : w9.cell? ⟨gb506, 1, none⟩ = some (.slice A1_1 l1_1.length c1_1) := (blk_cell BK506.out 1).trans rfl; have hfz10_0 := blk_frozen BK506.out 0; have hfz10_1 := blk_frozen BK506.out 1; obtain ⟨Ao11, co11, eo11⟩ := Kd.V_slice HO509.out; subst eo11) | ((with_reducible refine gate_callee (f := 78) rfl ?_); refine goesL_ (some 18) rfl rfl Tryd.func78 (by kernel_rfl) rfl #[.slice Ao11 t507.length co11, .agg #[.slice A1_0 l1_0.length c1_0, .slice A1_1 l1_1.length c1_1]] rfl (Qls) ?_; (with_reducible refine (width_town_tree.calls (hGL := (Qlg)) _ _ t507 _ _ l1_0 _ _ l1_1 true _ ?side1 ?side2 ?side3 ?side4 ?side5 ?side6 A5.out).mono ?_); (case side1 => exact Qsc (Kd.V_reads' HO509.out).2.2); (case side2 => exact (Kd.V_reads' HO509.out).2.1); (case side3 => exact Qsc (Kd.C_below HR1_0.out HB.out)); (case side4 => exact HC1_0.out); (case side5 => exact Qsc (Kd.C_below HR1_1.out HB.out)); (case side6 => exact HC1_1.out); rintro e w12 ⟨rfl, hb⟩; refine ⟨_, rfl, ?_⟩; have n0_ := Aside0.mk (Kd.V_below (by (with_reducible repeat (first | apply Kd.V_alloc | apply Kd.V_drewN | apply Kd.V_drew)); exact HO509.out) hb); have n1_ := Aside0.mk (blk_below (g := gb506) (o := .cells #[.slice A1_0 l1_0.length c1_0, .slice A1_1 l1_1.length c1_1] 53 (0, 0)) (Qbl BK506.out) hb); have n2_ := Aside0.mk (below_step (Qag GE506.out) hb); clear HO509; clear BK506; clear HB; have HO509 := n0_; have BK506 := n1_; have HB := n2_; clear n0_ n1_ n2_; (try clear hb); (try clear hb2); (try clear hk); (try clear hi); have hcz13_0 : w12.cell? ⟨gb506, 0, none⟩ = some (.slice A1_0 l1_0.length c1_0) := (blk_cell BK506.out 0).trans rfl; have hcz13_1 : w12.cell? ⟨gb506, 1, none⟩ = some (.slice A1_1 l1_1.length c1_1) := (blk_cell BK506.out 1).trans rfl; have hfz13_0 := blk_frozen BK506.out 0; have hfz13_1 := blk_frozen BK506.out 1) | ((with_reducible refine gate_callee (f := 81) rfl ?_); refine goesL_ (some 21) rfl rfl Tryd.func81 (by kernel_rfl) rfl #[.agg #[.slice A1_0 l1_0.length c1_0, .slice A1_1 l1_1.length c1_1]] rfl (Qls) ?_; (with_reducible refine (width_Tree_width.calls k _ _ l1_0 _ _ l1_1 t512 _ ?side1 ?side2 ?side3 ?side4 A7.out).mono ?_); (case side1 => exact Qsc (Kd.C_below HR1_0.out HB.out)); (case side2 => exact HC1_0.out); (case side3 => exact Qsc (Kd.C_below HR1_1.out HB.out)); (case side4 => exact HC1_1.out); rintro e w14 ⟨rfl, hb⟩; refine ⟨_, rfl, ?_⟩; have n0_ := Aside0.mk (Kd.V_below (by (with_reducible repeat (first | apply Kd.V_alloc | apply Kd.V_drewN | apply Kd.V_drew)); exact HO509.out) hb); have n1_ := Aside0.mk (blk_below (g := gb506) (o := .cells #[.slice A1_0 l1_0.length c1_0, .slice A1_1 l1_1.length c1_1] 53 (0, 0)) (Qbl BK506.out) hb); have n2_ := Aside0.mk (below_step (Qag GE506.out) hb); clear HO509; clear BK506; clear HB; have HO509 := n0_; have BK506 := n1_; have HB := n2_; clear n0_ n1_ n2_; (try clear hb); (try clear hb2); (try clear hk); (try clear hi)))
   go_ret3
   exact ⟨by first | rfl | (simp [errW_none, errW_some] <;> rfl) | (simp [*, errW_none, errW_some] <;> rfl), by repeat (first | (with_reducible first | exact HB.out | apply below_alloc | apply pw_below_drewN | apply below_drew1 | refine below_set ?_ GE506.out) | exact HB.out)⟩
  ·replace c6 := Bool.eq_false_iff.mpr c6
   subst c6
   have H1 : (some (0, false, 0)) = some (r1, r2, r3) := by rw [if_neg (show ¬ (false = true) by decide)] at H; exact H
   clear H
   have H := H1
   clear H1
   simp only [Option.some.injEq, Prod.mk.injEq] at H
   obtain ⟨rfl, rfl, rfl⟩ := H
   go_enter Tryd.func50, Tryd.ntmps50
   go_wp2_with (first | ((with_reducible refine gate_dst (N := 3) rfl ?_); refine box_event ?hg (N := 3) ?hd (cs := #[.slice A1_0 l1_0.length c1_0, .slice A1_1 l1_1.length c1_1]) (t := 53) ?hr ?_; (case hd => rfl); (case hg => rfl); (case hr => first | (go_simp; done) | (go_simp; rfl)); intro gb506 hg w15 hbox hb; have n0_ := Aside0.mk (below_step (Qaw) hb); have n1_ := Aside0.mk (hbox); have n2_ := Aside0.mk ((by rw [hg]; exact (below_size (Qaw)) : w.heap.size ≤ gb506)); have n3_ := Aside0.mk ((by rw [hg]; exact (below_size (Qaw)) : w.heap.size ≤ gb506)); clear HB; have HB := n0_; have BK506 := n1_; have GW506 := n2_; have GE506 := n3_; clear n0_ n1_ n2_ n3_; clear hb hbox hg) | ((with_reducible refine gate_callee (f := 59) rfl ?_); refine goesL_ (some 11) rfl rfl Tryd.func59 (by kernel_rfl) rfl #[.slice A0 l0.length c0] rfl (Qls) ?_; (with_reducible refine (width_read.calls k (fun k_ => k_ < w.heap.size) _ _ l0 t507 true _ ?side1 A3.out).mono ?_); (case side1 => exact Kd.V_mk HC0.out (Kd.F_below (Kd.C_F (Kd.heap_int .i64) HR0.out) (Qag GE506.out))); rintro e w16 ⟨v508, rfl, ho0, hb⟩; refine ⟨_, rfl, ?_⟩; have n0_ := Aside0.mk (Kd.V_lower (Kd.V_mono (ok' := fun k_ => k_ ≠ gb506) ho0 (fun k_ hk_ => Or.elim hk_ (fun hs_ => fun e_ => Nat.not_le.2 hs_ (by rw [e_]; exact GW506.out)) (fun hn_ => (Kd.freshB (g := gb506) (o := .cells #[.slice A1_0 l1_0.length c1_0, .slice A1_1 l1_1.length c1_1] 53 (0, 0)) (Qbl BK506.out) k_ hn_)))) (below_size (Qag GE506.out))); have n1_ := Aside0.mk (blk_below (g := gb506) (o := .cells #[.slice A1_0 l1_0.length c1_0, .slice A1_1 l1_1.length c1_1] 53 (0, 0)) (Qbl BK506.out) hb); have n2_ := Aside0.mk (below_step (Qag GE506.out) hb); clear BK506; clear HB; have HO509 := n0_; have BK506 := n1_; have HB := n2_; clear n0_ n1_ n2_; (try clear hb); (try clear hb2); (try clear hk); (try clear hi); (try clear ho0); have hcz17_0 : w16.cell? ⟨gb506, 0, none⟩ = some (.slice A1_0 l1_0.length c1_0) := (blk_cell BK506.out 0).trans rfl; have hcz17_1 : w16.cell? ⟨gb506, 1, none⟩ = some (.slice A1_1 l1_1.length c1_1) := (blk_cell BK506.out 1).trans rfl; have hfz17_0 := blk_frozen BK506.out 0; have hfz17_1 := blk_frozen BK506.out 1; obtain ⟨Ao18, co18, eo18⟩ := Kd.V_slice HO509.out; subst eo18) | ((with_reducible refine gate_callee (f := 78) rfl ?_); refine goesL_ (some 18) rfl rfl Tryd.func78 (by kernel_rfl) rfl #[.slice Ao18 t507.length co18, .agg #[.slice A1_0 l1_0.length c1_0, .slice A1_1 l1_1.length c1_1]] rfl (Qls) ?_; (with_reducible refine (width_town_tree.calls (hGL := (Qlg)) _ _ t507 _ _ l1_0 _ _ l1_1 false _ ?side1 ?side2 ?side3 ?side4 ?side5 ?side6 A5.out).mono ?_); (case side1 => exact Qsc (Kd.V_reads' HO509.out).2.2); (case side2 => exact (Kd.V_reads' HO509.out).2.1); (case side3 => exact Qsc (Kd.C_below HR1_0.out HB.out)); (case side4 => exact HC1_0.out); (case side5 => exact Qsc (Kd.C_below HR1_1.out HB.out)); (case side6 => exact HC1_1.out); rintro e w19 ⟨rfl, hb⟩; refine ⟨_, rfl, ?_⟩; have n0_ := Aside0.mk (Kd.V_below (by (with_reducible repeat (first | apply Kd.V_alloc | apply Kd.V_drewN | apply Kd.V_drew)); exact HO509.out) hb); have n1_ := Aside0.mk (blk_below (g := gb506) (o := .cells #[.slice A1_0 l1_0.length c1_0, .slice A1_1 l1_1.length c1_1] 53 (0, 0)) (Qbl BK506.out) hb); have n2_ := Aside0.mk (below_step (Qag GE506.out) hb); clear HO509; clear BK506; clear HB; have HO509 := n0_; have BK506 := n1_; have HB := n2_; clear n0_ n1_ n2_; (try clear hb); (try clear hb2); (try clear hk); (try clear hi)))
   go_ret3
   exact ⟨by first | rfl | (simp [errW_none, errW_some] <;> rfl) | (simp [*, errW_none, errW_some] <;> rfl), by repeat (first | (with_reducible first | exact HB.out | apply below_alloc | apply pw_below_drewN | apply below_drew1 | refine below_set ?_ GE506.out) | exact HB.out)⟩
 ·replace c4 := Bool.eq_false_iff.mpr c4
  subst c4
  have H1 : (some (0, false, 2)) = some (r1, r2, r3) := by rw [if_neg (show ¬ (false = true) by decide)] at H; exact H
  clear H
  have H := H1
  clear H1
  simp only [Option.some.injEq, Prod.mk.injEq] at H
  obtain ⟨rfl, rfl, rfl⟩ := H
  go_enter Tryd.func50, Tryd.ntmps50
  go_wp2_with (first | ((with_reducible refine gate_dst (N := 3) rfl ?_); refine box_event ?hg (N := 3) ?hd (cs := #[.slice A1_0 l1_0.length c1_0, .slice A1_1 l1_1.length c1_1]) (t := 53) ?hr ?_; (case hd => rfl); (case hg => rfl); (case hr => first | (go_simp; done) | (go_simp; rfl)); intro gb506 hg w20 hbox hb; have n0_ := Aside0.mk (below_step (Qaw) hb); have n1_ := Aside0.mk (hbox); have n2_ := Aside0.mk ((by rw [hg]; exact (below_size (Qaw)) : w.heap.size ≤ gb506)); have n3_ := Aside0.mk ((by rw [hg]; exact (below_size (Qaw)) : w.heap.size ≤ gb506)); clear HB; have HB := n0_; have BK506 := n1_; have GW506 := n2_; have GE506 := n3_; clear n0_ n1_ n2_ n3_; clear hb hbox hg) | ((with_reducible refine gate_callee (f := 59) rfl ?_); refine goesL_ (some 11) rfl rfl Tryd.func59 (by kernel_rfl) rfl #[.slice A0 l0.length c0] rfl (Qls) ?_; (with_reducible refine (width_read.calls k (fun k_ => k_ < w.heap.size) _ _ l0 t507 false _ ?side1 A3.out).mono ?_); (case side1 => exact Kd.V_mk HC0.out (Kd.F_below (Kd.C_F (Kd.heap_int .i64) HR0.out) (Qag GE506.out))); rintro e w21 ⟨v508, rfl, ho0, hb⟩; refine ⟨_, rfl, ?_⟩; have n0_ := Aside0.mk (Kd.V_lower (Kd.V_mono (ok' := fun k_ => k_ ≠ gb506) ho0 (fun k_ hk_ => Or.elim hk_ (fun hs_ => fun e_ => Nat.not_le.2 hs_ (by rw [e_]; exact GW506.out)) (fun hn_ => (Kd.freshB (g := gb506) (o := .cells #[.slice A1_0 l1_0.length c1_0, .slice A1_1 l1_1.length c1_1] 53 (0, 0)) (Qbl BK506.out) k_ hn_)))) (below_size (Qag GE506.out))); have n1_ := Aside0.mk (blk_below (g := gb506) (o := .cells #[.slice A1_0 l1_0.length c1_0, .slice A1_1 l1_1.length c1_1] 53 (0, 0)) (Qbl BK506.out) hb); have n2_ := Aside0.mk (below_step (Qag GE506.out) hb); clear BK506; clear HB; have HO509 := n0_; have BK506 := n1_; have HB := n2_; clear n0_ n1_ n2_; (try clear hb); (try clear hb2); (try clear hk); (try clear hi); (try clear ho0)))
  go_ret3
  exact ⟨by first | rfl | (simp [errW_none, errW_some] <;> rfl) | (simp [*, errW_none, errW_some] <;> rfl), by repeat (first | (with_reducible first | exact HB.out | apply below_alloc | apply pw_below_drewN | apply below_drew1 | refine below_set ?_ GE506.out) | exact HB.out)⟩
end
end Go.Proofs.YtoffehihicabcaaDoor.X
end
section
namespace Go.Proofs.YtoffehihicabcaaDoor.T
open Go.RowKit YtoffehihicabcaaDoorW.PrintWords YtoffehihicabcaaDoorW.PrintLast YtoffehihicabcaaDoorW.PrintMore
def ElimG (G : List Nat) (k S : Nat) : Prop := Elim (fun u => u < G.length) (Adj G) k (bset S)
theorem elimG_zero (G : List Nat) (k : Nat) : ElimG G k 0 := Elim.nil.ext fun u => by simp [bset]
theorem elimG_step {m : Nat} {G : List Nat} (hG : Gr m G) {k S : Nat} (hS : S < 2 ^ G.length) (h0 : S ≠ 0) :
  ElimG G k S ↔ ∃ v, bset S v ∧ ElimG G k (diff S (2 ^ v)) ∧ pc (nbset G (diff S (2 ^ v)) v) G.length ≤ k := by
 have nb : ∀ v, bset S v → (AtMost k (Nb (Adj G) (bset (diff S (2 ^ v))) v) ↔ pc (nbset G (diff S (2 ^ v)) v) G.length ≤ k) := fun v hv => by
  rw [← atMost_pc (nbset_lt hG _ _)]
  have e : bset (nbset G (diff S (2 ^ v)) v) = Nb (Adj G) (bset (diff S (2 ^ v))) v := funext fun j => propext (nbset_bit hG (bit_lt hS hv) j)
  rw [e]
 constructor
 ·intro h
  unfold ElimG at h
  generalize hT : bset S = T at h
  cases h with
  | nil =>
   exfalso
   apply h0
   apply Nat.eq_of_testBit_eq
   intro i
   have : ¬ bset S i := by rw [hT]; exact id
   unfold bset at this
   simpa using this
  | @snoc S' v h1 hv hs ha =>
   have hv' : bset S v := by rw [hT]; exact .inr rfl
   have e : S' = bset (diff S (2 ^ v)) := funext fun u => propext (by
    rw [diff_bset, hT, two_pow_bit]
    constructor
    ·intro h; exact ⟨.inl h, fun e => hs (e ▸ h)⟩
    ·rintro ⟨h | h, h'⟩
     ·exact h
     ·exact (h' h).elim)
   subst e
   exact ⟨v, by rw [← hT]; exact hv', h1, (nb v hv').1 ha⟩
 ·rintro ⟨v, hv, h1, h2⟩
  refine (Elim.snoc v h1 (bit_lt hS hv) (fun h => ?_) ((nb v hv).2 h2)).ext fun u => ?_
  ·rw [diff_bset] at h
   exact h.2 ((two_pow_bit v v).2 rfl)
  ·rw [diff_bset, two_pow_bit]
   constructor
   ·rintro (h | h)
    ·exact h.1
    ·subst h; exact hv
   ·intro h
    by_cases e : u = v
    ·exact .inr e
    ·exact .inl ⟨h, e⟩
theorem diff_lt {S v : Nat} (h : bset S v) : diff S (2 ^ v) < S := by
 have h1 := diff_le S (2 ^ v)
 have h2 : diff S (2 ^ v) ≠ S := fun e => by
  have := (diff_bset S (2 ^ v) v).1 (by rw [e]; exact h)
  exact this.2 ((two_pow_bit v v).2 rfl)
 omega
theorem some_bit {S : Nat} (h : S ≠ 0) : ∃ v, bset S v := by
 apply Classical.byContradiction
 intro hn
 apply h
 apply Nat.eq_of_testBit_eq
 intro i
 have : ¬ bset S i := fun hi => hn ⟨i, hi⟩
 unfold bset at this
 simpa using this
theorem elimG_big {m : Nat} {G : List Nat} (hG : Gr m G) {k : Nat} (hk : G.length ≤ k) : ∀ S, S < 2 ^ G.length → ElimG G k S := by
 intro S
 induction S using Nat.strongRecOn with
 | _ S ih =>
  intro hS
  by_cases h0 : S = 0
  ·subst h0; exact elimG_zero G k
  ·obtain ⟨v, hv⟩ := some_bit h0
   have hd := diff_lt hv
   exact (elimG_step hG hS h0).2 ⟨v, hv, ih _ hd (by omega), Nat.le_trans (pc_le _ _) hk⟩
theorem pc_more {x n : Nat} (hx : x < 2 ^ n) : ∀ d, pc x (n + d) = pc x n
 | 0 => rfl
 | d + 1 => by
  rw [← Nat.add_assoc]
  simp only [pc]
  rw [pc_more hx d, testBit_ge hx (by omega)]
  rfl
theorem pc_nine {x n : Nat} (hx : x < 2 ^ n) (hn : n ≤ 9) : pc x 9 = pc x n := by
 have := pc_more hx (9 - n)
 rwa [show n + (9 - n) = 9 by omega] at this
def IsWidth (G : List Nat) (W : Nat) : Prop := ∀ k, W ≤ k ↔ ElimG G k (2 ^ G.length - 1)
theorem IsWidth.uniq {G : List Nat} {a b : Nat} (h : IsWidth G a) (h' : IsWidth G b) : a = b := by
 have h1 := (h b).2 ((h' b).1 (Nat.le_refl _))
 have h2 := (h' a).2 ((h a).1 (Nat.le_refl _))
 omega
theorem all_bit (n u : Nat) : bset (2 ^ n - 1) u ↔ u < n := by
 unfold bset; rw [Nat.testBit_two_pow_sub_one, decide_eq_true_eq]
theorem width_exists {m : Nat} {G : List Nat} (hG : Gr m G) : ∃ W, IsWidth G W ∧ W ≤ G.length := by
 have h2 := Nat.two_pow_pos G.length
 have hall : ElimG G G.length (2 ^ G.length - 1) := elimG_big hG (Nat.le_refl _) _ (by omega)
 have key : ∀ n, ElimG G n (2 ^ G.length - 1) → ∃ W, IsWidth G W ∧ W ≤ n := by
  intro n
  induction n with
  | zero => intro h; exact ⟨0, fun k => ⟨fun _ => Elim.mono h (Nat.zero_le k), fun _ => Nat.zero_le k⟩, Nat.le_refl _⟩
  | succ n ih =>
   intro h
   by_cases h' : ElimG G n (2 ^ G.length - 1)
   ·obtain ⟨W, h1, h2⟩ := ih h'; exact ⟨W, h1, by omega⟩
   ·refine ⟨n + 1, fun k => ⟨fun hk => Elim.mono h hk, fun hk => ?_⟩, Nat.le_refl _⟩
    apply Classical.byContradiction
    intro hlt
    exact h' (Elim.mono hk (by omega))
 exact key _ hall
end Go.Proofs.YtoffehihicabcaaDoor.T
end
section
namespace Go.Proofs.YtoffehihicabcaaDoor.X
open Go.RowKit YtoffehihicabcaaDoorW.PrintWords YtoffehihicabcaaDoorW.PrintLast YtoffehihicabcaaDoorW.PrintMore YtoffehihicabcaaDoor.T
theorem read_l1 (g : List Int) (hn : g.length ≤ 9) (i : Nat) (hi : i < g.length) (r : List Int × Bool)
  (hrest : Ev (fun k => width_read.l0 k g (g.length : Int) g (g.length : Int) ((i + 1 : Nat) : Int)) r) :
  ∀ d j, j + d = g.length → Ev (fun k => width_read.l1 k g (g.length : Int) (i : Int) (rd g (i : Int)) g (g.length : Int) (i : Int) (g.length : Int) (j : Int))
   (cond (allFrom (fun j => decide (ibit (rd g (i : Int)) j = ibit (rd g (j : Int)) i)) g.length d j) r (([] : List Int), false)) := by
 intro d
 induction d with
 | zero =>
  intro j hj
  refine Ev.step (fun k => ?_) hrest
  rw [width_read.l1, if_neg (by omega), wrap_succ i (by omega)]
 | succ d ih =>
  intro j hj
  simp only [allFrom]
  by_cases hb : ibit (rd g (i : Int)) j = ibit (rd g (j : Int)) i
  ·refine Ev.step (f := fun k => width_read.l1 k g (g.length : Int) (i : Int) (rd g (i : Int)) g (g.length : Int) (i : Int) (g.length : Int) ((j + 1 : Nat) : Int)) (fun k => ?_) ?_
   ·rw [width_read.l1, if_pos (by omega), if_pos (by omega), if_pos (by omega), if_pos (by omega), wrap_succ j (by omega)]
    exact if_pos hb
   ·have := ih (j + 1) (by omega)
    simpa [hb] using this
  ·refine Ev.step (f := fun _ => some (([] : List Int), false)) (fun k => ?_) (Ev.some (by simp [hb]))
   rw [width_read.l1, if_pos (by omega), if_pos (by omega), if_pos (by omega), if_pos (by omega)]
   exact if_neg hb
theorem read_l0 (g : List Int) (hn : g.length ≤ 9) :
  ∀ d i, i + d = g.length → Ev (fun k => width_read.l0 k g (g.length : Int) g (g.length : Int) (i : Int)) (cond (allFrom (rowOk g) g.length d i) (g, true) (([] : List Int), false)) := by
 intro d
 induction d with
 | zero =>
  intro i hi
  refine Ev.step (f := fun _ => some (g, true)) (fun k => ?_) (Ev.some (by simp [allFrom]))
  rw [width_read.l0, if_neg (by omega)]
 | succ d ih =>
  intro i hi
  have stop : ∀ k, width_read.j2 (k + 1) g (g.length : Int) (i : Int) (rd g (i : Int)) g (g.length : Int) (i : Int) true = some (([] : List Int), false) := fun k => by
   rw [width_read.j2, if_pos rfl]
  simp only [allFrom, rowOk]
  by_cases h1 : rd g (i : Int) < 0
  ·refine Ev.step (fun k => ?_) (f := fun k => width_read.j2 k g (g.length : Int) (i : Int) (rd g (i : Int)) g (g.length : Int) (i : Int) true) ?_
   ·rw [width_read.l0, if_pos (by omega), if_pos (by omega), if_pos (by omega), if_pos h1]
   ·exact Ev.step stop (Ev.some (by simp [h1]))
  ·by_cases h2 : rd g (i : Int) ≥ shl .i64 1 (g.length : Int)
   ·refine Ev.step (fun k => ?_) (f := fun k => width_read.j2 k g (g.length : Int) (i : Int) (rd g (i : Int)) g (g.length : Int) (i : Int) true) ?_
    ·rw [width_read.l0, if_pos (by omega), if_pos (by omega), if_pos (by omega), if_neg h1, if_pos (by omega), if_pos h2]
    ·exact Ev.step stop (Ev.some (by simp [h2]))
   ·refine Ev.step (fun k => ?_) (f := fun k => width_read.j2 k g (g.length : Int) (i : Int) (rd g (i : Int)) g (g.length : Int) (i : Int) (ibit (rd g (i : Int)) i == 1)) ?_
    ·rw [width_read.l0, if_pos (by omega), if_pos (by omega), if_pos (by omega), if_neg h1, if_pos (by omega), if_neg h2]
     rfl
    ·by_cases h3 : (ibit (rd g (i : Int)) i == 1) = true
     ·simp only [h3]
      exact Ev.step stop (Ev.some (by simp))
     ·refine Ev.step (fun k => by rw [width_read.j2, if_neg h3]) ?_
      have := read_l1 g hn i (by omega) _ (ih (i + 1) (by omega)) g.length 0 (by omega)
      have h3' : (ibit (rd g (i : Int)) i == 1) = false := by simpa using h3
      simp only [h1, h2, h3', decide_false, Bool.not_false, Bool.true_and]
      cases h4 : allFrom (fun j => decide (ibit (rd g (i : Int)) j = ibit (rd g (j : Int)) i)) g.length g.length 0
      ·simpa [h4] using this
      ·simpa [h4] using this
theorem read_ev (g : List Int) (hg : g.length < 2 ^ 60) : Ev (fun k => width_read.f k g) (cond (chk 9 g) (g, true) (([] : List Int), false)) := by
 have stop : ∀ k, width_read.j0 (k + 1) g (g.length : Int) true = some (([] : List Int), false) := fun k => by
  rw [width_read.j0, if_pos rfl]
 by_cases h1 : g.length < 1
 ·refine Ev.congr (f := fun k => width_read.j0 k g (g.length : Int) true) (fun k => ?_) (Ev.step stop (Ev.some ?_))
  ·rw [width_read.f, if_pos (by omega)]
  ·have : ¬ 1 ≤ g.length := by omega
   simp [chk, this]
 ·refine Ev.congr (f := fun k => width_read.j0 k g (g.length : Int) (decide ((g.length : Int) > 9))) (fun k => ?_) ?_
  ·rw [width_read.f, if_neg (by omega)]
  ·by_cases h2 : g.length ≤ 9
   ·have e : decide ((g.length : Int) > 9) = false := decide_eq_false (by omega)
    rw [e]
    refine Ev.step (fun k => by rw [width_read.j0, if_neg (by simp)]) ?_
    have := read_l0 g h2 g.length 0 (by omega)
    have h3 : decide (1 ≤ g.length) = true := decide_eq_true (by omega)
    simpa [chk, h2, h3] using this
   ·have e : decide ((g.length : Int) > 9) = true := decide_eq_true (by omega)
    rw [e]
    refine Ev.step stop (Ev.some ?_)
    simp [chk, h2]
def PS (G : List Nat) (S x : Nat) : Prop := ∀ k, x ≤ k ↔ ElimG G k S
theorem mx_nat (a b : Nat) : mx (a : Int) (b : Int) = ((max a b : Nat) : Int) := by unfold mx; split <;> omega
theorem mn_nat (a b : Nat) : mn (a : Int) (b : Int) = ((min a b : Nat) : Int) := by unfold mn; split <;> omega
def Good (G : List Nat) (r : List Int) : Prop := ∃ W : List Nat, r = gi W ∧ W.length = 2 ^ G.length ∧ ∀ S, S < 2 ^ G.length → PS G S (W.getD S 0)
theorem getD_set (W : List Nat) (i j x : Nat) (hi : i < W.length) : (W.set i x).getD j 0 = if j = i then x else W.getD j 0 := by
 simp only [List.getD_eq_getElem?_getD, List.getElem?_set]
 by_cases h : i = j
 ·subst h; simp [hi]
 ·rw [if_neg h, if_neg (fun e => h e.symm)]
theorem widths_l1 (G : List Nat) (hG : Gr 9 G) (S : Nat) (hS : S < 2 ^ G.length) (h0 : S ≠ 0)
  (cont : ∀ W : List Nat, W.length = 2 ^ G.length → (∀ T, T < S + 1 → PS G T (W.getD T 0)) → ∃ r, Ev (fun k => width_town_widths.l0 k (gi G) (gi W) ((S + 1 : Nat) : Int)) r ∧ Good G r) :
  ∀ d i (W : List Nat), i + d = (els S 9).length → W.length = 2 ^ G.length → (∀ T, T < S → PS G T (W.getD T 0)) →
   (∀ k, W.getD S 0 ≤ k ↔ G.length ≤ k ∨ ∃ v, v ∈ (els S 9).take i ∧ ElimG G k (diff S (2 ^ v)) ∧ pc (nbset G (diff S (2 ^ v)) v) 9 ≤ k) →
   ∃ r, Ev (fun k => width_town_widths.l1 k (gi G) (gi W) (S : Int) (gi (els S 9)) ((els S 9).length : Int) (i : Int)) r ∧ Good G r := by
 have hS5 := small G hG.most hS
 have h29 : 2 ^ G.length ≤ 2 ^ 9 := Nat.pow_le_pow_right (by omega) hG.most
 have hn := hG.most
 have hlen : (els S 9).length ≤ 9 := by rw [els_length]; exact pc_le _ _
 intro d
 induction d with
 | zero =>
  intro i W hi hW hT hc
  have hPS : PS G S (W.getD S 0) := by
   intro k
   rw [hc k]
   by_cases hk : G.length ≤ k
   ·exact ⟨fun _ => elimG_big hG hk S hS, fun _ => .inl hk⟩
   ·rw [elimG_step hG hS h0]
    have e : (els S 9).take i = els S 9 := List.take_of_length_le (by omega)
    rw [e]
    constructor
    ·rintro (h | ⟨v, hv, h1, h2⟩)
     ·exact (hk h).elim
     ·exact ⟨v, (mem_els.1 hv).2, h1, by rwa [← pc_nine (nbset_lt hG _ _) hn]⟩
    ·rintro ⟨v, hv, h1, h2⟩
     exact .inr ⟨v, mem_els.2 ⟨Nat.lt_of_lt_of_le (bit_lt hS hv) hn, hv⟩, h1, by rwa [pc_nine (nbset_lt hG _ _) hn]⟩
  obtain ⟨r, h1, h2⟩ := cont W hW (fun T hT' => by
   by_cases e : T = S
   ·subst e; exact hPS
   ·exact hT T (by omega))
  refine ⟨r, Ev.step (fun k => ?_) h1, h2⟩
  rw [width_town_widths.l1, if_neg (by omega), wrap_succ S (by omega)]
 | succ d ih =>
  intro i W hi hW hT hc
  have hi' : i < (els S 9).length := by omega
  have hmem := List.getElem_mem hi'
  have hv := (mem_els.1 hmem).2
  have hvn := bit_lt hS hv
  have hr : rd (gi (els S 9)) (i : Int) = (((els S 9)[i] : Nat) : Int) := by rw [rd_gi, List.getD_eq_getElem?_getD, List.getElem?_eq_getElem hi']; rfl
  generalize hev : (els S 9)[i] = v at hr hv hvn hmem
  have hp : 2 ^ v < 2 ^ G.length := Nat.pow_lt_pow_right (by omega) hvn
  have hd : diff S (2 ^ v) < S := diff_lt hv
  have hdl : diff S (2 ^ v) < 2 ^ G.length := by omega
  have hdeg := degree_ev G hG (diff S (2 ^ v)) v hdl hvn
  obtain ⟨r, h1, h2⟩ := ih (i + 1) (W.set S (min (W.getD S 0) (max (W.getD (diff S (2 ^ v)) 0) (pc (nbset G (diff S (2 ^ v)) v) 9)))) (by omega) (by simpa using hW)
   (fun T hT' => by
    rw [getD_set W _ _ _ (by omega), if_neg (by omega)]
    exact hT T hT')
   (fun k => by
    rw [getD_set W _ _ _ (by omega), if_pos rfl]
    have hps := hT _ hd k
    have htake : (els S 9).take (i + 1) = (els S 9).take i ++ [v] := by rw [List.take_succ_eq_append_getElem hi', hev]
    rw [htake]
    constructor
    ·intro h
     by_cases hk : W.getD S 0 ≤ k
     ·rcases (hc k).1 hk with h | ⟨u, hu, h3⟩
      ·exact .inl h
      ·exact .inr ⟨u, List.mem_append_left _ hu, h3⟩
     ·refine .inr ⟨v, List.mem_append_right _ (List.mem_singleton.2 rfl), hps.1 (by omega), by omega⟩
    ·rintro (h | ⟨u, hu, h3, h4⟩)
     ·have := (hc k).2 (.inl h); omega
     ·rcases List.mem_append.1 hu with hu | hu
      ·have := (hc k).2 (.inr ⟨u, hu, h3, h4⟩); omega
      ·obtain rfl := List.mem_singleton.1 hu
       have := hps.2 h3
       omega)
  refine ⟨r, Ev.step (f := fun k => (width_town_degree.f k (gi G) (v : Int) ((diff S (2 ^ v) : Nat) : Int)).bind fun t => width_town_widths.l1 k (gi G) ((gi W).set (S : Int).toNat (mn (rd (gi W) (S : Int)) (mx (rd (gi W) ((diff S (2 ^ v) : Nat) : Int)) t))) (S : Int) (gi (els S 9)) ((els S 9).length : Int) ((i + 1 : Nat) : Int)) (fun k => ?_) (Ev.bind hdeg ?_), h2⟩
  ·rw [width_town_widths.l1, if_pos (by omega), if_pos (by omega), if_pos (by rw [gi_length]; omega), if_pos (by omega), if_pos (by rw [gi_length]; omega), hr, if_pos (by omega), s_one v (by omega),
    b_andNot S (2 ^ v) (big hS5) (big (small G hn hp)), if_pos (by omega), if_pos (by rw [gi_length]; omega), wrap_succ i (by omega)]
  ·simp only [rd_gi, mx_nat, mn_nat, Int.toNat_natCast, gi_set]
   exact h1
theorem widths_l0 (G : List Nat) (hG : Gr 9 G) : ∀ d S (W : List Nat), S + d = 2 ^ G.length → 0 < S → W.length = 2 ^ G.length → (∀ T, T < S → PS G T (W.getD T 0)) →
  ∃ r, Ev (fun k => width_town_widths.l0 k (gi G) (gi W) (S : Int)) r ∧ Good G r := by
 have h29 : 2 ^ G.length ≤ 2 ^ 9 := Nat.pow_le_pow_right (by omega) hG.most
 intro d
 induction d with
 | zero =>
  intro S W hS h0 hW hT
  refine ⟨gi W, Ev.step (f := fun _ => some (gi W)) (fun k => ?_) (Ev.some rfl), W, rfl, hW, fun T h => hT T (by omega)⟩
  rw [width_town_widths.l0, if_neg (by rw [gi_length]; omega)]
 | succ d ih =>
  intro S W hS h0 hW hT
  have hSn : S < 2 ^ G.length := by omega
  have hS5 := small G hG.most hSn
  obtain ⟨r, h1, h2⟩ := widths_l1 G hG S hSn (by omega) (fun W' hW' hT' => ih (S + 1) W' (by omega) (by omega) hW' hT') (els S 9).length 0 (W.set S G.length) (by omega) (by simpa using hW)
   (fun T hT' => by
    rw [getD_set W _ _ _ (by omega), if_neg (by omega)]
    exact hT T hT')
   (fun k => by
    rw [getD_set W _ _ _ (by omega), if_pos rfl]
    simp)
  refine ⟨r, Ev.step (fun k => by rw [width_town_widths.l0, if_pos (by rw [gi_length]; omega), if_pos (by omega)]) (Ev.bind (nodes_ev S hS5) ?_), h2⟩
  simp only [Int.toNat_natCast, gi_length]
  have e : (gi W).set S (G.length : Int) = gi (W.set S G.length) := gi_set W S G.length
  rw [e]
  exact h1
theorem widths_ev (G : List Nat) (hG : Gr 9 G) : ∃ r, Ev (fun k => width_town_widths.f k (gi G)) r ∧ Good G r := by
 have h29 : 2 ^ G.length ≤ 2 ^ 9 := Nat.pow_le_pow_right (by omega) hG.most
 have h2p := Nat.two_pow_pos G.length
 have hn := hG.most
 obtain ⟨r, h1, h2⟩ := widths_l0 G hG (2 ^ G.length - 1) 1 (List.replicate (2 ^ G.length) 0) (by omega) (by omega) (by simp)
  (fun T hT k => by
   have : T = 0 := by omega
   subst this
   have e : (List.replicate (2 ^ G.length) 0).getD 0 0 = 0 := by
    rw [List.getD_eq_getElem?_getD, List.getElem?_replicate]; split <;> rfl
   rw [e]
   exact ⟨fun _ => elimG_zero G k, fun _ => Nat.zero_le k⟩)
 refine ⟨r, Ev.congr (fun k => ?_) h1, h2⟩
 unfold width_town_widths.f
 rw [gi_length, s_one _ (by omega), if_pos (by omega), Int.toNat_natCast, if_pos (by omega)]
 have e : List.replicate (2 ^ G.length) (0 : Int) = gi (List.replicate (2 ^ G.length) 0) := by simp [gi]
 rw [e]
 rfl
theorem width_ev (G : List Nat) (hG : Gr 9 G) : ∃ W : Nat, IsWidth G W ∧ Ev (fun k => width_town_width.f k (gi G)) (W : Int) := by
 have h2p := Nat.two_pow_pos G.length
 obtain ⟨r, h1, W, rfl, hW, hg⟩ := widths_ev G hG
 refine ⟨W.getD (2 ^ G.length - 1) 0, hg _ (by omega), ?_⟩
 unfold width_town_width.f
 refine Ev.bind h1 (Ev.bind1 (all_eq G hG.most) ?_)
 refine Ev.if_pos (by omega) (Ev.if_pos (by rw [gi_length]; omega) (Ev.some ?_))
 rw [rd_gi]
theorem awake_ev : Ev (fun k => lampblacklaw02_awake.f k) true := Ev.of (lampblacklaw02_awake.mono) (k := 40) (by decide +kernel)
end Go.Proofs.YtoffehihicabcaaDoor.X
end
section
namespace Go.Proofs.YtoffehihicabcaaDoor.T
open Go.RowKit YtoffehihicabcaaDoorW.PrintWords YtoffehihicabcaaDoorW.PrintLast YtoffehihicabcaaDoorW.PrintMore
def IsOrd (n : Nat) (l : List Int) : Prop := ∃ P : List Nat, l = gi P ∧ P.Nodup ∧ (∀ v ∈ P, v < n) ∧ P.length = n
theorem gi_inj {a b : List Nat} (h : gi a = gi b) : a = b := by
 induction a generalizing b with
 | nil => cases b with
  | nil => rfl
  | cons => simp [gi] at h
 | cons x a ih => cases b with
  | nil => simp [gi] at h
  | cons y b =>
   simp only [gi, List.map_cons, List.cons.injEq] at h
   rw [ih (show gi a = gi b from h.2)]
   congr 1
   omega
theorem covers_of_nodup {P : List Nat} {n : Nat} (hl : P.length = n) (hn : P.Nodup) (h : ∀ v ∈ P, v < n) (j : Nat) (hj : j < n) : j ∈ P := by
 apply Classical.byContradiction
 intro hno
 have := nodup_le (List.nodup_cons.2 ⟨hno, hn⟩) (m := List.range n) fun x hx => by
  rcases List.mem_cons.1 hx with e | e
  ·subst e; exact List.mem_range.2 hj
  ·exact List.mem_range.2 (h x e)
 simp at this
 omega
def lset : List Nat → Nat
 | [] => 0
 | v :: P => lset P ||| 2 ^ v
theorem lset_bit (P : List Nat) (j : Nat) : bset (lset P) j ↔ j ∈ P := by
 induction P with
 | nil => simp [lset, bset]
 | cons v P ih => rw [lset, or_bset, ih, two_pow_bit, List.mem_cons]; exact Or.comm
theorem lset_lt {P : List Nat} {n : Nat} (h : ∀ v ∈ P, v < n) : lset P < 2 ^ n := lt_of_bits fun j hj => h j ((lset_bit P j).1 hj)
theorem lset_snoc (P : List Nat) (v : Nat) : lset (P ++ [v]) = lset P ||| 2 ^ v := eq_of_bits fun j => by
 show bset _ _ ↔ bset _ _
 rw [lset_bit, or_bset, lset_bit, two_pow_bit, List.mem_append, List.mem_singleton]
theorem IsOrd.of {n : Nat} {P : List Nat} (h1 : P.Nodup) (h2 : ∀ v ∈ P, v < n) : IsOrd n (gi P) ↔ P.length = n := by
 constructor
 ·rintro ⟨Q, e, _, _, h⟩
  rw [gi_inj e]; exact h
 ·intro h; exact ⟨P, rfl, h1, h2, h⟩
theorem IsOrd.length {n : Nat} {l : List Int} (h : IsOrd n l) : l.length = n := by
 obtain ⟨P, rfl, _, _, h⟩ := h
 rw [gi_length, h]
noncomputable def dg (G : List Nat) (gone v : Nat) : Nat := pc (nbset G gone v) 9
def lft (G : List Nat) (gone : Nat) : Nat := diff (2 ^ G.length - 1) gone
theorem lft_bit (G : List Nat) (gone v : Nat) : bset (lft G gone) v ↔ v < G.length ∧ ¬ bset gone v := by
 unfold lft; rw [diff_bset, all_bit]
theorem lft_lt (G : List Nat) (gone : Nat) : lft G gone < 2 ^ G.length := by
 have := Nat.two_pow_pos G.length
 exact Nat.lt_of_le_of_lt (diff_le _ _) (by omega)
noncomputable def canD (G : List Nat) (k : Nat) : Nat → Nat → Bool
 | 0, _ => true
 | d + 1, gone => (els (lft G gone) 9).any fun v => decide (dg G gone v ≤ k) && canD G k d (gone ||| 2 ^ v)
noncomputable def canB (G : List Nat) (k gone : Nat) : Bool := canD G k (pc (lft G gone) 9) gone
theorem eq_bits {x y : Nat} (h : ∀ j, bset x j ↔ bset y j) : x = y := Nat.eq_of_testBit_eq fun j => by
 have := h j
 unfold bset at this
 exact Bool.eq_iff_iff.2 this
theorem or_bit (x v j : Nat) : bset (x ||| 2 ^ v) j ↔ bset x j ∨ j = v := by
 unfold bset
 rw [Nat.testBit_or, Bool.or_eq_true]
 have := two_pow_bit v j
 unfold bset at this
 rw [this]
theorem lft_or {G : List Nat} {gone v : Nat} : lft G (gone ||| 2 ^ v) = diff (lft G gone) (2 ^ v) := by
 apply eq_bits
 intro j
 rw [lft_bit, or_bit, diff_bset, lft_bit, two_pow_bit, not_or]
 exact and_assoc.symm
theorem pc_drop {X v : Nat} (hX : X < 512) (hv : bset X v) : pc X 9 = pc (diff X (2 ^ v)) 9 + 1 := by
 have hv9 : v < 9 := bit_lt hX hv
 have h1 : (els X 9).length = pc X 9 := els_length X 9
 have h2 : (els (diff X (2 ^ v)) 9).length = pc (diff X (2 ^ v)) 9 := els_length _ 9
 have hm : v ∈ els X 9 := mem_els.2 ⟨hv9, hv⟩
 have h3 : ∀ x, x ∈ els (diff X (2 ^ v)) 9 ↔ x ∈ (els X 9).erase v := fun x => by
  rw [(els_nodup X 9).mem_erase_iff, mem_els, mem_els]
  have := diff_bset X (2 ^ v) x
  unfold bset at this
  rw [this]
  have h4 := two_pow_bit v x
  unfold bset at h4
  rw [h4]
  exact ⟨fun ⟨a, b, c⟩ => ⟨c, a, b⟩, fun ⟨c, a, b⟩ => ⟨a, b, c⟩⟩
 have h4 : (els (diff X (2 ^ v)) 9).length = ((els X 9).erase v).length := Nat.le_antisymm (nodup_le (els_nodup _ _) fun x hx => (h3 x).1 hx) (nodup_le ((els_nodup X 9).erase v) fun x hx => (h3 x).2 hx)
 rw [List.length_erase_of_mem hm] at h4
 have : 0 < (els X 9).length := List.length_pos_of_mem hm
 omega
section
variable {G : List Nat} (hn : G.length ≤ 9)
include hn
theorem lft_small (gone : Nat) : lft G gone < 512 := Nat.lt_of_lt_of_le (lft_lt G gone) (show 2 ^ G.length ≤ 2 ^ 9 from Nat.pow_le_pow_right (by omega) hn)
theorem pc_lft {gone v : Nat} (hv : bset (lft G gone) v) : pc (lft G gone) 9 = pc (lft G (gone ||| 2 ^ v)) 9 + 1 := by
 rw [lft_or]
 exact pc_drop (lft_small hn gone) hv
omit hn in
theorem lft_all : lft G (2 ^ G.length - 1) = 0 := eq_bits fun j => by
 rw [lft_bit, all_bit]
 simp [bset]
omit hn in
theorem canB_all (k : Nat) : canB G k (2 ^ G.length - 1) = true := by
 unfold canB
 rw [lft_all]
 rfl
omit hn in
theorem pc_pos {X : Nat} (hX : X < 512) (h0 : X ≠ 0) : pc X 9 ≠ 0 := by
 obtain ⟨v, hv⟩ := some_bit h0
 have := pc_drop hX hv
 omega
omit hn in
theorem lft_ne {gone : Nat} (hg : gone < 2 ^ G.length) (hne : gone ≠ 2 ^ G.length - 1) : lft G gone ≠ 0 := fun h => hne (eq_bits fun j => by
 rw [all_bit]
 constructor
 ·exact fun hj => bit_lt hg hj
 ·intro hj
  apply Classical.byContradiction
  intro hb
  have := (lft_bit G gone j).2 ⟨hj, hb⟩
  rw [h] at this
  simp [bset] at this)
theorem canB_step {k gone : Nat} (hg : gone < 2 ^ G.length) (hne : gone ≠ 2 ^ G.length - 1) :
  canB G k gone = (els (lft G gone) 9).any fun v => decide (dg G gone v ≤ k) && canB G k (gone ||| 2 ^ v) := by
 have h1 := pc_pos (lft_small hn gone) (lft_ne hg hne)
 unfold canB
 obtain ⟨d, hd⟩ := Nat.exists_eq_succ_of_ne_zero h1
 rw [hd, canD]
 rw [Bool.eq_iff_iff, List.any_eq_true, List.any_eq_true]
 have key : ∀ v, v ∈ els (lft G gone) 9 → pc (lft G (gone ||| 2 ^ v)) 9 = d := fun v hv => by
  have := pc_lft hn (mem_els.1 hv).2
  omega
 constructor
 ·rintro ⟨v, hv, h⟩
  exact ⟨v, hv, by rw [key v hv]; exact h⟩
 ·rintro ⟨v, hv, h⟩
  refine ⟨v, hv, ?_⟩
  rw [key v hv] at h
  exact h
theorem canB_true {k gone : Nat} (hg : gone < 2 ^ G.length) (hne : gone ≠ 2 ^ G.length - 1) : canB G k gone = true ↔ ∃ v, bset (lft G gone) v ∧ dg G gone v ≤ k ∧ canB G k (gone ||| 2 ^ v) = true := by
 rw [canB_step hn hg hne, List.any_eq_true]
 constructor
 ·rintro ⟨v, hv, h⟩
  rw [Bool.and_eq_true, decide_eq_true_eq] at h
  exact ⟨v, (mem_els.1 hv).2, h.1, h.2⟩
 ·rintro ⟨v, hv, h1, h2⟩
  exact ⟨v, mem_els.2 ⟨bit_lt (lft_small hn gone) hv, hv⟩, by rw [Bool.and_eq_true, decide_eq_true_eq]; exact ⟨h1, h2⟩⟩
omit hn in
theorem or_in {gone v : Nat} (hg : gone < 2 ^ G.length) (hv : bset (lft G gone) v) : gone ||| 2 ^ v < 2 ^ G.length :=
 Nat.or_lt_two_pow hg (Nat.pow_lt_pow_right (by omega) ((lft_bit G gone v).1 hv).1)
theorem canB_from {m : Nat} (hG : Gr m G) {k : Nat} : ∀ S, S < 2 ^ G.length → ElimG G k S → canB G k S = true → canB G k 0 = true := by
 intro S
 induction S using Nat.strongRecOn with
 | _ S ih =>
  intro hS hE hc
  by_cases h0 : S = 0
  ·subst h0; exact hc
  ·obtain ⟨v, hv, h1, h2⟩ := (elimG_step hG hS h0).1 hE
   have hd := diff_lt hv
   refine ih _ hd (by omega) h1 ?_
   have hvn : v < G.length := bit_lt hS hv
   have hvb : bset (lft G (diff S (2 ^ v))) v := (lft_bit _ _ _).2 ⟨hvn, fun h => ((diff_bset _ _ _).1 h).2 ((two_pow_bit v v).2 rfl)⟩
   refine (canB_true hn (by omega) (by omega)).2 ⟨v, hvb, ?_, ?_⟩
   ·unfold dg
    rw [pc_nine (nbset_lt hG _ _) hn]
    exact h2
   ·rw [show diff S (2 ^ v) ||| 2 ^ v = S from eq_bits fun j => by
     rw [or_bit, diff_bset, two_pow_bit]
     constructor
     ·rintro (h | rfl)
      ·exact h.1
      ·exact hv
     ·intro h
      by_cases e : j = v
      ·exact .inr e
      ·exact .inl ⟨h, e⟩]
    exact hc
theorem canB_elim {m : Nat} (hG : Gr m G) {k : Nat} : ∀ d gone, pc (lft G gone) 9 = d → gone < 2 ^ G.length → ElimG G k gone → canB G k gone = true → ElimG G k (2 ^ G.length - 1) := by
 intro d
 induction d with
 | zero =>
  intro gone hd hg hE hc
  by_cases hne : gone = 2 ^ G.length - 1
  ·rw [← hne]; exact hE
  ·exact absurd hd (pc_pos (lft_small hn gone) (lft_ne hg hne))
 | succ d ih =>
  intro gone hd hg hE hc
  by_cases hne : gone = 2 ^ G.length - 1
  ·rw [← hne]; exact hE
  ·obtain ⟨v, hv, h1, h2⟩ := (canB_true hn hg hne).1 hc
   have h3 := pc_lft hn hv
   have hor := or_in hg hv
   have hvb := (lft_bit G gone v).1 hv
   refine ih _ (by omega) hor ?_ h2
   refine (elimG_step hG hor (fun h => ?_)).2 ⟨v, (or_bit _ _ _).2 (.inr rfl), ?_, ?_⟩
   ·have : bset (gone ||| 2 ^ v) v := (or_bit _ _ _).2 (.inr rfl)
    rw [h] at this
    simp [bset] at this
   ·rw [show diff (gone ||| 2 ^ v) (2 ^ v) = gone from eq_bits fun j => by
     rw [diff_bset, or_bit, two_pow_bit]
     constructor
     ·rintro ⟨h | h, h'⟩
      ·exact h
      ·exact absurd h h'
     ·intro h
      exact ⟨.inl h, fun e => hvb.2 (e ▸ h)⟩]
    exact hE
   ·rw [show diff (gone ||| 2 ^ v) (2 ^ v) = gone from eq_bits fun j => by
     rw [diff_bset, or_bit, two_pow_bit]
     constructor
     ·rintro ⟨h | h, h'⟩
      ·exact h
      ·exact absurd h h'
     ·intro h
      exact ⟨.inl h, fun e => hvb.2 (e ▸ h)⟩]
    unfold dg at h1
    rw [← pc_nine (nbset_lt hG _ _) hn]
    exact h1
theorem canB_zero {m : Nat} (hG : Gr m G) {k : Nat} : canB G k 0 = true ↔ ElimG G k (2 ^ G.length - 1) := by
 have h0 := Nat.two_pow_pos G.length
 exact ⟨canB_elim hn hG _ 0 rfl h0 (elimG_zero G k), fun h => canB_from hn hG _ (by omega) h (canB_all k)⟩
end
noncomputable def nextP (G : List Nat) (k gone : Nat) (v : Nat) : Bool := decide (dg G gone v ≤ k) && canB G k (gone ||| 2 ^ v)
noncomputable def ordD (G : List Nat) (k : Nat) : Nat → Nat → List Nat
 | 0, _ => []
 | d + 1, gone => match (els (lft G gone) 9).find? (nextP G k gone) with
  | some v => v :: ordD G k d (gone ||| 2 ^ v)
  | none => []
noncomputable def ordL (G : List Nat) (k : Nat) : List Nat := ordD G k G.length 0
end Go.Proofs.YtoffehihicabcaaDoor.T
end
