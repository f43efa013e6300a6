/- Part 1 of what SweepPlays rests on: contracts of the functions that it reaches, and what they compute, in plain words. -/
import Derived.Test.YtijfddobandcdaaDoorZSweepPlays0
import Derived.Deep.RegionHeld3
set_option linter.unusedVariables false
set_option linter.unusedSimpArgs false
section
/- lampblackref03.smoky and Play, by hand: a plan played street by street. -/
namespace Go.Proofs.YtijfddobandcdaaDoor.X
open Go.RowKit YtijfddobandcdaaDoorW.PrintWords YtijfddobandcdaaDoorW.PrintLast YtijfddobandcdaaDoorW.PrintMore YtijfddobandcdaaDoor.T
attribute [local go_sem] max2_int min2_int max_two min_two max_three min_three max_four min_four
theorem bitJ (a y : Nat) (ha : a < 2 ^ 62) (hy : y < 62) : ∃ J : Int, ((a : Int) / 2 ^ min y 64) = J ∧ ((a : Int) / 2 ^ y) = J ∧ shr .i64 (a : Int) (y : Int) = J ∧ (Go.bits .and .i64 J 1 == 1) = a.testBit y ∧ (Go.bits .and .i64 J 1 == 0) = !a.testBit y := by
 have e := s_shr a y hy
 refine ⟨_, rfl, ?_, ?_, ?_, ?_⟩
 ·rw [Nat.min_eq_left (by omega)]
 ·rw [e, Nat.min_eq_left (by omega)]; simp
 ·rw [show ((a : Int) / 2 ^ min y 64) = shr .i64 (a : Int) (y : Int) by rw [e, Nat.min_eq_left (by omega)]; simp, bit_at a y ha hy]
  cases a.testBit y <;> rfl
 ·rw [show ((a : Int) / 2 ^ min y 64) = shr .i64 (a : Int) (y : Int) by rw [e, Nat.min_eq_left (by omega)]; simp, bit_at a y ha hy]
  cases a.testBit y <;> rfl
theorem shJ (v : Nat) (hv : v < 62) : ∃ J : Int, (wrap64 (2 ^ v) = J ∧ wrap64 (2 ^ min v 64) = J ∧ shl .i64 1 (v : Int) = J) ∧ J = ((2 ^ v : Nat) : Int) := by
 have e := s_one v hv
 have h : (2 : Nat) ^ v < 2 ^ 62 := Nat.pow_lt_pow_right (by omega) hv
 have h2 : wrap64 (2 ^ v) = ((2 ^ v : Nat) : Int) := by
  rw [show ((2 : Int) ^ v) = ((2 ^ v : Nat) : Int) by simp]
  generalize 2 ^ v = x at *
  exact w64_small _ (by omega) (by omega)
 exact ⟨_, ⟨h2, by rw [Nat.min_eq_left (by omega)]; exact h2, e⟩, rfl⟩
def BRow (W : World) (g : Nat) (C : List Bool) : Prop := W.heap[g]? = some (.cells (C.map Value.bool).toArray 81 (0, 0))
theorem BRow.lt {W : World} {g : Nat} {C : List Bool} (h : BRow W g C) : g < W.heap.size := (Array.getElem?_eq_some_iff.1 h).1
theorem BRow.cell {W : World} {g : Nat} {C : List Bool} (h : BRow W g C) (i : Nat) (hi : i < C.length) : W.cell? ⟨g, i, none⟩ = some (.bool (C.getD i false)) := by
 unfold World.cell?
 rw [show W.heap[(⟨g, i, none⟩ : Addr).block]? = _ from h]
 simp only [Option.isSome_none, Bool.false_eq_true, if_false]
 simp [List.getElem?_eq_getElem hi]
theorem BRow.frozen {W : World} {g : Nat} {C : List Bool} (h : BRow W g C) (i : Nat) : W.frozen? ⟨g, i, none⟩ = false := by
 unfold World.frozen?
 rw [show W.heap[(⟨g, i, none⟩ : Addr).block]? = _ from h]
 simp
theorem BRow.below {W V : World} {g : Nat} {C : List Bool} (h : BRow W g C) (hb : Below W.heap.size W V) : BRow V g C := (hb.block g h.lt).trans h
theorem BRow.other {W : World} {g : Nat} {C : List Bool} (h : BRow W g C) {p : Addr} (hne : g ≠ p.block) (u : Value) : BRow (W.setCell p u) g C := (Below.heap_setCell W p u g hne).trans h
theorem BRow.set {W : World} {g : Nat} {C : List Bool} (h : BRow W g C) (i : Nat) (v : Bool) : BRow (W.setCell ⟨g, i, none⟩ (.bool v)) g (C.set i v) := by
 obtain ⟨hlt, hk⟩ := Array.getElem?_eq_some_iff.1 h
 show (W.heap.modify g _)[g]? = _
 rw [Array.getElem?_eq_getElem (by rw [Array.size_modify]; exact hlt), Array.getElem_modify_self, hk]
 simp [List.map_set]
def smk (G : List Nat) (C : List Bool) (gd x : Nat) : Nat → Nat → Bool
 | 0, _ => false
 | d + 1, y => if (G.getD x 0).testBit y && !C.getD (x * 8 + y) false then !gd.testBit x else smk G C gd x d (y + 1)
set_option maxHeartbeats 4000000 in
theorem smoky_calls (A0 : Option Addr) (c0 : Nat) (G : List Nat) (hG : Gr 7 G) (C : List Bool) (hC : C.length = 64) (b gd x : Nat) (R : Bool) (w : World) (hr0 : Kd.C (Kd.int .i64) w A0 (gi G).length (gi G)) (hb : BRow w b C) (hx : x < G.length) (hgd : gd < 128) (hR : smk G C gd x G.length 0 = R) :
  Calls Tryd.prog 54 #[.slice A0 G.length c0, .pointer (some ⟨b, 0, none⟩), .int .i64 gd, .int .i64 x] w fun e w' => e = .returned (.bool R) ∧ w' = w := by
 have hn := hG.most
 obtain ⟨ad, e0, hgx⟩ := Kd.at_int hr0 (x : Int) (by omega) (by rw [gi_length]; omega)
 subst e0
 rw [rd_gi, Int.toNat_natCast] at hgx
 have hrl := hG.row x
 have h27 : 2 ^ G.length ≤ 2 ^ 7 := Nat.pow_le_pow_right (by omega) hn
 obtain ⟨row, hrow⟩ : ∃ r, G.getD x 0 = r := ⟨_, rfl⟩
 rw [hrow] at hgx hrl
 have hrw : row < 128 := by omega
 have HB := Aside0.mk hb
 have HROW := Aside0.mk hrow
 have HR := Aside0.mk hR
 have HC := Aside0.mk hC
 clear hr0 hb hrow hR hrl h27 hG hC
 go_enter Tryd.func54, Tryd.ntmps54
 go_wp2
 go_loopg [12] G.length (fun kq v12 w' => ∃ y : Nat, v12 = .int .i64 (y : Int) ∧ y + kq = G.length ∧ Aside0 (smk G C gd x kq y = R) ∧ w' = w)
 case atStart => exact ⟨0, rfl, by omega, HR, rfl⟩
 case round =>
  obtain ⟨y, rfl, hy, HS, rfl⟩ := hrel
  clear HR
  by_cases hyn : y < G.length
  ·have hi1 : ((y : Int) < (G.length : Int)) = True := eq_true (by omega)
   have hi2 : decide ((y : Int) < (G.length : Int)) = true := decide_eq_true (by omega)
   cases gk with
   | zero => omega
   | succ gk =>
   have hs := HS.out
   simp only [smk, HROW.out] at hs
   clear HS
   obtain ⟨J, hJ1, hJ2, hJ3, hJ4, hJ5⟩ := bitJ row y (by omega) (by omega)
   have HWY := Aside0.mk (wrap_succ y (by omega))
   cases hbt : row.testBit y
   ·rw [hbt] at hJ4 hJ5 hs
    have HS := Aside0.mk hs
    clear hs hJ3 hbt
    go_wp2
    go_roundg gk
    case measure => omega
    case rel => exact ⟨y + 1, by go_num, by omega, ⟨by simpa using HS.out⟩, rfl⟩
   ·rw [hbt] at hJ4 hJ5 hs
    clear hJ3 hbt
    have hcell := HB.out.cell (x * 8 + y) (by have := HC.out; omega)
    cases hcl : C.getD (x * 8 + y) false
    ·rw [hcl] at hcell hs
     obtain ⟨J2, hK1, hK2, hK3, hK4, hK5⟩ := bitJ gd x (by omega) (by omega)
     clear hK3 hcl
     obtain rfl : (!gd.testBit x) = R := by simpa using hs
     clear hs
     cases hbg : gd.testBit x
     all_goals
      rw [hbg] at hK4 hK5
      have HBG := Aside0.mk hbg
      clear hbg
      go_wp2
      go_ret
      exact ⟨by rw [HBG.out]; rfl, rfl⟩
    ·rw [hcl] at hcell hs
     have HS := Aside0.mk hs
     clear hs hcl
     go_wp2
     go_roundg gk
     case measure => omega
     case rel => exact ⟨y + 1, by go_num, by omega, ⟨by simpa using HS.out⟩, rfl⟩
  ·have hi1 : ((y : Int) < (G.length : Int)) = False := eq_false (by omega)
   have hi2 : decide ((y : Int) < (G.length : Int)) = false := decide_eq_false (by omega)
   obtain rfl : gk = 0 := by omega
   obtain rfl : false = R := HS.out
   go_wp2
   go_ret
   exact ⟨rfl, rfl⟩
theorem b_xor (a b : Nat) (ha : a < 2 ^ 62) (hb : b < 2 ^ 62) : Go.bits .xor .i64 (a : Int) (b : Int) = ((a ^^^ b : Nat) : Int) := by
 have hx : a ^^^ b < 2 ^ 62 := Nat.xor_lt_two_pow ha hb
 show IntKind.i64.wrap ((BitVec.ofInt 64 (a : Int) ^^^ BitVec.ofInt 64 (b : Int)).toNat : Int) = _
 rw [BitVec.toNat_xor, u64_low a ha, u64_low b hb]
 exact i64_small _ (by omega) (by omega)
structure PS where
 gd : Nat
 most : Nat
 had : Nat
 bk : Bool
 C : List Bool
def row1 (G : List Nat) (gd x : Nat) : Nat → Nat → List Bool → List Bool
 | 0, _, C => C
 | d + 1, y, C => row1 G gd x d (y + 1) (if (G.getD x 0).testBit y && gd.testBit x && gd.testBit y then C.set (x * 8 + y) true else C)
def all1 (G : List Nat) (gd : Nat) : Nat → Nat → List Bool → List Bool
 | 0, _, C => C
 | d + 1, x, C => all1 G gd d (x + 1) (row1 G gd x G.length 0 C)
def row2 (G : List Nat) (gd x : Nat) : Nat → Nat → List Bool × Bool → List Bool × Bool
 | 0, _, C => C
 | d + 1, y, C => row2 G gd x d (y + 1) (if (G.getD x 0).testBit y && C.1.getD (x * 8 + y) false && (smk G C.1 gd x G.length 0 || smk G C.1 gd y G.length 0) then ((C.1.set (x * 8 + y) false).set (y * 8 + x) false, true) else C)
def all2 (G : List Nat) (gd : Nat) : Nat → Nat → List Bool × Bool → List Bool × Bool
 | 0, _, C => C
 | d + 1, x, C => all2 G gd d (x + 1) (row2 G gd x G.length 0 C)
def iter2 (G : List Nat) (gd : Nat) : Nat → List Bool × Bool → List Bool × Bool
 | 0, C => C
 | d + 1, C => iter2 G gd d (all2 G gd G.length 0 C)
def stepP (G : List Nat) (s : PS) (v : Nat) : PS :=
 ⟨s.gd ^^^ 2 ^ v, max s.most (pc (s.gd ^^^ 2 ^ v) 9), s.had ||| (s.gd ^^^ 2 ^ v), (iter2 G (s.gd ^^^ 2 ^ v) 64 (all1 G (s.gd ^^^ 2 ^ v) G.length 0 s.C, s.bk)).2, (iter2 G (s.gd ^^^ 2 ^ v) 64 (all1 G (s.gd ^^^ 2 ^ v) G.length 0 s.C, s.bk)).1⟩
def playTo (G : List Nat) : List S70 → PS → Option PS
 | [], s => some s
 | a :: l, s => if a.f1 < 0 then none else if (G.length : Int) ≤ a.f1 then none else if s.gd.testBit a.f1.toNat == a.f0 then none else playTo G l (stepP G s a.f1.toNat)
def row3 (G : List Nat) (C : List Bool) (x : Nat) : Nat → Nat → Bool
 | 0, _ => true
 | d + 1, y => if (G.getD x 0).testBit y && !C.getD (x * 8 + y) false then false else row3 G C x d (y + 1)
def all3 (G : List Nat) (C : List Bool) : Nat → Nat → Bool
 | 0, _ => true
 | d + 1, x => row3 G C x G.length 0 && all3 G C d (x + 1)
def finP (G : List Nat) : Option PS → Int × Bool × Bool
 | none => (0, false, false)
 | some s => if all3 G s.C G.length 0 then if s.had = 2 ^ G.length - 1 then ((s.most : Int), s.bk, true) else (0, false, false) else (0, false, false)
def p0 : PS := ⟨0, 0, 0, false, List.replicate 64 false⟩
def refPlay (G : List Nat) (l : List S70) : Int × Bool × Bool := if 100 < l.length then (0, false, false) else finP G (playTo G l p0)
def lampblackref03_Play.f (g : List Int) (l : List S70) : Option (Int × Bool × Bool) := if chk 7 g = true then some (refPlay (g.map Int.toNat) l) else none
theorem gi_toNat (G : List Nat) : (gi G).map Int.toNat = G := by
 unfold gi
 rw [List.map_map]
 conv => rhs; rw [← List.map_id G]
 exact List.map_congr_left fun x _ => by simp
theorem size_all' : ∀ x : Fin 128, lampblackref02_Size.f 12 (x.val : Int) = some (pc x.val 9 : Int) := by decide +kernel
theorem size7 (g : Nat) (h : g < 128) : lampblackref02_Size.f 12 (g : Int) = some (pc g 9 : Int) := size_all' ⟨g, h⟩
theorem big7 {x n : Nat} (h : x < 2 ^ n) (hn : 2 ^ n ≤ 128) : x < 2 ^ 62 := Nat.lt_of_lt_of_le h (Nat.le_trans hn (by decide))
theorem row1_len (G : List Nat) (gd x : Nat) : ∀ d y C, (row1 G gd x d y C).length = C.length
 | 0, _, _ => rfl
 | d + 1, y, C => by
  rw [row1, row1_len G gd x d]
  split <;> simp
set_option maxHeartbeats 8000000 in
set_option maxRecDepth 100000 in
theorem lampblackref03_Play.calls (A0 : Option Addr) (c0 : Nat) (l0 : List Int) (A1 : Option Addr) (c1 : Nat) (l1 : List S70) (r1 : Int) (r2 : Bool) (r3 : Bool) (w : World) (hr0 : Kd.C (Kd.int .i64) w A0 l0.length l0) (hc0 : l0.length ≤ c0) (hr1 : Kd.C k70 w A1 l1.length l1) (hc1 : l1.length ≤ c1) (h : lampblackref03_Play.f l0 l1 = some (r1, r2, r3)) :
  Calls Tryd.prog 24 #[.slice A0 l0.length c0, .slice A1 l1.length c1] w fun e w' => e = .returned (.tuple #[.int .i64 r1, .bool r2, .bool r3]) ∧ Below w.heap.size w w' := by
 unfold lampblackref03_Play.f at h
 by_cases hchk : chk 7 l0 = true
 ·rw [if_pos hchk] at h
  obtain ⟨G, rfl, hG⟩ := (chk_iff 7 (by omega) _).1 hchk
  rw [gi_toNat] at h
  have hn := hG.most
  have h1 := hG.pos
  rw [gi_length] at hc0
  rw [gi_length]
  have HG := Aside0.mk hG
  have H := Aside0.mk (Option.some.inj h)
  have HR := Aside0.mk hr0
  have HR1 := Aside0.mk hr1
  clear h hchk hr0 hr1 hG
  by_cases hl : l1.length ≤ 100
  ·have hl2 : decide ((l1.length : Int) > 100) = false := decide_eq_false (by omega)
   have hl3 : ((l1.length : Int) > 100) = False := eq_false (by omega)
   go_enter Tryd.func24, Tryd.ntmps24
   go_wp2
   obtain ⟨RES, hRES⟩ : ∃ R, playTo G l1 p0 = R := ⟨_, rfl⟩
   have HRES : Aside0 (playTo G (l1.drop 0) p0 = RES) := ⟨hRES⟩
   have HEND : Aside0 (finP G RES = (r1, r2, r3)) := ⟨by
    have := H.out
    unfold refPlay at this
    rwa [if_neg (by omega), hRES] at this⟩
   clear H hRES
   have HN7 : Aside0 (2 ^ G.length ≤ 128) := ⟨Nat.pow_le_pow_right (n := 2) (by omega) hn⟩
   have HW0 : Aside0 (BRow (w.alloc (.cells (List.replicate 64 (Value.bool false)).toArray 81)) w.heap.size (List.replicate 64 false)) := ⟨heap_alloc_new w _⟩
   have HBw : Aside0 (Below w.heap.size w (w.alloc (.cells (List.replicate 64 (Value.bool false)).toArray 81))) := ⟨below_alloc (Below.refl _ _) _⟩
   go_loopg [8, 9, 10, 11, 25] l1.length (fun kq v8 v9 v10 v11 v25 w' => ∃ (i : Nat) (s : PS) (M : Int), v8 = .int .i64 (s.gd : Int) ∧ v9 = .int .i64 M ∧ v10 = .int .i64 (s.had : Int) ∧ v11 = .bool s.bk ∧ v25 = .int .i64 (i : Int) ∧ i + kq = l1.length ∧ Aside0 (M = (s.most : Int)) ∧ Aside0 (playTo G (l1.drop i) s = RES) ∧ Aside0 (s.gd < 2 ^ G.length ∧ s.had < 2 ^ G.length ∧ s.C.length = 64 ∧ BRow w' w.heap.size s.C) ∧ Aside0 (Below w.heap.size w w'))
   case atStart =>
    exact ⟨0, p0, 0, rfl, rfl, rfl, rfl, rfl, by omega, ⟨rfl⟩, HRES, ⟨Nat.two_pow_pos _, Nat.two_pow_pos _, by simp [p0], HW0.out⟩, HBw⟩
   case round =>
    clear HRES HW0 HBw
    obtain ⟨i, s, M, rfl, rfl, rfl, rfl, rfl, hi, HM, HP, HS, HBw⟩ := hrel
    by_cases hil : i < l1.length
    ·have hi1 : ((i : Int) < (l1.length : Int)) = True := eq_true (by omega)
     have hi2 : decide ((i : Int) < (l1.length : Int)) = true := decide_eq_true (by omega)
     cases gk with
     | zero => omega
     | succ gi =>
     obtain ⟨ad, e1, hc0, hc1⟩ := at_T70 HR1.out (i : Int) (by omega) (by omega)
     subst e1
     have hp := HP.out
     rw [List.drop_eq_getElem_cons hil] at hp
     have hra : rd_T70 l1 (i : Int) = l1[i] := by unfold rd_T70; rw [Int.toNat_natCast, List.getD_eq_getElem?_getD, List.getElem?_eq_getElem hil]; rfl
     rw [hra, Int.toNat_natCast] at hc0 hc1
     replace hc0 := (HBw.out.cell (World.block_lt_of_cell? w _ hc0)).trans hc0
     replace hc1 := (HBw.out.cell (World.block_lt_of_cell? w _ hc1)).trans hc1
     simp only [playTo] at hp
     generalize l1[i] = a at *
     obtain ⟨pl, nd⟩ := a
     clear HP hra
     dsimp only at hp hc0 hc1
     go_wp2_with (first | ((with_reducible refine gate_dst (N := 13) rfl ?_); refine box_event ?hg (N := 13) ?hd (cs := #[.bool false, .int .i64 0]) (t := 70) ?hr ?_; (case hd => rfl); (case hg => rfl); (case hr => first | (go_simp; done) | (go_simp; rfl)); intro ga hga w7 hbox hb7; have HGA := Aside0.mk (show wr.heap.size ≤ ga by rw [hga]; exact Nat.le_refl _); clear hga; have hz0 : w7.cell? ⟨ga, 0, none⟩ = some (.bool false) := (blk_cell hbox 0).trans rfl; have hz1 : w7.cell? ⟨ga, 1, none⟩ = some (.int .i64 0) := (blk_cell hbox 1).trans rfl; have hf0 := blk_frozen hbox 0; have hf1 := blk_frozen hbox 1; have HBOX := Aside0.mk hbox; have HB7 := Aside0.mk hb7; clear hbox hb7))
     obtain ⟨hgd, hhad, hC64, hrow⟩ := HS.out
     have hbw := HBw.out.size
     have hblt := hrow.lt
     have hc80 : ((w7.setCell ⟨ga, 0, none⟩ (.bool pl)).setCell ⟨ga, 1, none⟩ (.int .i64 nd)).cell? ⟨ga, 0, none⟩ = some (.bool pl) := (blk_cell (blk_set (blk_set HBOX.out 0 (.bool pl)) 1 (.int .i64 nd)) 0).trans rfl
     have hc81 : ((w7.setCell ⟨ga, 0, none⟩ (.bool pl)).setCell ⟨ga, 1, none⟩ (.int .i64 nd)).cell? ⟨ga, 1, none⟩ = some (.int .i64 nd) := (blk_cell (blk_set (blk_set HBOX.out 0 (.bool pl)) 1 (.int .i64 nd)) 1).trans rfl
     have hrow8 : Aside0 (BRow ((w7.setCell ⟨ga, 0, none⟩ (.bool pl)).setCell ⟨ga, 1, none⟩ (.int .i64 nd )) w.heap.size s.C) := ⟨((hrow.below HB7.out).other (by have := HGA.out; simp; omega) _).other (by have := HGA.out; simp; omega) _⟩
     have hB8 : Aside0 (Below w.heap.size w ((w7.setCell ⟨ga, 0, none⟩ (.bool pl)).setCell ⟨ga, 1, none⟩ (.int .i64 nd))) := ⟨below_set (below_set (below_step HBw.out HB7.out) (by have := HGA.out; omega)) (by have := HGA.out; omega)⟩
     generalize (w7.setCell ⟨ga, 0, none⟩ (.bool pl)).setCell ⟨ga, 1, none⟩ (.int .i64 nd) = w8 at *
     clear HBOX HB7 hc0 hc1 hz0 hz1 hf0 hf1 hrow HBw
     by_cases hneg : nd < 0
     ·rw [if_pos hneg] at hp
      have hd1 : decide (nd < 0) = true := decide_eq_true hneg
      have HP := Aside0.mk hp
      clear hp
      go_quiet (fail)
      go_wp2
      go_ret3
      have hq := HEND.out
      rw [← HP.out] at hq
      simp only [finP, Prod.mk.injEq] at hq
      obtain ⟨rfl, rfl, rfl⟩ := hq
      exact ⟨rfl, pw_below_drewN hB8.out _⟩
     ·rw [if_neg hneg] at hp
      have hd1 : decide (nd < 0) = false := decide_eq_false hneg
      by_cases hge : (G.length : Int) ≤ nd
      ·rw [if_pos hge] at hp
       have hd2 : decide (nd ≥ (G.length : Int)) = true := decide_eq_true hge
       have hd3 : decide ((G.length : Int) ≤ nd) = true := decide_eq_true hge
       have HP := Aside0.mk hp
       clear hp
       go_quiet (fail)
       go_wp2
       go_ret3
       have hq := HEND.out
       rw [← HP.out] at hq
       simp only [finP, Prod.mk.injEq] at hq
       obtain ⟨rfl, rfl, rfl⟩ := hq
       exact ⟨rfl, pw_below_drewN hB8.out _⟩
      ·rw [if_neg hge] at hp
       have hd2 : decide (nd ≥ (G.length : Int)) = false := decide_eq_false hge
       have hd3 : decide ((G.length : Int) ≤ nd) = false := decide_eq_false hge
       obtain ⟨v, rfl⟩ := Int.eq_ofNat_of_zero_le (show 0 ≤ nd by omega)
       rw [Int.toNat_natCast] at hp
       have hvn : v < G.length := by omega
       have hgd7 : s.gd < 128 := Nat.lt_of_lt_of_le hgd HN7.out
       obtain ⟨J, hJ1, hJ2, hJ3, hJ4, hJ5⟩ := bitJ s.gd v (by omega) (by omega)
       clear hneg hge
       by_cases heq : (s.gd.testBit v == pl) = true
       ·rw [if_pos heq] at hp
        have HP := Aside0.mk hp
        clear hp hJ3 hJ5
        generalize s.gd.testBit v = bt at *
        go_quiet (fail)
        go_wp2
        go_ret3
        have hq := HEND.out
        rw [← HP.out] at hq
        simp only [finP, Prod.mk.injEq] at hq
        obtain ⟨rfl, rfl, rfl⟩ := hq
        exact ⟨rfl, pw_below_drewN hB8.out _⟩
       ·rw [if_neg heq] at hp
        have HP := Aside0.mk hp
        clear hp hJ3 hJ5
        generalize s.gd.testBit v = bt at *
        replace heq : (bt == pl) = false := by simpa using heq
        obtain ⟨J3, ⟨hS1, hS2, hS3⟩, hS4⟩ := shJ v (by omega)
        have hpv : 2 ^ v < 2 ^ G.length := Nat.pow_lt_pow_right (by omega) hvn
        have hg2 : s.gd ^^^ 2 ^ v < 2 ^ G.length := Nat.xor_lt_two_pow hgd hpv
        have hxo := b_xor s.gd (2 ^ v) (big7 hgd HN7.out) (big7 hpv HN7.out)
        rw [← hS4] at hxo
        obtain ⟨g2, hg2e⟩ : ∃ g2, s.gd ^^^ 2 ^ v = g2 := ⟨_, rfl⟩
        rw [hg2e] at hxo hg2
        have hor := b_or s.had g2 (big7 hhad HN7.out) (big7 hg2 HN7.out)
        obtain ⟨h2, hh2e⟩ : ∃ h2, s.had ||| g2 = h2 := ⟨_, rfl⟩
        rw [hh2e] at hor
        have HH2 : Aside0 (h2 < 2 ^ G.length) := ⟨by rw [← hh2e]; exact Nat.or_lt_two_pow hhad hg2⟩
        have hg27 : g2 < 128 := Nat.lt_of_lt_of_le hg2 HN7.out
        have HSZ := Aside0.mk (size7 g2 hg27)
        have HG2 := Aside0.mk hg2e
        have HH2E := Aside0.mk hh2e
        have HG2L := Aside0.mk hg2
        have HEQ := Aside0.mk heq
        clear hg2e hh2e hS3 hS4 hpv hg2 hhad hgd
        obtain ⟨pq, hpq⟩ : ∃ pq, pc g2 9 = pq := ⟨_, rfl⟩
        have HPQ := Aside0.mk hpq
        rw [hpq] at HSZ
        obtain ⟨M2, hmx⟩ : ∃ M2 : Int, (if M < (pq : Int) then (pq : Int) else M) = M2 := ⟨_, rfl⟩
        have HMX := Aside0.mk hmx
        clear hpq
        go_quiet (fail)
        go_wp2_with (go_at_call 53; refine (lampblackref02_Size.calls 12 _ _ _ HSZ.out).mono ?_; rintro e w' ⟨rfl, m, rfl⟩)
        have hrow9 : Aside0 (BRow (w8.drewN (nq + m)) w.heap.size s.C) := ⟨hrow8.out⟩
        have hB9 : Aside0 (Below w.heap.size w (w8.drewN (nq + m))) := ⟨pw_below_drewN hB8.out _⟩
        generalize w8.drewN (nq + m) = w9 at *
        clear hrow8 hB8 hc80 hc81
        obtain ⟨C1, hC1⟩ : ∃ C1, all1 G g2 G.length 0 s.C = C1 := ⟨_, rfl⟩
        have HC1 := Aside0.mk hC1
        have HC64 := Aside0.mk hC64
        clear hC1 hC64
        go_loopg [64] G.length (fun kq v64 w' => ∃ (x : Nat) (C : List Bool), v64 = .int .i64 (x : Int) ∧ x + kq = G.length ∧ Aside0 (all1 G g2 kq x C = C1 ∧ C.length = 64 ∧ BRow w' w.heap.size C) ∧ Aside0 (Below w.heap.size w w'))
        case atStart => exact ⟨0, s.C, rfl, by omega, ⟨HC1.out, HC64.out, hrow9.out⟩, hB9⟩
        case round =>
         clear hrow9 hB9
         obtain ⟨x, C, rfl, hx, HX, HBx⟩ := hrel
         by_cases hxn : x < G.length
         ·have hj1 : ((x : Int) < (G.length : Int)) = True := eq_true (by omega)
          have hj2 : decide ((x : Int) < (G.length : Int)) = true := decide_eq_true (by omega)
          cases gk with
          | zero => omega
          | succ gx =>
          have hx1 := HX.out.1
          simp only [all1] at hx1
          obtain ⟨C2, hC2⟩ : ∃ C2, row1 G g2 x G.length 0 C = C2 := ⟨_, rfl⟩
          have HX1 : Aside0 (all1 G g2 gx (x + 1) C2 = C1) := ⟨by rw [← hC2]; exact hx1⟩
          have HC2 := Aside0.mk hC2
          clear hC2 hx1
          go_wp2
          go_loopg [69] G.length (fun kq v69 w' => ∃ (y : Nat) (Cy : List Bool), v69 = .int .i64 (y : Int) ∧ y + kq = G.length ∧ Aside0 (row1 G g2 x kq y Cy = C2 ∧ Cy.length = 64 ∧ BRow w' w.heap.size Cy) ∧ Aside0 (Below w.heap.size w w'))
          case atStart => exact ⟨0, C, rfl, by omega, ⟨HC2.out, HX.out.2.1, HX.out.2.2⟩, HBx⟩
          case round =>
           clear HC2 HX HBx
           obtain ⟨y, Cy, rfl, hy, HY, HBy⟩ := hrel
           by_cases hyn : y < G.length
           ·have hk1 : ((y : Int) < (G.length : Int)) = True := eq_true (by omega)
            have hk2 : decide ((y : Int) < (G.length : Int)) = true := decide_eq_true (by omega)
            cases gk with
            | zero => omega
            | succ gy =>
            obtain ⟨hy1, hy2, hy3⟩ := HY.out
            simp only [row1] at hy1
            obtain ⟨adg, e0, hgx⟩ := Kd.at_int (Kd.C_below HR.out HBy.out) (x : Int) (by omega) (by rw [gi_length]; omega)
            subst e0
            rw [rd_gi, Int.toNat_natCast] at hgx
            obtain ⟨row, hrow⟩ : ∃ r, G.getD x 0 = r := ⟨_, rfl⟩
            have hrl := HG.out.row x
            rw [hrow] at hgx hrl hy1
            have hrw : row < 128 := Nat.lt_of_lt_of_le hrl HN7.out
            clear hrow hrl
            obtain ⟨J1, hA1, hA2, hA3, hA4, hA5⟩ := bitJ row y (by omega) (by omega)
            clear hA3 hA5
            have hcell := hy3.cell (x * 8 + y) (by omega)
            have hfr := hy3.frozen (x * 8 + y)
            have HY3 := Aside0.mk hy3
            clear hy3 HY
            obtain ⟨J2, hB1, hB2, hB3, hB4, hB5⟩ := bitJ g2 x (by omega) (by omega)
            obtain ⟨J4, hD1, hD2, hD3, hD4, hD5⟩ := bitJ g2 y (by omega) (by omega)
            clear hB3 hB5 hD3 hD5
            generalize row.testBit y = q1 at *
            generalize g2.testBit x = q2 at *
            generalize g2.testBit y = q3 at *
            cases q1
            ·have HY1 := Aside0.mk hy1
             clear hy1
             go_wp2
             go_roundg gy
             case measure => omega
             case rel => exact ⟨y + 1, Cy, by go_num, by omega, ⟨by simpa using HY1.out, hy2, HY3.out⟩, HBy⟩
            ·cases q2
             ·have HY1 := Aside0.mk hy1
              clear hy1
              go_wp2
              go_roundg gy
              case measure => omega
              case rel => exact ⟨y + 1, Cy, by go_num, by omega, ⟨by simpa using HY1.out, hy2, HY3.out⟩, HBy⟩
             ·cases q3
              ·have HY1 := Aside0.mk hy1
               clear hy1
               go_wp2
               go_roundg gy
               case measure => omega
               case rel => exact ⟨y + 1, Cy, by go_num, by omega, ⟨by simpa using HY1.out, hy2, HY3.out⟩, HBy⟩
              ·have HY1 := Aside0.mk hy1
               clear hy1
               go_wp2
               go_roundg gy
               case measure => omega
               case rel => exact ⟨y + 1, Cy.set (x * 8 + y) true, by go_num, by omega, ⟨by simpa using HY1.out, by simpa using hy2, HY3.out.set _ _⟩, ⟨below_set HBy.out (Nat.le_refl _)⟩⟩
           ·have hk1 : ((y : Int) < (G.length : Int)) = False := eq_false (by omega)
            have hk2 : decide ((y : Int) < (G.length : Int)) = false := decide_eq_false (by omega)
            obtain rfl : gk = 0 := by omega
            obtain ⟨hy1, hy2, hy3⟩ := HY.out
            simp only [row1] at hy1
            subst hy1
            have HY3 := Aside0.mk hy3
            clear HY hy3
            go_wp2
            go_roundg gx
            case measure => omega
            case rel => exact ⟨x + 1, Cy, by go_num, by omega, ⟨HX1.out, hy2, HY3.out⟩, HBy⟩
         ·have hj1 : ((x : Int) < (G.length : Int)) = False := eq_false (by omega)
          have hj2 : decide ((x : Int) < (G.length : Int)) = false := decide_eq_false (by omega)
          obtain rfl : gk = 0 := by omega
          obtain ⟨hx1, hx2, hx3⟩ := HX.out
          simp only [all1] at hx1
          subst hx1
          have HX3 := Aside0.mk hx3
          have HX2 := Aside0.mk hx2
          clear HX hx2 hx3
          go_wp2
          clear hj1 hj2 hxn
          obtain ⟨T2, hT2⟩ : ∃ T, iter2 G g2 64 (C, s.bk) = T := ⟨_, rfl⟩
          have HT2 := Aside0.mk hT2
          clear hT2
          go_loopg [11, 101] 64 (fun kq v11 v101 w' => ∃ (j : Nat) (Cj : List Bool) (bj : Bool), v11 = .bool bj ∧ v101 = .int .i64 (j : Int) ∧ j + kq = 64 ∧ Aside0 (iter2 G g2 kq (Cj, bj) = T2 ∧ Cj.length = 64 ∧ BRow w' w.heap.size Cj) ∧ Aside0 (Below w.heap.size w w'))
          case atStart => exact ⟨0, C, s.bk, rfl, rfl, by omega, ⟨HT2.out, HX2.out, HX3.out⟩, HBx⟩
          case round =>
           clear HX3 HBx
           obtain ⟨j, Cj, bj, rfl, rfl, hj, HJ, HBj⟩ := hrel
           by_cases hjn : j < 64
           ·have hj1 : ((j : Int) < 64) = True := eq_true (by omega)
            have hj2 : decide ((j : Int) < 64) = true := decide_eq_true (by omega)
            cases gk with
            | zero => omega
            | succ gj =>
            have hj3 := HJ.out.1
            simp only [iter2] at hj3
            obtain ⟨TJ, hTJ⟩ : ∃ T, all2 G g2 G.length 0 (Cj, bj) = T := ⟨_, rfl⟩
            have HJ1 : Aside0 (iter2 G g2 gj TJ = T2) := ⟨by rw [← hTJ]; exact hj3⟩
            have HTJ := Aside0.mk hTJ
            clear hTJ hj3
            go_wp2
            go_loopg [11, 105] G.length (fun kq v11 v105 w' => ∃ (x : Nat) (Cx : List Bool) (bx : Bool), v11 = .bool bx ∧ v105 = .int .i64 (x : Int) ∧ x + kq = G.length ∧ Aside0 (all2 G g2 kq x (Cx, bx) = TJ ∧ Cx.length = 64 ∧ BRow w' w.heap.size Cx) ∧ Aside0 (Below w.heap.size w w'))
            case atStart => exact ⟨0, Cj, bj, rfl, rfl, by omega, ⟨HTJ.out, HJ.out.2.1, HJ.out.2.2⟩, HBj⟩
            case round =>
             clear HTJ HJ HBj
             obtain ⟨x, Cx, bx, rfl, rfl, hx, HX, HBx⟩ := hrel
             by_cases hxn : x < G.length
             ·have hl1 : ((x : Int) < (G.length : Int)) = True := eq_true (by omega)
              have hl2 : decide ((x : Int) < (G.length : Int)) = true := decide_eq_true (by omega)
              cases gk with
              | zero => omega
              | succ gx =>
              have hx1 := HX.out.1
              simp only [all2] at hx1
              obtain ⟨TX, hTX⟩ : ∃ T, row2 G g2 x G.length 0 (Cx, bx) = T := ⟨_, rfl⟩
              have HX1 : Aside0 (all2 G g2 gx (x + 1) TX = TJ) := ⟨by rw [← hTX]; exact hx1⟩
              have HTX := Aside0.mk hTX
              clear hTX hx1
              go_wp2
              go_loopg [11, 110] G.length (fun kq v11 v110 w' => ∃ (y : Nat) (Cy : List Bool) (by' : Bool), v11 = .bool by' ∧ v110 = .int .i64 (y : Int) ∧ y + kq = G.length ∧ Aside0 (row2 G g2 x kq y (Cy, by') = TX ∧ Cy.length = 64 ∧ BRow w' w.heap.size Cy) ∧ Aside0 (Below w.heap.size w w'))
              case atStart => exact ⟨0, Cx, bx, rfl, rfl, by omega, ⟨HTX.out, HX.out.2.1, HX.out.2.2⟩, HBx⟩
              case round =>
               clear HTX HX HBx
               obtain ⟨y, Cy, by', rfl, rfl, hy, HY, HBy⟩ := hrel
               by_cases hyn : y < G.length
               ·have hk1 : ((y : Int) < (G.length : Int)) = True := eq_true (by omega)
                have hk2 : decide ((y : Int) < (G.length : Int)) = true := decide_eq_true (by omega)
                cases gk with
                | zero => omega
                | succ gy =>
                obtain ⟨hy1, hy2, hy3⟩ := HY.out
                simp only [row2] at hy1
                have hsec : (wr.setCell ⟨w.heap.size, x * 8 + y, none⟩ (.bool false)).cell? ⟨w.heap.size, y * 8 + x, none⟩ = some (.bool ((Cy.set (x * 8 + y) false).getD (y * 8 + x) false)) := (hy3.set (x * 8 + y) false).cell (y * 8 + x) (by simp; omega)
                have hsef : (wr.setCell ⟨w.heap.size, x * 8 + y, none⟩ (.bool false)).frozen? ⟨w.heap.size, y * 8 + x, none⟩ = false := (hy3.set (x * 8 + y) false).frozen (y * 8 + x)
                have HRy := Aside0.mk (Kd.C_below HR.out HBy.out)
                obtain ⟨adg, e0, hgx⟩ := Kd.at_int (Kd.C_below HR.out HBy.out) (x : Int) (by omega) (by rw [gi_length]; omega)
                subst e0
                rw [rd_gi, Int.toNat_natCast] at hgx
                obtain ⟨row, hrow⟩ : ∃ r, G.getD x 0 = r := ⟨_, rfl⟩
                have hrl := HG.out.row x
                rw [hrow] at hgx hrl hy1
                have hrw : row < 128 := Nat.lt_of_lt_of_le hrl HN7.out
                clear hrow hrl
                obtain ⟨J1, hA1, hA2, hA3, hA4, hA5⟩ := bitJ row y (by omega) (by omega)
                clear hA3 hA5
                have hcell := hy3.cell (x * 8 + y) (by omega)
                have hfr := hy3.frozen (x * 8 + y)
                have HY3 := Aside0.mk hy3
                clear hy3 HY
                generalize row.testBit y = q1 at *
                cases q1
                ·clear hsec hsef
                 have HY1 := Aside0.mk hy1
                 clear hy1
                 go_wp2
                 go_roundg gy
                 case measure => omega
                 case rel => exact ⟨y + 1, Cy, by', rfl, by go_num, by omega, ⟨by simpa using HY1.out, hy2, HY3.out⟩, HBy⟩
                ·cases hcl : Cy.getD (x * 8 + y) false
                 ·rw [hcl] at hy1 hcell
                  clear hsec hsef
                  have HY1 := Aside0.mk hy1
                  clear hy1
                  go_wp2
                  go_roundg gy
                  case measure => omega
                  case rel => exact ⟨y + 1, Cy, by', rfl, by go_num, by omega, ⟨by simpa using HY1.out, hy2, HY3.out⟩, HBy⟩
                 ·rw [hcl] at hy1 hcell
                  clear hcl
                  obtain ⟨s1, hs1⟩ : ∃ r, smk G Cy g2 x G.length 0 = r := ⟨_, rfl⟩
                  obtain ⟨s2, hs2⟩ : ∃ r, smk G Cy g2 y G.length 0 = r := ⟨_, rfl⟩
                  rw [hs1, hs2] at hy1
                  have HS1 := Aside0.mk hs1
                  have HS2 := Aside0.mk hs2
                  have HY1 := Aside0.mk hy1
                  clear hs1 hs2 hy1
                  cases s1
                  ·cases s2
                   ·go_wp2_with (go_at_call 54; (first | (with_reducible refine (smoky_calls _ _ G HG.out Cy hy2 _ _ x _ _ HRy.out HY3.out hxn hg27 HS1.out).mono ?_) | (with_reducible refine (smoky_calls _ _ G HG.out Cy hy2 _ _ y _ _ HRy.out HY3.out hyn hg27 HS2.out).mono ?_)); rintro e w' ⟨rfl, rfl⟩)
                    go_roundg gy
                    case measure => omega
                    case rel => exact ⟨y + 1, Cy, by', rfl, by go_num, by omega, ⟨by simpa using HY1.out, hy2, HY3.out⟩, HBy⟩
                   ·go_wp2_with (go_at_call 54; (first | (with_reducible refine (smoky_calls _ _ G HG.out Cy hy2 _ _ x _ _ HRy.out HY3.out hxn hg27 HS1.out).mono ?_) | (with_reducible refine (smoky_calls _ _ G HG.out Cy hy2 _ _ y _ _ HRy.out HY3.out hyn hg27 HS2.out).mono ?_)); rintro e w' ⟨rfl, rfl⟩)
                    go_roundg gy
                    case measure => omega
                    case rel => exact ⟨y + 1, (Cy.set (x * 8 + y) false).set (y * 8 + x) false, true, rfl, by go_num, by omega, ⟨by simpa using HY1.out, by simpa using hy2, (HY3.out.set _ _).set _ _⟩, ⟨below_set (below_set HBy.out (Nat.le_refl _)) (Nat.le_refl _)⟩⟩
                  ·go_wp2_with (go_at_call 54; (first | (with_reducible refine (smoky_calls _ _ G HG.out Cy hy2 _ _ x _ _ HRy.out HY3.out hxn hg27 HS1.out).mono ?_) | (with_reducible refine (smoky_calls _ _ G HG.out Cy hy2 _ _ y _ _ HRy.out HY3.out hyn hg27 HS2.out).mono ?_)); rintro e w' ⟨rfl, rfl⟩)
                   go_roundg gy
                   case measure => omega
                   case rel => exact ⟨y + 1, (Cy.set (x * 8 + y) false).set (y * 8 + x) false, true, rfl, by go_num, by omega, ⟨by simpa using HY1.out, by simpa using hy2, (HY3.out.set _ _).set _ _⟩, ⟨below_set (below_set HBy.out (Nat.le_refl _)) (Nat.le_refl _)⟩⟩
               ·have hk1 : ((y : Int) < (G.length : Int)) = False := eq_false (by omega)
                have hk2 : decide ((y : Int) < (G.length : Int)) = false := decide_eq_false (by omega)
                obtain rfl : gk = 0 := by omega
                obtain ⟨hy1, hy2, hy3⟩ := HY.out
                simp only [row2] at hy1
                subst hy1
                have HY3 := Aside0.mk hy3
                clear HY hy3
                go_wp2
                go_roundg gx
                case measure => omega
                case rel => exact ⟨x + 1, Cy, by', rfl, by go_num, by omega, ⟨HX1.out, hy2, HY3.out⟩, HBy⟩
             ·have hl1 : ((x : Int) < (G.length : Int)) = False := eq_false (by omega)
              have hl2 : decide ((x : Int) < (G.length : Int)) = false := decide_eq_false (by omega)
              obtain rfl : gk = 0 := by omega
              obtain ⟨hx1, hx2, hx3⟩ := HX.out
              simp only [all2] at hx1
              subst hx1
              have HX3 := Aside0.mk hx3
              clear HX hx3
              go_wp2
              go_roundg gj
              case measure => omega
              case rel => exact ⟨j + 1, Cx, bx, rfl, by go_num, by omega, ⟨HJ1.out, hx2, HX3.out⟩, HBx⟩
           ·have hj1 : ((j : Int) < 64) = False := eq_false (by omega)
            have hj2 : decide ((j : Int) < 64) = false := decide_eq_false (by omega)
            obtain rfl : gk = 0 := by omega
            obtain ⟨hj3, hj4, hj5⟩ := HJ.out
            simp only [iter2] at hj3
            have HJ5 := Aside0.mk hj5
            have HJ3 := Aside0.mk hj3
            clear HJ hj5 hj3
            go_wp2
            go_roundg gi
            case measure => omega
            case rel =>
             refine ⟨i + 1, ⟨g2, max s.most pq, h2, bj, Cj⟩, M2, rfl, rfl, rfl, rfl, by go_num, by omega, ⟨?_⟩, ⟨?_⟩, ⟨HG2L.out, HH2.out, hj4, HJ5.out⟩, HBj⟩
             ·show M2 = ((max s.most pq : Nat) : Int)
              have hM := HM.out
              rw [← HMX.out, hM]
              split <;> omega
             ·have := HP.out
              rw [show stepP G s v = ⟨g2, max s.most pq, h2, bj, Cj⟩ by
               unfold stepP
               rw [HG2.out, HPQ.out, HH2E.out, HC1.out, HT2.out, ← HJ3.out]] at this
              exact this
    ·have hi1 : ((i : Int) < (l1.length : Int)) = False := eq_false (by omega)
     have hi2 : decide ((i : Int) < (l1.length : Int)) = false := decide_eq_false (by omega)
     have hp := HP.out
     rw [List.drop_eq_nil_of_le (by omega)] at hp
     simp only [playTo] at hp
     subst hp
     obtain ⟨hgd, hhad, hC64, hrow⟩ := HS.out
     have HROW := Aside0.mk hrow
     have HHAD := Aside0.mk hhad
     clear hrow hgd hhad
     go_wp2
     obtain ⟨Rb, hRb⟩ : ∃ r, all3 G s.C G.length 0 = r := ⟨_, rfl⟩
     have HRb := Aside0.mk hRb
     have HALLR := Aside0.mk hRb
     have HN0 : Aside0 (Rb = false → r1 = 0 ∧ r2 = false ∧ r3 = false) := ⟨fun e => by
      have := HEND.out
      simp only [finP, hRb, e, Bool.false_eq_true, if_false, Prod.mk.injEq] at this
      exact ⟨this.1.symm, this.2.1.symm, this.2.2.symm⟩⟩
     clear hRb
     go_loopg [157] G.length (fun kq v157 w' => ∃ (x : Nat), v157 = .int .i64 (x : Int) ∧ x + kq = G.length ∧ Aside0 (all3 G s.C kq x = Rb) ∧ w' = wr)
     case atStart => exact ⟨0, rfl, by omega, HRb, rfl⟩
     case round =>
      clear HRb
      obtain ⟨x, rfl, hx, HX, rfl⟩ := hrel
      by_cases hxn : x < G.length
      ·have hj1 : ((x : Int) < (G.length : Int)) = True := eq_true (by omega)
       have hj2 : decide ((x : Int) < (G.length : Int)) = true := decide_eq_true (by omega)
       cases gk with
       | zero => omega
       | succ gx =>
       have hx1 := HX.out
       simp only [all3] at hx1
       have HX1 := Aside0.mk hx1
       clear hx1 HX
       go_wp2
       go_loopg [162] G.length (fun kq v162 w' => ∃ (y : Nat), v162 = .int .i64 (y : Int) ∧ y + kq = G.length ∧ Aside0 ((row3 G s.C x kq y && all3 G s.C gx (x + 1)) = Rb) ∧ w' = wr)
       case atStart => exact ⟨0, rfl, by omega, HX1, rfl⟩
       case round =>
        clear HX1
        obtain ⟨y, rfl, hy, HY, rfl⟩ := hrel
        by_cases hyn : y < G.length
        ·have hk1 : ((y : Int) < (G.length : Int)) = True := eq_true (by omega)
         have hk2 : decide ((y : Int) < (G.length : Int)) = true := decide_eq_true (by omega)
         cases gk with
         | zero => omega
         | succ gy =>
         have hy1 := HY.out
         simp only [row3] at hy1
         obtain ⟨adg, e0, hgx⟩ := Kd.at_int (Kd.C_below HR.out HBw.out) (x : Int) (by omega) (by rw [gi_length]; omega)
         subst e0
         rw [rd_gi, Int.toNat_natCast] at hgx
         obtain ⟨row, hrow2⟩ : ∃ r, G.getD x 0 = r := ⟨_, rfl⟩
         have hrl := HG.out.row x
         rw [hrow2] at hgx hrl hy1
         have hrw : row < 128 := Nat.lt_of_lt_of_le hrl HN7.out
         clear hrow2 hrl
         obtain ⟨J1, hA1, hA2, hA3, hA4, hA5⟩ := bitJ row y (by omega) (by omega)
         clear hA3 hA5
         have hcell := HROW.out.cell (x * 8 + y) (by omega)
         generalize row.testBit y = q1 at *
         cases q1
         ·have HY1 := Aside0.mk hy1
          clear hy1
          go_wp2
          go_roundg gy
          case measure => omega
          case rel => exact ⟨y + 1, by go_num, by omega, ⟨by simpa using HY1.out⟩, rfl⟩
         ·cases hcl : s.C.getD (x * 8 + y) false
          ·rw [hcl] at hy1 hcell
           obtain rfl : false = Rb := by simpa using hy1
           clear hy1 hcl
           go_wp2
           go_ret3
           obtain ⟨rfl, rfl, rfl⟩ := HN0.out trivial
           exact ⟨rfl, HBw.out⟩
          ·rw [hcl] at hy1 hcell
           have HY1 := Aside0.mk hy1
           clear hy1 hcl
           go_wp2
           go_roundg gy
           case measure => omega
           case rel => exact ⟨y + 1, by go_num, by omega, ⟨by simpa using HY1.out⟩, rfl⟩
        ·have hk1 : ((y : Int) < (G.length : Int)) = False := eq_false (by omega)
         have hk2 : decide ((y : Int) < (G.length : Int)) = false := decide_eq_false (by omega)
         obtain rfl : gk = 0 := by omega
         have hy1 := HY.out
         simp only [row3, Bool.true_and] at hy1
         have HY1 := Aside0.mk hy1
         clear hy1 HY
         go_wp2
         go_roundg gx
         case measure => omega
         case rel => exact ⟨x + 1, by go_num, by omega, HY1, rfl⟩
      ·have hj1 : ((x : Int) < (G.length : Int)) = False := eq_false (by omega)
       have hj2 : decide ((x : Int) < (G.length : Int)) = false := decide_eq_false (by omega)
       obtain rfl : gk = 0 := by omega
       have hx1 := HX.out
       simp only [all3] at hx1
       subst hx1
       have HALL : Aside0 (all3 G s.C G.length 0 = true) := HALLR
       obtain ⟨P, hP⟩ : ∃ P, 2 ^ G.length = P := ⟨_, rfl⟩
       have hP1 : 1 ≤ P := by rw [← hP]; exact Nat.two_pow_pos _
       have hP2 : P ≤ 128 := by rw [← hP]; exact HN7.out
       have hh2 : s.had < P := by rw [← hP]; exact HHAD.out
       have HPE := Aside0.mk hP
       clear hP hj1 hxn
       obtain ⟨J3, ⟨hS1, hS2, hS3⟩, hS4⟩ := shJ G.length (by omega)
       rw [HPE.out] at hS4
       have HS1 := Aside0.mk hS1
       have HS2 := Aside0.mk hS2
       clear hS1 hS2 hS3
       have hK : wrap64 (J3 - 1) = (P : Int) - 1 := by rw [w64_small _ (by omega) (by omega)]; omega
       obtain ⟨K, hKK⟩ : ∃ K : Int, (P : Int) - 1 = K := ⟨_, rfl⟩
       rw [hKK] at hK
       by_cases hful : s.had = P - 1
       ·have hq0 : (s.had : Int) = K := by omega
        have hq1 : ((s.had : Int) == K) = true := beq_iff_eq.mpr hq0
        have hq2 : ((s.had : Int) != K) = false := bne_eq_false_iff_eq.mpr hq0
        clear hq0
        have HF := Aside0.mk hful
        clear hful hh2 hP1 hP2 hS4 hKK
        have hS1 := HS1.out
        have hS2 := HS2.out
        go_wp2
        go_ret3
        have hfin := HEND.out
        simp only [finP, HALL.out, HF.out, HPE.out, if_true, Prod.mk.injEq] at hfin
        obtain ⟨rfl, rfl, rfl⟩ := hfin
        exact ⟨by rw [HM.out]; rfl, HBw.out⟩
       ·have hq0 : ¬ (s.had : Int) = K := by omega
        have hq1 : ((s.had : Int) == K) = false := beq_eq_false_iff_ne.mpr hq0
        have hq2 : ((s.had : Int) != K) = true := bne_iff_ne.mpr hq0
        clear hq0
        have HF := Aside0.mk hful
        clear hful hh2 hP1 hP2 hS4 hKK
        have hS1 := HS1.out
        have hS2 := HS2.out
        go_wp2
        go_ret3
        have hfin := HEND.out
        have hne : ¬ s.had = 2 ^ G.length - 1 := by rw [HPE.out]; exact HF.out
        simp only [finP, HALL.out, if_true] at hfin
        rw [if_neg hne] at hfin
        simp only [Prod.mk.injEq] at hfin
        obtain ⟨rfl, rfl, rfl⟩ := hfin
        exact ⟨rfl, HBw.out⟩
  ·have hl2 : decide ((l1.length : Int) > 100) = true := decide_eq_true (by omega)
   have hl3 : ((l1.length : Int) > 100) = True := eq_true (by omega)
   have hq := H.out
   unfold refPlay at hq
   rw [if_pos (by omega)] at hq
   simp only [Prod.mk.injEq] at hq
   obtain ⟨rfl, rfl, rfl⟩ := hq
   go_enter Tryd.func24, Tryd.ntmps24
   go_wp2
   go_ret3
   exact ⟨rfl, below_alloc (Below.refl _ _) _⟩
 ·rw [if_neg hchk] at h
  cases h
end Go.Proofs.YtijfddobandcdaaDoor.X
end
section
/- sweep.Play, in plain words: streets, which of them are clear, steps. -/
namespace Go.Proofs.YtijfddobandcdaaDoor.X
open Go.RowKit YtijfddobandcdaaDoorW.PrintWords YtijfddobandcdaaDoorW.PrintLast YtijfddobandcdaaDoorW.PrintMore YtijfddobandcdaaDoor.T
def esOf (a s : Nat) : List (Nat × Nat) := if h : s = 0 then [] else (if a < Lib.ctz 64 s then [(a, Lib.ctz 64 s)] else []) ++ esOf a (rest s)
termination_by s
decreasing_by exact rest_lt s (by omega)
def esFrom (G : List Nat) : Nat → Nat → List (Nat × Nat)
 | 0, _ => []
 | d + 1, a => esOf a (G.getD a 0) ++ esFrom G d (a + 1)
def streets (G : List Nat) : List (Nat × Nat) := esFrom G G.length 0
def endsOf (E : List (Nat × Nat)) (i : Nat) : Nat := 2 ^ (E.getD i (0, 0)).1 ||| 2 ^ (E.getD i (0, 0)).2
def marksO (E : List (Nat × Nat)) (gd : Nat) : Nat → Nat → List Bool → List Bool
 | 0, _, C => C
 | d + 1, i, C => marksO E gd d (i + 1) (C.set i (C.getD i false || diff (endsOf E i) gd == 0))
def comes (E : List (Nat × Nat)) (gd : Nat) (C : List Bool) (i k : Nat) : Bool := C.getD i false && !C.getD k false && !(diff (endsOf E i &&& endsOf E k) gd == 0)
def spIn (E : List (Nat × Nat)) (gd : Nat) (C : List Bool) (i : Nat) : Nat → Nat → Bool
 | 0, _ => false
 | d + 1, k => if comes E gd C i k then true else spIn E gd C i d (k + 1)
def spOut (E : List (Nat × Nat)) (gd : Nat) (C : List Bool) : Nat → Nat → Option Nat
 | 0, _ => none
 | d + 1, i => if spIn E gd C i E.length 0 then some i else spOut E gd C d (i + 1)
def spAll (E : List (Nat × Nat)) (gd : Nat) : Nat → List Bool × Bool → List Bool × Bool
 | 0, s => s
 | n + 1, s => match spOut E gd s.1 E.length 0 with
  | none => s
  | some i => spAll E gd n (s.1.set i false, true)
structure OS where
 gd : Nat
 had : Nat
 bk : Bool
 C : List Bool
def stepO (E : List (Nat × Nat)) (s : OS) (v : Nat) : OS :=
 ⟨s.gd ^^^ 2 ^ v, s.had ||| (s.gd ^^^ 2 ^ v), (spAll E (s.gd ^^^ 2 ^ v) (E.length + 1) (marksO E (s.gd ^^^ 2 ^ v) E.length 0 s.C, s.bk)).2, (spAll E (s.gd ^^^ 2 ^ v) (E.length + 1) (marksO E (s.gd ^^^ 2 ^ v) E.length 0 s.C, s.bk)).1⟩
def doO (E : List (Nat × Nat)) (s : OS) (a : S85) : Option OS := if s.gd.testBit a.f1.toNat == a.f0 then none else some (stepO E s a.f1.toNat)
def ownTo (n : Nat) (E : List (Nat × Nat)) : List S85 → OS → Nat → Option (OS × Nat)
 | [], s, m => some (s, m)
 | a :: l, s, m => if a.f1 < 0 then none else if (n : Int) ≤ a.f1 then none else (doO E s a).bind fun s2 => ownTo n E l s2 (max m (pc s2.gd 9))
def finO (G : List Nat) : Option (OS × Nat) → Int × Bool × Bool
 | none => (0, false, false)
 | some (s, m) => if s.C.contains false then (0, false, false) else if s.had = 2 ^ G.length - 1 then ((m : Int), s.bk, true) else (0, false, false)
def o0 (E : List (Nat × Nat)) : OS := ⟨0, 0, false, List.replicate E.length false⟩
def ownPlay (G : List Nat) (l : List S85) : Int × Bool × Bool := if 100 < l.length then (0, false, false) else finO G (ownTo G.length (streets G) l (o0 (streets G)) 0)
theorem esOf_len (a : Nat) : ∀ s, (esOf a s).length ≤ s := by
 intro s
 induction s using Nat.strongRecOn with
 | ind s ih =>
  rw [esOf]
  split
  ·simp
  ·rename_i h
   have h1 := rest_lt s (by omega)
   have h2 := ih (rest s) h1
   rw [List.length_append]
   split <;> simp <;> omega
theorem esFrom_len {G : List Nat} (hG : Gr 7 G) : ∀ d a, (esFrom G d a).length ≤ d * 128
 | 0, _ => by simp [esFrom]
 | d + 1, a => by
  have h1 := esOf_len a (G.getD a 0)
  have h2 := esFrom_len hG d (a + 1)
  have h3 := hG.row a
  have h4 : 2 ^ G.length ≤ 2 ^ 7 := Nat.pow_le_pow_right (by omega) hG.most
  simp only [esFrom, List.length_append]
  omega
theorem streets_len {G : List Nat} (hG : Gr 7 G) : (streets G).length ≤ 896 := by
 have := esFrom_len hG G.length 0
 have := hG.most
 unfold streets
 omega
theorem marksO_len (E : List (Nat × Nat)) (gd : Nat) : ∀ d i C, (marksO E gd d i C).length = C.length
 | 0, _, _ => rfl
 | d + 1, i, C => by rw [marksO, marksO_len E gd d, List.length_set]
theorem spAll_len (E : List (Nat × Nat)) (gd : Nat) : ∀ n s, (spAll E gd n s).1.length = s.1.length
 | 0, _ => rfl
 | n + 1, s => by
  rw [spAll]
  cases spOut E gd s.1 E.length 0 with
  | none => rfl
  | some i =>
   show (spAll E gd n _).1.length = _
   rw [spAll_len E gd n, List.length_set]
theorem ctz_inS {s n : Nat} (h0 : s ≠ 0) (hs : s < 2 ^ n) (hn : n ≤ 9) : Lib.ctz 64 s < n ∧ s.testBit (Lib.ctz 64 s) = true := by
 have h5 : s < 512 := Nat.lt_of_lt_of_le hs (Nat.pow_le_pow_right (n := 2) (by omega) hn)
 have := (show ∀ z : Fin 512, 0 < z.val → z.val.testBit (Lib.ctz 64 z.val) = true from by decide +kernel) ⟨s, h5⟩ (by show 0 < s; omega)
 exact ⟨bit_lt hs this, this⟩
theorem rest_inS {z : Nat} (hz : z < 512) (h0 : z ≠ 0) (j : Nat) : bset (rest z) j ↔ bset z j ∧ j ≠ Lib.ctz 64 z := by
 have := (show ∀ z : Fin 512, 0 < z.val → rest z.val = diff z.val (2 ^ Lib.ctz 64 z.val) from by decide +kernel) ⟨z, hz⟩ (by show 0 < z; omega)
 rw [show rest z = diff z (2 ^ Lib.ctz 64 z) from this, diff_bset, two_pow_bit]
theorem esOf_mem {a n : Nat} (hn : n ≤ 9) : ∀ s, s < 2 ^ n → ∀ p : Nat × Nat, p ∈ esOf a s ↔ p.1 = a ∧ a < p.2 ∧ bset s p.2 := by
 intro s
 induction s using Nat.strongRecOn with
 | ind s ih =>
  intro hs p
  rw [esOf]
  have h5 : s < 512 := Nat.lt_of_lt_of_le hs (Nat.pow_le_pow_right (n := 2) (by omega) hn)
  split
  ·rename_i h
   subst h
   exact ⟨fun h => by simp at h, fun h => by have := h.2.2; unfold bset at this; simp at this⟩
  ·rename_i h
   have h1 := rest_lt s (by omega)
   obtain ⟨h2, h3⟩ := ctz_inS h hs hn
   have h4 := rest_inS h5 h p.2
   rw [List.mem_append, ih (rest s) h1 (by omega) p, h4]
   obtain ⟨x, y⟩ := p
   constructor
   ·rintro (h | ⟨q1, q2, q3, q4⟩)
    ·split at h
     ·rename_i hl
      have := List.mem_singleton.1 h
      cases this
      exact ⟨rfl, hl, h3⟩
     ·cases h
    ·exact ⟨q1, q2, q3⟩
   ·rintro ⟨q1, q2, q3⟩
    by_cases e : y = Lib.ctz 64 s
    ·left
     dsimp only at q1 q2 e
     subst q1
     rw [← e, if_pos q2]
     exact List.mem_singleton.2 rfl
    ·exact .inr ⟨q1, q2, q3, e⟩
theorem esFrom_mem {G : List Nat} (hG : Gr 7 G) : ∀ d a, a + d = G.length → ∀ p : Nat × Nat, p ∈ esFrom G d a ↔ a ≤ p.1 ∧ p.1 < p.2 ∧ Adj G p.1 p.2
 | 0, a, ha, p => ⟨fun h => by simp [esFrom] at h, fun h => by have := hG.adj_lt' h.2.2; omega⟩
 | d + 1, a, ha, p => by
  have hn := hG.most
  simp only [esFrom]
  rw [List.mem_append, esOf_mem (n := G.length) (by omega) _ (hG.row a) p, esFrom_mem hG d (a + 1) (by omega) p]
  obtain ⟨x, y⟩ := p
  constructor
  ·rintro (⟨q1, q2, q3⟩ | ⟨q1, q2, q3⟩)
   ·dsimp only at q1 q2 q3
    subst q1
    exact ⟨Nat.le_refl _, q2, q3⟩
   ·exact ⟨by omega, q2, q3⟩
  ·rintro ⟨q1, q2, q3⟩
   dsimp only at q1 q2 q3
   by_cases e : x = a
   ·subst e
    exact .inl ⟨rfl, q2, q3⟩
   ·exact .inr ⟨by show a + 1 ≤ x; omega, q2, q3⟩
theorem streets_at {G : List Nat} (hG : Gr 7 G) {i : Nat} (hi : i < (streets G).length) : ((streets G).getD i (0, 0)).1 < ((streets G).getD i (0, 0)).2 ∧ Adj G ((streets G).getD i (0, 0)).1 ((streets G).getD i (0, 0)).2 := by
 have := (esFrom_mem hG G.length 0 (by omega) ((streets G).getD i (0, 0))).1 (by
  rw [List.getD_eq_getElem?_getD, List.getElem?_eq_getElem hi]
  exact List.getElem_mem hi)
 exact this.2
theorem streets_of {G : List Nat} (hG : Gr 7 G) {a b : Nat} (h : Adj G a b) (hab : a < b) : ∃ i, i < (streets G).length ∧ (streets G).getD i (0, 0) = (a, b) := by
 have := (esFrom_mem hG G.length 0 (by omega) (a, b)).2 ⟨Nat.zero_le _, hab, h⟩
 obtain ⟨i, hi, e⟩ := List.getElem_of_mem this
 exact ⟨i, hi, by unfold streets; rw [List.getD_eq_getElem?_getD, List.getElem?_eq_getElem hi, e]; rfl⟩
def cntT : List Bool → Nat
 | [] => 0
 | c :: cs => (if c then 1 else 0) + cntT cs
theorem cntT_le : ∀ C : List Bool, cntT C ≤ C.length
 | [] => Nat.le_refl _
 | c :: cs => by
  have := cntT_le cs
  simp only [cntT, List.length_cons]
  split <;> omega
theorem cntT_set : ∀ (C : List Bool) (i : Nat), cntT (C.set i false) ≤ cntT C
 | [], _ => Nat.le_refl _
 | c :: cs, 0 => by simp [cntT]
 | c :: cs, i + 1 => by
  have := cntT_set cs i
  simp only [List.set_cons_succ, cntT]
  omega
theorem cntT_lt : ∀ (C : List Bool) (i : Nat), C.getD i false = true → cntT (C.set i false) < cntT C
 | [], _, h => by simp at h
 | c :: cs, 0, h => by
  have : c = true := by simpa using h
  subst this
  simp [cntT]
 | c :: cs, i + 1, h => by
  have := cntT_lt cs i (by simpa using h)
  simp only [List.set_cons_succ, cntT]
  omega
theorem cntT_zero : ∀ (C : List Bool), cntT C = 0 → ∀ i, C.getD i false = false
 | [], _, _ => by simp
 | c :: cs, h, 0 => by
  simp only [cntT] at h
  cases c
  ·rfl
  ·simp at h
 | c :: cs, h, i + 1 => by
  simp only [cntT] at h
  simpa using cntT_zero cs (by omega) i
theorem spIn_true (E : List (Nat × Nat)) (gd : Nat) (C : List Bool) (i : Nat) : ∀ d k, spIn E gd C i d k = true → C.getD i false = true
 | 0, _, h => by cases h
 | d + 1, k, h => by
  simp only [spIn] at h
  split at h
  ·rename_i hc
   unfold comes at hc
   simp only [Bool.and_eq_true] at hc
   exact hc.1.1
  ·exact spIn_true E gd C i d (k + 1) h
theorem spOut_true (E : List (Nat × Nat)) (gd : Nat) (C : List Bool) : ∀ d i j, spOut E gd C d i = some j → C.getD j false = true
 | 0, _, _, h => by cases h
 | d + 1, i, j, h => by
  simp only [spOut] at h
  split at h
  ·rename_i hs
   cases h
   exact spIn_true E gd C i _ _ hs
  ·exact spOut_true E gd C d (i + 1) j h
end Go.Proofs.YtijfddobandcdaaDoor.X
end
section
/- A node less, an edge less, two neighbours made one: what becomes of a graph, and of its width. -/
namespace Go.Proofs.YtijfddobandcdaaDoor.T
open Go.RowKit YtijfddobandcdaaDoorW.PrintWords YtijfddobandcdaaDoorW.PrintLast YtijfddobandcdaaDoorW.PrintMore
def down (v u : Nat) : Nat := if u < v then u else u - 1
end Go.Proofs.YtijfddobandcdaaDoor.T
end
section
/- Layouts of a town: the border of a set, what can come behind a set with borders of at most k nodes; a node less, an edge less. -/
namespace Go.Proofs.YtijfddobandcdaaDoor.T
open Go.RowKit YtijfddobandcdaaDoorW.PrintWords YtijfddobandcdaaDoorW.PrintLast YtijfddobandcdaaDoorW.PrintMore
noncomputable def bor (G : List Nat) (S : Nat) : Nat := ofSet (fun j => bset S j ∧ ∃ u, Adj G j u ∧ ¬ bset S u) G.length
inductive Lay (G : List Nat) (k : Nat) : Nat → Prop
 | done : Lay G k (2 ^ G.length - 1)
 | step {S v : Nat} : v < G.length → ¬ bset S v → pc (bor G (S ||| 2 ^ v)) 9 ≤ k → Lay G k (S ||| 2 ^ v) → Lay G k S
theorem Lay.mono {G : List Nat} {k k' S : Nat} (h : Lay G k S) (hk : k ≤ k') : Lay G k' S := by
 induction h with
 | done => exact .done
 | step h1 h2 h3 _ ih => exact .step h1 h2 (by omega) ih
/-! A node less. -/
/-! An edge less. -/
end Go.Proofs.YtijfddobandcdaaDoor.T
end
section
/- What read tells: a graph that is valid, or nothing. -/
namespace Go.Proofs.YtijfddobandcdaaDoor.X
open Go.RowKit YtijfddobandcdaaDoorW.PrintWords YtijfddobandcdaaDoorW.PrintLast YtijfddobandcdaaDoorW.PrintMore YtijfddobandcdaaDoor.T
theorem read_l1 (g : List Int) (hn : g.length ≤ 7) (i : Nat) (hi : i < g.length) (r : List Int × Bool)
  (hrest : Ev (fun k => sweep_read.l0 k g (g.length : Int) g (g.length : Int) ((i + 1 : Nat) : Int)) r) :
  ∀ d j, j + d = g.length → Ev (fun k => sweep_read.l1 k g (g.length : Int) (i : Int) (rd g (i : Int)) g (g.length : Int) (i : Int) (g.length : Int) (j : Int))
   (cond (allFrom (fun j => decide (ibit (rd g (i : Int)) j = ibit (rd g (j : Int)) i)) g.length d j) r (([] : List Int), false)) := by
 intro d
 induction d with
 | zero =>
  intro j hj
  refine Ev.step (fun k => ?_) hrest
  rw [sweep_read.l1, if_neg (by omega), wrap_succ i (by omega)]
 | succ d ih =>
  intro j hj
  simp only [allFrom]
  by_cases hb : ibit (rd g (i : Int)) j = ibit (rd g (j : Int)) i
  ·refine Ev.step (f := fun k => sweep_read.l1 k g (g.length : Int) (i : Int) (rd g (i : Int)) g (g.length : Int) (i : Int) (g.length : Int) ((j + 1 : Nat) : Int)) (fun k => ?_) ?_
   ·rw [sweep_read.l1, if_pos (by omega), if_pos (by omega), if_pos (by omega), if_pos (by omega), wrap_succ j (by omega)]
    exact if_pos hb
   ·have := ih (j + 1) (by omega)
    simpa [hb] using this
  ·refine Ev.step (f := fun _ => some (([] : List Int), false)) (fun k => ?_) (Ev.some (by simp [hb]))
   rw [sweep_read.l1, if_pos (by omega), if_pos (by omega), if_pos (by omega), if_pos (by omega)]
   exact if_neg hb
theorem read_l0 (g : List Int) (hn : g.length ≤ 7) :
  ∀ d i, i + d = g.length → Ev (fun k => sweep_read.l0 k g (g.length : Int) g (g.length : Int) (i : Int)) (cond (allFrom (rowOk g) g.length d i) (g, true) (([] : List Int), false)) := by
 intro d
 induction d with
 | zero =>
  intro i hi
  refine Ev.step (f := fun _ => some (g, true)) (fun k => ?_) (Ev.some (by simp [allFrom]))
  rw [sweep_read.l0, if_neg (by omega)]
 | succ d ih =>
  intro i hi
  have stop : ∀ k, sweep_read.j2 (k + 1) g (g.length : Int) (i : Int) (rd g (i : Int)) g (g.length : Int) (i : Int) true = some (([] : List Int), false) := fun k => by
   rw [sweep_read.j2, if_pos rfl]
  simp only [allFrom, rowOk]
  by_cases h1 : rd g (i : Int) < 0
  ·refine Ev.step (fun k => ?_) (f := fun k => sweep_read.j2 k g (g.length : Int) (i : Int) (rd g (i : Int)) g (g.length : Int) (i : Int) true) ?_
   ·rw [sweep_read.l0, if_pos (by omega), if_pos (by omega), if_pos (by omega), if_pos h1]
   ·exact Ev.step stop (Ev.some (by simp [h1]))
  ·by_cases h2 : rd g (i : Int) ≥ shl .i64 1 (g.length : Int)
   ·refine Ev.step (fun k => ?_) (f := fun k => sweep_read.j2 k g (g.length : Int) (i : Int) (rd g (i : Int)) g (g.length : Int) (i : Int) true) ?_
    ·rw [sweep_read.l0, if_pos (by omega), if_pos (by omega), if_pos (by omega), if_neg h1, if_pos (by omega), if_pos h2]
    ·exact Ev.step stop (Ev.some (by simp [h2]))
   ·refine Ev.step (fun k => ?_) (f := fun k => sweep_read.j2 k g (g.length : Int) (i : Int) (rd g (i : Int)) g (g.length : Int) (i : Int) (ibit (rd g (i : Int)) i == 1)) ?_
    ·rw [sweep_read.l0, if_pos (by omega), if_pos (by omega), if_pos (by omega), if_neg h1, if_pos (by omega), if_neg h2]
     rfl
    ·by_cases h3 : (ibit (rd g (i : Int)) i == 1) = true
     ·simp only [h3]
      exact Ev.step stop (Ev.some (by simp))
     ·refine Ev.step (fun k => by rw [sweep_read.j2, if_neg h3]) ?_
      have := read_l1 g hn i (by omega) _ (ih (i + 1) (by omega)) g.length 0 (by omega)
      have h3' : (ibit (rd g (i : Int)) i == 1) = false := by simpa using h3
      simp only [h1, h2, h3', decide_false, Bool.not_false, Bool.true_and]
      cases h4 : allFrom (fun j => decide (ibit (rd g (i : Int)) j = ibit (rd g (j : Int)) i)) g.length g.length 0
      ·simpa [h4] using this
      ·simpa [h4] using this
theorem read_ev (g : List Int) (hg : g.length < 2 ^ 60) : Ev (fun k => sweep_read.f k g) (cond (chk 7 g) (g, true) (([] : List Int), false)) := by
 have stop : ∀ k, sweep_read.j0 (k + 1) g (g.length : Int) true = some (([] : List Int), false) := fun k => by
  rw [sweep_read.j0, if_pos rfl]
 by_cases h1 : g.length < 1
 ·refine Ev.congr (f := fun k => sweep_read.j0 k g (g.length : Int) true) (fun k => ?_) (Ev.step stop (Ev.some ?_))
  ·rw [sweep_read.f, if_pos (by omega)]
  ·have : ¬ 1 ≤ g.length := by omega
   simp [chk, this]
 ·refine Ev.congr (f := fun k => sweep_read.j0 k g (g.length : Int) (decide ((g.length : Int) > 7))) (fun k => ?_) ?_
  ·rw [sweep_read.f, if_neg (by omega)]
  ·by_cases h2 : g.length ≤ 7
   ·have e : decide ((g.length : Int) > 7) = false := decide_eq_false (by omega)
    rw [e]
    refine Ev.step (fun k => by rw [sweep_read.j0, if_neg (by simp)]) ?_
    have := read_l0 g h2 g.length 0 (by omega)
    have h3 : decide (1 ≤ g.length) = true := decide_eq_true (by omega)
    simpa [chk, h2, h3] using this
   ·have e : decide ((g.length : Int) > 7) = true := decide_eq_true (by omega)
    rw [e]
    refine Ev.step stop (Ev.some ?_)
    simp [chk, h2]
end Go.Proofs.YtijfddobandcdaaDoor.X
end
section
/- The references' own words: IsGraph. -/
namespace Go.Proofs.YtijfddobandcdaaDoor.X
open Go.RowKit YtijfddobandcdaaDoorW.PrintWords YtijfddobandcdaaDoorW.PrintLast YtijfddobandcdaaDoorW.PrintMore YtijfddobandcdaaDoor.T
theorem isGraph_l1 (m : Nat) (g : List Int) (hn : g.length ≤ 13) (i : Nat) (hi : i < g.length) (r : Bool)
  (hrest : Ev (fun k => lampblackref01_IsGraph.l0 k g (m : Int) g (g.length : Int) ((i + 1 : Nat) : Int)) r) :
  ∀ d j, j + d = g.length → Ev (fun k => lampblackref01_IsGraph.l1 k g (m : Int) (i : Int) (rd g (i : Int)) g (g.length : Int) (i : Int) (g.length : Int) (j : Int))
   (allFrom (fun j => decide (ibit (rd g (i : Int)) j = ibit (rd g (j : Int)) i)) g.length d j && r) := by
 intro d
 induction d with
 | zero =>
  intro j hj
  refine Ev.step (fun k => ?_) hrest
  rw [lampblackref01_IsGraph.l1, if_neg (by omega), wrap_succ i (by omega)]
 | succ d ih =>
  intro j hj
  simp only [allFrom]
  by_cases hb : ibit (rd g (i : Int)) j = ibit (rd g (j : Int)) i
  ·refine Ev.step (f := fun k => lampblackref01_IsGraph.l1 k g (m : Int) (i : Int) (rd g (i : Int)) g (g.length : Int) (i : Int) (g.length : Int) ((j + 1 : Nat) : Int)) (fun k => ?_) ?_
   ·rw [lampblackref01_IsGraph.l1, if_pos (by omega), if_pos (by omega), if_pos (by omega), if_pos (by omega), wrap_succ j (by omega)]
    exact if_pos hb
   ·have := ih (j + 1) (by omega)
    simpa [hb] using this
  ·refine Ev.step (f := fun _ => some false) (fun k => ?_) (Ev.some (by simp [hb]))
   rw [lampblackref01_IsGraph.l1, if_pos (by omega), if_pos (by omega), if_pos (by omega), if_pos (by omega)]
   exact if_neg hb
theorem isGraph_l0 (m : Nat) (hm : m ≤ 13) (g : List Int) (h1 : 1 ≤ g.length) (hn : g.length ≤ m) :
  ∀ d i, i + d = g.length → Ev (fun k => lampblackref01_IsGraph.l0 k g (m : Int) g (g.length : Int) (i : Int)) (allFrom (rowOk g) g.length d i) := by
 intro d
 induction d with
 | zero =>
  intro i hi
  refine Ev.step (f := fun _ => some true) (fun k => ?_) (Ev.some (by simp [allFrom]))
  rw [lampblackref01_IsGraph.l0, if_neg (by omega), if_pos (by omega), decide_eq_true (by omega)]
 | succ d ih =>
  intro i hi
  have stop : ∀ k, lampblackref01_IsGraph.j1 (k + 1) g (m : Int) (i : Int) (rd g (i : Int)) g (g.length : Int) (i : Int) true = some false := fun k => by
   rw [lampblackref01_IsGraph.j1, if_pos rfl]
  simp only [allFrom, rowOk]
  by_cases h1' : rd g (i : Int) < 0
  ·refine Ev.step (fun k => ?_) (f := fun k => lampblackref01_IsGraph.j1 k g (m : Int) (i : Int) (rd g (i : Int)) g (g.length : Int) (i : Int) true) ?_
   ·rw [lampblackref01_IsGraph.l0, if_pos (by omega), if_pos (by omega), if_pos (by omega), if_neg (by omega), if_pos h1']
   ·exact Ev.step stop (Ev.some (by simp [h1']))
  ·by_cases h2 : rd g (i : Int) ≥ shl .i64 1 (g.length : Int)
   ·refine Ev.step (fun k => ?_) (f := fun k => lampblackref01_IsGraph.j1 k g (m : Int) (i : Int) (rd g (i : Int)) g (g.length : Int) (i : Int) true) ?_
    ·rw [lampblackref01_IsGraph.l0, if_pos (by omega), if_pos (by omega), if_pos (by omega), if_neg (by omega), if_neg h1', if_pos h2]
    ·exact Ev.step stop (Ev.some (by simp [h2]))
   ·refine Ev.step (fun k => ?_) (f := fun k => lampblackref01_IsGraph.j1 k g (m : Int) (i : Int) (rd g (i : Int)) g (g.length : Int) (i : Int) (ibit (rd g (i : Int)) i == 1)) ?_
    ·rw [lampblackref01_IsGraph.l0, if_pos (by omega), if_pos (by omega), if_pos (by omega), if_neg (by omega), if_neg h1', if_neg h2]
     rfl
    ·by_cases h3 : (ibit (rd g (i : Int)) i == 1) = true
     ·simp only [h3]
      exact Ev.step stop (Ev.some (by simp))
     ·refine Ev.step (fun k => by rw [lampblackref01_IsGraph.j1, if_neg h3]) ?_
      have := isGraph_l1 m g (by omega) i (by omega) _ (ih (i + 1) (by omega)) g.length 0 (by omega)
      have h3' : (ibit (rd g (i : Int)) i == 1) = false := by simpa using h3
      simp only [h1', h2, h3', decide_false, Bool.not_false, Bool.true_and]
      exact this
theorem isGraph_ev (m : Nat) (hm : m ≤ 13) (g : List Int) (hg : g.length < 2 ^ 60) : Ev (fun k => lampblackref01_IsGraph.f k g (m : Int)) (chk m g) := by
 unfold lampblackref01_IsGraph.f
 by_cases h1 : 1 ≤ g.length
 ·by_cases h2 : g.length ≤ m
  ·have := isGraph_l0 m hm g h1 h2 g.length 0 (by omega)
   simpa [chk, h1, h2] using this
  ·refine Ev.step (f := fun k => lampblackref01_IsGraph.j1 k g (m : Int) 0 (rd g 0) g (g.length : Int) 0 true) (fun k => ?_) (Ev.step (f := fun _ => some false) (fun k => ?_) (Ev.some (by simp [chk, h2])))
   ·rw [lampblackref01_IsGraph.l0, if_pos (by omega), if_pos (by omega), if_pos (by omega), if_pos (by omega)]
   ·rw [lampblackref01_IsGraph.j1, if_pos rfl]
 ·refine Ev.step (f := fun _ => some false) (fun k => ?_) (Ev.some (by simp [chk, h1]))
  rw [lampblackref01_IsGraph.l0, if_neg (by omega), if_neg (by omega)]
end Go.Proofs.YtijfddobandcdaaDoor.X
end
section
/- border, count, layout: what they compute, in plain words; Layout, Least, awake, Few. -/
namespace Go.Proofs.YtijfddobandcdaaDoor.X
open Go.RowKit YtijfddobandcdaaDoorW.PrintWords YtijfddobandcdaaDoorW.PrintLast YtijfddobandcdaaDoorW.PrintMore YtijfddobandcdaaDoor.T
theorem mn_nat (a b : Nat) : mn (a : Int) (b : Int) = ((min a b : Nat) : Int) := by unfold mn; split <;> omega
theorem count_all : ∀ x : Fin 512, sweep_count.f (x.val : Int) = some (pc x.val 9 : Int) := by decide +kernel
theorem count_eq (x : Nat) (hx : x < 512) : sweep_count.f (x : Int) = some (pc x 9 : Int) := count_all ⟨x, hx⟩
theorem awake_ev : Ev (fun k => lampblacklaw03_awake.f k) true := by
 exact Ev.of (lampblacklaw03_awake.mono) (k := 40) (by decide +kernel)
theorem valid_ev (g : List Int) (hg : g.length < 2 ^ 60) : Ev (fun k => lampblackref03_Valid.f k g) (chk 7 g) := by
 unfold lampblackref03_Valid.f
 exact Ev.bind (isGraph_ev 7 (by omega) g hg) (Ev.some rfl)
theorem few_eq (g : List Int) (hg : g.length < 2 ^ 44) : ∃ h, lampblacklaw03_Few.f g = some h ∧ (chk 7 g = true → h = g) ∧ (chk 7 g = false → chk 7 h = false) ∧ h.length ≤ 11 := by
 have hm : mn (g.length : Int) 11 = ((min g.length 11 : Nat) : Int) := mn_nat g.length 11
 refine ⟨g.take (min g.length 11), ?_, ?_, ?_, ?_⟩
 ·unfold lampblacklaw03_Few.f slices_Clone_Graph.f
  simp only [hm, Int.toNat_natCast]
  rw [if_pos (by omega), if_pos (by omega)]
  simp only [Option.bind_some, List.length_nil, List.nil_append]
  rw [if_pos (by rw [List.length_take]; omega)]
  rfl
 ·intro h
  simp only [chk, Bool.and_eq_true, decide_eq_true_eq] at h
  exact List.take_of_length_le (by omega)
 ·intro h
  by_cases hl : g.length ≤ 11
  ·rw [List.take_of_length_le (by omega)]; exact h
  ·unfold chk
   have : ¬ (List.take (min g.length 11) g).length ≤ 7 := by rw [List.length_take]; omega
   rw [decide_eq_false this, Bool.and_false, Bool.false_and]
 ·rw [List.length_take]; omega
end Go.Proofs.YtijfddobandcdaaDoor.X
end
section
namespace Go.Proofs.YtijfddobandcdaaDoor.X
open Go.RowKit YtijfddobandcdaaDoorW.PrintWords YtijfddobandcdaaDoorW.PrintLast YtijfddobandcdaaDoorW.PrintMore
attribute [local go_sem] max2_int min2_int max_two min_two max_three min_three max_four min_four
/-! ### lampblackref03_Border: function 59 -/
def lampblackref03_Border.l0 : Nat → List Int → Int → Int → Int → Int → Option (Int)
 | 0, _, _, _, _, _ => none
 | k + 1, x0, x1, x5, x8, x9 => if x9 < x8 then (if 0 ≤ x9 then (if (Go.bits .and .i64 (shr .i64 x1 x9) 1) = 1 then (if x9 < (x0.length : Int) then (if (Go.bits .andNot .i64 (rd x0 x9) x1) = 0 then (lampblackref03_Border.l0 k x0 x1 x5 x8 (wrap64 (x9 + 1))) else (lampblackref03_Border.l0 k x0 x1 (Go.bits .or .i64 x5 (shl .i64 1 x9)) x8 (wrap64 (x9 + 1)))) else (none)) else (lampblackref03_Border.l0 k x0 x1 x5 x8 (wrap64 (x9 + 1)))) else (none)) else (some x5)
def lampblackref03_Border.f (k : Nat) (l0 : List Int) (a1 : Int) : Option (Int) := lampblackref03_Border.l0 k l0 a1 0 (l0.length : Int) 0
end Go.Proofs.YtijfddobandcdaaDoor.X
end
section
namespace Go.Proofs.YtijfddobandcdaaDoor.X
open Go.RowKit YtijfddobandcdaaDoorW.PrintWords YtijfddobandcdaaDoorW.PrintLast YtijfddobandcdaaDoorW.PrintMore
attribute [local go_sem] max2_int min2_int max_two min_two max_three min_three max_four min_four
/-! ### lampblackref03_Breadth: function 31 -/
def lampblackref03_Breadth.l0 : Nat → List Int → Int → Int → List Int → Int → Int → Option (Int)
 | 0, _, _, _, _, _, _ => none
 | k + 1, x0, x5, x6, x9, x10, x11 => if x11 < x10 then (if 0 ≤ x11 then (if x11 < (x9.length : Int) then (if 0 ≤ (rd x9 x11) then ((lampblackref03_Border.f k x0 (Go.bits .or .i64 x6 (shl .i64 1 (rd x9 x11)))).bind fun t138 => ((lampblackref02_Size.f k t138).bind fun t139 => (lampblackref03_Breadth.l0 k x0 (mx x5 t139) (Go.bits .or .i64 x6 (shl .i64 1 (rd x9 x11))) x9 x10 (wrap64 (x11 + 1))))) else (none)) else (none)) else (none)) else (some x5)
end Go.Proofs.YtijfddobandcdaaDoor.X
end
section
/- (family).sides and (town).family, by hand. -/
namespace Go.Proofs.YtijfddobandcdaaDoor.X
open Go.RowKit YtijfddobandcdaaDoorW.PrintWords YtijfddobandcdaaDoorW.PrintLast YtijfddobandcdaaDoorW.PrintMore YtijfddobandcdaaDoor.T
attribute [local go_sem] max2_int min2_int max_two min_two max_three min_three max_four min_four
theorem p7 {G : List Nat} (hn : G.length ≤ 7) : 2 ^ G.length ≤ 128 := Nat.pow_le_pow_right (n := 2) (by omega) hn
theorem all_f {G : List Nat} (hG : Gr 7 G) : sweep_town_all.f (gi G) = some ((2 ^ G.length - 1 : Nat) : Int) := by
 have hn := hG.most
 have hp := p7 hn
 have h0 := Nat.two_pow_pos G.length
 unfold sweep_town_all.f
 rw [gi_length, s_one _ (by omega)]
 generalize 2 ^ G.length = P at *
 rw [w64_small _ (by omega) (by omega)]
 congr 1
 omega
theorem own_ne_blk {W : World} {base g : Nat} {e t : TypeId} {size : Nat} {v : Value} {k : Nat} {xs : List Value} {cs : Array Value} (h : W.ownsRow base e size v k xs) (hb : W.heap[g]? = some (.cells cs t (0, 0))) (hne : e ≠ t) : v.ownBlock ≠ some g := by
 rcases h.2 with ⟨rfl, _⟩ | ⟨g2, cap, cur, rfl, _, hg, _⟩
 ·simp [Value.ownBlock]
 ·intro e2
  obtain rfl : g2 = g := by simpa [Value.ownBlock] using e2
  rw [hg] at hb
  injection hb with hb
  injection hb with _ h2
  exact hne h2
structure FamI (w W : World) (gf H : Nat) (A0 : Option Addr) (c0 n k : Nat) (v2 v3 : Value) (bs : List Bool) (Ls : List (List Int)) : Prop where
 blk : W.heap[gf]? = some (.cells #[.slice A0 n c0, .int .i64 (k : Int), v2, v3] 96 (0, 0))
 ge : w.heap.size ≤ gf
 lt : gf < H
 own2 : W.ownsRow w.heap.size 4 1 v2 bs.length (bs.map Value.bool)
 lt2 : ∀ b, v2.ownBlock = some b → b < H
 own3 : ∃ rows, W.ownsRow w.heap.size 22 1 v3 Ls.length rows ∧ Rows w.heap.size W rows Ls ∧ ∀ v ∈ rows, ∀ b, v.ownBlock = some b → b < H
 lt3 : ∀ b, v3.ownBlock = some b → b < H
 below : Below w.heap.size w W
 top : H ≤ W.heap.size
theorem FamI.kept {w W V : World} {gf H : Nat} {A0 : Option Addr} {c0 n k : Nat} {v2 v3 : Value} {bs : List Bool} {Ls : List (List Int)} {row : Option Nat} (h : FamI w W gf H A0 c0 n k v2 v3 bs Ls) (hg : W.grownBy V row) (hr : ∀ r, row = some r → H ≤ r) : FamI w V gf H A0 c0 n k v2 v3 bs Ls := by
 have ne : ∀ b, b < H → some b ≠ row := fun b hb e => by have := hr b e.symm; omega
 have hlt := h.lt
 have hge := h.ge
 obtain ⟨rows, r1, r2, r3⟩ := h.own3
 refine ⟨blk_grown h.blk hg (ne _ hlt), hge, hlt, own_kept h.own2 hg (fun b hb => ne b (h.lt2 b hb)), h.lt2, ⟨rows, own_kept r1 hg (fun b hb => ne b (h.lt3 b hb)), ⟨r2.1, fun i L hL => ?_⟩, r3⟩, h.lt3, h.below.grown hg h.below.size (fun j e => by have := hr j e; omega), Nat.le_trans h.top hg.size⟩
 obtain ⟨v, q1, q2⟩ := r2.2 i L hL
 exact ⟨v, q1, own_kept q2 hg (fun b hb => ne b (r3 v (List.mem_of_getElem? q1) b hb))⟩
theorem FamI.low {w W V : World} {gf H : Nat} {A0 : Option Addr} {c0 n k : Nat} {v2 v3 : Value} {bs : List Bool} {Ls : List (List Int)} (h : FamI w W gf H A0 c0 n k v2 v3 bs Ls) (hb : Below W.heap.size W V) : FamI w V gf H A0 c0 n k v2 v3 bs Ls := h.kept (grown_of_below hb none) (fun r e => by cases e)
theorem FamI.other {w W V : World} {gf H HH : Nat} {A0 : Option Addr} {c0 n k : Nat} {v2 v3 v3' v7 : Value} {bs : List Bool} {Ls : List (List Int)} {rows : List Value} {L : List Int} {o : Obj} (h : FamI w W gf H A0 c0 n k v2 v3 bs Ls) (hHH : w.heap.size ≤ HH) (h7 : W.ownsRow HH 3 1 v7 L.length (L.map (Value.int .i64))) (r1 : W.ownsRow w.heap.size 22 1 v3 Ls.length rows) (r2 : Rows w.heap.size W rows Ls) (r3 : ∀ v ∈ rows, ∀ b, v.ownBlock = some b → b < H)
  (hg : (W.alloc o).grownBy V v3.ownBlock) (hown : V.ownsRow w.heap.size 22 1 v3' (Ls.length + 1) (rows ++ [v7])) :
  FamI w (V.setCell ⟨gf, 3, none⟩ v3') gf V.heap.size A0 c0 n k v2 v3' bs (Ls ++ [L]) := by
 have hge := h.ge
 have hlt := h.lt
 have htop := h.top
 have hgs := hg.size
 simp only [World.size_alloc] at hgs
 have hsz : (V.setCell ⟨gf, 3, none⟩ v3').heap.size = V.heap.size := World.size_setCell _ _ _
 have hb1 : V.heap[gf]? = some (.cells #[.slice A0 n c0, .int .i64 (k : Int), v2, v3] 96 (0, 0)) := blk_grown (blk_alloc h.blk o) hg (fun e => own_ne_blk (r1.alloc o) (blk_alloc h.blk o) (by decide) e.symm)
 have set_kept : ∀ {base : Nat} {e : TypeId} {v : Value} {m : Nat} {xs : List Value}, V.ownsRow base e 1 v m xs → e ≠ 96 → (V.setCell ⟨gf, 3, none⟩ v3').ownsRow base e 1 v m xs := fun ho he =>
  own_kept ho (grownBy_set V _ _) (fun b hb e2 => own_ne_blk ho hb1 he (by rw [hb]; exact e2))
 refine ⟨by simpa using blk_set hb1 3 v3', hge, by omega, ?_, fun b hb => ?_, ⟨rows ++ [v7], ?_, ?_, fun v hv b hb => ?_⟩, fun b hb => own_lt hown b hb, ?_, by omega⟩
 ·exact set_kept (ownsRow_other (h.own2.alloc o) (r1.alloc o) (by decide) hg) (by decide)
 ·have := h.lt2 b hb; omega
 ·rw [List.length_append]
  exact set_kept hown (by decide)
 ·have q1 : Rows w.heap.size (V.setCell ⟨gf, 3, none⟩ v3') rows Ls := r2.imp fun v L hv => set_kept (ownsRow_other (hv.alloc o) (r1.alloc o) (by decide) hg) (by decide)
  refine q1.append ⟨rfl, fun i L2 hL => ?_⟩
  cases i with
  | zero =>
   obtain rfl : L = L2 := by simpa using hL
   exact ⟨v7, rfl, set_kept (ownsRow_other ((ownsRow_mono h7 hHH).alloc o) (r1.alloc o) (by decide) hg) (by decide)⟩
  | succ i => simp at hL
 ·rcases List.mem_append.1 hv with h1 | h1
  ·have := r3 v h1 b hb; omega
  ·rw [List.mem_singleton.1 h1] at hb
   have := own_lt h7 b hb; omega
 ·exact below_set ((below_alloc h.below o).grown hg (by have := h.below.size; simp; omega) (fun j e => by
   rcases (r1.alloc o).2 with ⟨e1, _⟩ | ⟨g2, cap, cur, e1, hb2, _⟩
   ·rw [e1] at e; simp [Value.ownBlock] at e
   ·rw [e1] at e
    obtain rfl : g2 = j := by simpa [Value.ownBlock] using e
    exact hb2)) hge
end Go.Proofs.YtijfddobandcdaaDoor.X
end
section
/- sweep.CheckBlockage, by hand. -/
namespace Go.Proofs.YtijfddobandcdaaDoor.X
open Go.RowKit YtijfddobandcdaaDoorW.PrintWords YtijfddobandcdaaDoorW.PrintLast YtijfddobandcdaaDoorW.PrintMore YtijfddobandcdaaDoor.T
attribute [local go_sem] max2_int min2_int max_two min_two max_three min_three max_four min_four
theorem read_yes {G : List Nat} (hG : Gr 7 G) (A0 : Option Addr) (c0 : Nat) (w : World) (hr0 : Kd.C (Kd.int .i64) w A0 (gi G).length (gi G)) (hc0 : G.length ≤ c0) :
  Calls Tryd.prog 49 #[.slice A0 G.length c0] w fun e w' => ∃ A1 c1, e = .returned (.tuple #[.slice A1 G.length c1, .bool true]) ∧ G.length ≤ c1 ∧ Kd.C (Kd.int .i64) w' A1 (gi G).length (gi G) ∧ Below w.heap.size w w' := by
 obtain ⟨K, hK⟩ := read_ev (gi G) (by rw [gi_length]; have := hG.most; omega)
 have hk := hK K (Nat.le_refl _)
 rw [(chk_iff 7 (by omega) _).2 ⟨G, rfl, hG⟩] at hk
 have hl := gi_length G
 have := sweep_read.calls K (fun k_ => k_ < w.heap.size) A0 c0 (gi G) (gi G) true w (Kd.V_mk (by rw [hl]; exact hc0) (Kd.F_below (Kd.C_F (Kd.heap_int .i64) hr0) (Below.refl _ _))) hk
 rw [hl] at this
 refine this.mono ?_
 rintro e w' ⟨v, rfl, hv, hb⟩
 obtain ⟨A1, c1, rfl⟩ := Kd.V_slice hv
 have h2 := Kd.V_reads' hv
 rw [hl] at *
 exact ⟨A1, c1, rfl, h2.2.1, h2.2.2, hb⟩
theorem read_no {g : List Int} (hl : g.length < 2 ^ 60) (hg : chk 7 g = false) (A0 : Option Addr) (c0 : Nat) (w : World) (hr0 : Kd.C (Kd.int .i64) w A0 g.length g) (hc0 : g.length ≤ c0) :
  Calls Tryd.prog 49 #[.slice A0 g.length c0] w fun e w' => ∃ v, e = .returned (.tuple #[v, .bool false]) ∧ Below w.heap.size w w' := by
 obtain ⟨K, hK⟩ := read_ev g hl
 have hk := hK K (Nat.le_refl _)
 rw [hg] at hk
 refine (sweep_read.calls K (fun k_ => k_ < w.heap.size) A0 c0 g [] false w (Kd.V_mk hc0 (Kd.F_below (Kd.C_F (Kd.heap_int .i64) hr0) (Below.refl _ _))) hk).mono ?_
 rintro e w' ⟨v, rfl, hv, hb⟩
 exact ⟨v, rfl, hb⟩
def HRow (W : World) (g : Nat) (C : List Bool) : Prop := W.heap[g]? = some (.cells (C.map Value.bool).toArray 4 (0, 0))
theorem HRow.lt {W : World} {g : Nat} {C : List Bool} (h : HRow W g C) : g < W.heap.size := (Array.getElem?_eq_some_iff.1 h).1
theorem HRow.cell {W : World} {g : Nat} {C : List Bool} (h : HRow W g C) (i : Nat) (hi : i < C.length) : W.cell? ⟨g, i, none⟩ = some (.bool (C.getD i false)) := by
 unfold World.cell?
 rw [show W.heap[(⟨g, i, none⟩ : Addr).block]? = _ from h]
 simp only [Option.isSome_none, Bool.false_eq_true, if_false]
 simp [List.getElem?_eq_getElem hi]
theorem HRow.frozen {W : World} {g : Nat} {C : List Bool} (h : HRow W g C) (i : Nat) : W.frozen? ⟨g, i, none⟩ = false := by
 unfold World.frozen?
 rw [show W.heap[(⟨g, i, none⟩ : Addr).block]? = _ from h]
 simp
theorem HRow.below {W V : World} {g : Nat} {C : List Bool} (h : HRow W g C) (hb : Below W.heap.size W V) : HRow V g C := (hb.block g h.lt).trans h
theorem HRow.set {W : World} {g : Nat} {C : List Bool} (h : HRow W g C) (i : Nat) (v : Bool) : HRow (W.setCell ⟨g, i, none⟩ (.bool v)) g (C.set i v) := by
 obtain ⟨hlt, hk⟩ := Array.getElem?_eq_some_iff.1 h
 show (W.heap.modify g _)[g]? = _
 rw [Array.getElem?_eq_getElem (by rw [Array.size_modify]; exact hlt), Array.getElem_modify_self, hk]
 simp [List.map_set]
theorem HRow.made (W : World) (n : Nat) : HRow (W.alloc (.cells (madeCells #[Value.bool false] n) 4)) W.heap.size (List.replicate n false) := by
 have := heap_alloc_new W (.cells (madeCells #[Value.bool false] n) 4)
 unfold HRow
 rw [this]
 congr 2
 unfold madeCells
 apply Array.ext
 ·simp
 ·intro i h1 h2
  simp [Nat.mod_one]
end Go.Proofs.YtijfddobandcdaaDoor.X
end
section
namespace Go.Proofs.YtijfddobandcdaaDoor.X
open Go.RowKit YtijfddobandcdaaDoorW.PrintWords YtijfddobandcdaaDoorW.PrintLast YtijfddobandcdaaDoorW.PrintMore
attribute [local go_sem] max2_int min2_int max_two min_two max_three min_three max_four min_four
/-! ### sweep_street_ends: function 78 -/
def sweep_street_ends.f (a0_0 : Int) (a0_1 : Int) : Option (Int) := if 0 ≤ a0_0 then (if 0 ≤ a0_1 then (some (Go.bits .or .i64 (shl .i64 1 a0_0) (shl .i64 1 a0_1))) else (none)) else (none)
set_option maxHeartbeats 8000000 in
set_option maxRecDepth 100000 in
theorem sweep_street_ends.calls (a0_0 : Int) (a0_1 : Int) (r : Int) (w : World) (h : sweep_street_ends.f a0_0 a0_1 = some r) :
  Calls Tryd.prog 78 #[.agg #[.int .i64 a0_0, .int .i64 a0_1]] w fun e w' => e = .returned (.int .i64 r) ∧ Below w.heap.size w w' := by
 have hu117 := Tryd.underlying117
 have HB := Aside0.mk (Below.refl w.heap.size w)
 have H : (if 0 ≤ a0_0 then (if 0 ≤ a0_1 then (some (Go.bits .or .i64 (shl .i64 1 a0_0) (shl .i64 1 a0_1))) else (none)) else (none)) = some r := h
 clear h
 by_cases c2 : 0 ≤ a0_0
 ·rw [if_pos c2] at H
  have c2b0 := eq_true c2
  have c2b1 : decide (0 ≤ a0_0) = true := decide_eq_true c2
  clear c2
  obtain ⟨ji3, hji3⟩ : ∃ j_ : Int, (shl .i64 1 a0_0) = j_ := ⟨_, rfl⟩
  replace H : (if 0 ≤ a0_1 then (some (Go.bits .or .i64 (ji3) (shl .i64 1 a0_1))) else (none)) = some r := by first | (rw [hji3] at H; exact H) | (simp only [hji3] at H ⊢; exact H)
  have hji3_ : (IntKind.i64.wrap (1 * 2 ^ min a0_0.toNat 64)) = ji3 := hji3
  have hji3z : a0_0 ≤ 64 → (IntKind.i64.wrap (1 * 2 ^ a0_0.toNat)) = ji3 := shl_small hji3
  have hji3u : (IntKind.i64.wrap (2 ^ min a0_0.toNat 64)) = ji3 := by have h_ := hji3_; rw [Int.one_mul] at h_; exact h_
  have hji3v : a0_0 ≤ 64 → (IntKind.i64.wrap (2 ^ a0_0.toNat)) = ji3 := fun hle_ => by have h_ := hji3z hle_; rw [Int.one_mul] at h_; exact h_
  have hji3y : (wrap64 (1 * 2 ^ min a0_0.toNat 64)) = ji3 := (i64_w _).symm.trans hji3_
  have hji3x : a0_0 ≤ 64 → (wrap64 (1 * 2 ^ a0_0.toNat)) = ji3 := fun h_ => (i64_w _).symm.trans (hji3z h_)
  by_cases c4 : 0 ≤ a0_1
  ·rw [if_pos c4] at H
   have c4b0 := eq_true c4
   have c4b1 : decide (0 ≤ a0_1) = true := decide_eq_true c4
   clear c4
   obtain ⟨ji5, hji5⟩ : ∃ j_ : Int, (shl .i64 1 a0_1) = j_ := ⟨_, rfl⟩
   replace H : (some (Go.bits .or .i64 (ji3) (ji5))) = some r := by first | (rw [hji5] at H; exact H) | (simp only [hji5] at H ⊢; exact H)
   have hji5_ : (IntKind.i64.wrap (1 * 2 ^ min a0_1.toNat 64)) = ji5 := hji5
   have hji5z : a0_1 ≤ 64 → (IntKind.i64.wrap (1 * 2 ^ a0_1.toNat)) = ji5 := shl_small hji5
   have hji5u : (IntKind.i64.wrap (2 ^ min a0_1.toNat 64)) = ji5 := by have h_ := hji5_; rw [Int.one_mul] at h_; exact h_
   have hji5v : a0_1 ≤ 64 → (IntKind.i64.wrap (2 ^ a0_1.toNat)) = ji5 := fun hle_ => by have h_ := hji5z hle_; rw [Int.one_mul] at h_; exact h_
   have hji5y : (wrap64 (1 * 2 ^ min a0_1.toNat 64)) = ji5 := (i64_w _).symm.trans hji5_
   have hji5x : a0_1 ≤ 64 → (wrap64 (1 * 2 ^ a0_1.toNat)) = ji5 := fun h_ => (i64_w _).symm.trans (hji5z h_)
   obtain rfl := Option.some.inj H
   go_enter Tryd.func78, Tryd.ntmps78
   go_wp2_with (first | ((with_reducible refine gate_dst (N := 1) rfl ?_); refine box_event ?hg (N := 1) ?hd (cs := #[.int .i64 a0_0, .int .i64 a0_1]) (t := 117) ?hr ?_; (case hd => rfl); (case hg => rfl); (case hr => first | (go_simp; done) | (go_simp; rfl)); intro gb392 hg w6 hbox hb; have n0_ := Aside0.mk (below_step (Qaw) hb); have n1_ := Aside0.mk (hbox); have n2_ := Aside0.mk ((by rw [hg]; exact (below_size (Qaw)) : w.heap.size ≤ gb392)); have n3_ := Aside0.mk ((by rw [hg]; exact (below_size (Qaw)) : w.heap.size ≤ gb392)); clear HB; have HB := n0_; have BK392 := n1_; have GW392 := n2_; have GE392 := n3_; clear n0_ n1_ n2_ n3_; clear hb hbox hg; have hcz7_0 : w6.cell? ⟨gb392, 0, none⟩ = some (.int .i64 a0_0) := (blk_cell BK392.out 0).trans rfl; have hcz7_1 : w6.cell? ⟨gb392, 1, none⟩ = some (.int .i64 a0_1) := (blk_cell BK392.out 1).trans rfl; have hfz7_0 := blk_frozen BK392.out 0; have hfz7_1 := blk_frozen BK392.out 1))
   repeat (go_quiet (first | ((with_reducible refine gate_dst (N := 1) rfl ?_); refine box_event ?hg (N := 1) ?hd (cs := #[.int .i64 a0_0, .int .i64 a0_1]) (t := 117) ?hr ?_; (case hd => rfl); (case hg => rfl); (case hr => first | (go_simp; done) | (go_simp; rfl)); intro gb392 hg w6 hbox hb; have n0_ := Aside0.mk (below_step (Qaw) hb); have n1_ := Aside0.mk (hbox); have n2_ := Aside0.mk ((by rw [hg]; exact (below_size (Qaw)) : w.heap.size ≤ gb392)); have n3_ := Aside0.mk ((by rw [hg]; exact (below_size (Qaw)) : w.heap.size ≤ gb392)); clear HB; have HB := n0_; have BK392 := n1_; have GW392 := n2_; have GE392 := n3_; clear n0_ n1_ n2_ n3_; clear hb hbox hg; have hcz7_0 : w6.cell? ⟨gb392, 0, none⟩ = some (.int .i64 a0_0) := (blk_cell BK392.out 0).trans rfl; have hcz7_1 : w6.cell? ⟨gb392, 1, none⟩ = some (.int .i64 a0_1) := (blk_cell BK392.out 1).trans rfl; have hfz7_0 := blk_frozen BK392.out 0; have hfz7_1 := blk_frozen BK392.out 1)); try go_wp2_with (first | ((with_reducible refine gate_dst (N := 1) rfl ?_); refine box_event ?hg (N := 1) ?hd (cs := #[.int .i64 a0_0, .int .i64 a0_1]) (t := 117) ?hr ?_; (case hd => rfl); (case hg => rfl); (case hr => first | (go_simp; done) | (go_simp; rfl)); intro gb392 hg w6 hbox hb; have n0_ := Aside0.mk (below_step (Qaw) hb); have n1_ := Aside0.mk (hbox); have n2_ := Aside0.mk ((by rw [hg]; exact (below_size (Qaw)) : w.heap.size ≤ gb392)); have n3_ := Aside0.mk ((by rw [hg]; exact (below_size (Qaw)) : w.heap.size ≤ gb392)); clear HB; have HB := n0_; have BK392 := n1_; have GW392 := n2_; have GE392 := n3_; clear n0_ n1_ n2_ n3_; clear hb hbox hg; have hcz7_0 : w6.cell? ⟨gb392, 0, none⟩ = some (.int .i64 a0_0) := (blk_cell BK392.out 0).trans rfl; have hcz7_1 : w6.cell? ⟨gb392, 1, none⟩ = some (.int .i64 a0_1) := (blk_cell BK392.out 1).trans rfl; have hfz7_0 := blk_frozen BK392.out 0; have hfz7_1 := blk_frozen BK392.out 1)))
   go_ret
   exact ⟨by first | rfl | (simp [errW_none, errW_some] <;> rfl) | (simp only [← hji3, ← hji5]; first | rfl | (simp [errW_none, errW_some] <;> rfl)) | (simp [*, errW_none, errW_some] <;> rfl), by repeat (first | (with_reducible first | exact HB.out | apply below_alloc | apply pw_below_drewN | apply below_drew1 | refine below_set ?_ GE392.out) | exact HB.out)⟩
  ·rw [if_neg c4] at H
   exact absurd H (by simp)
 ·rw [if_neg c2] at H
  exact absurd H (by simp)
end Go.Proofs.YtijfddobandcdaaDoor.X
end
section
/- (watch).spread, by hand. -/
namespace Go.Proofs.YtijfddobandcdaaDoor.X
open Go.RowKit YtijfddobandcdaaDoorW.PrintWords YtijfddobandcdaaDoorW.PrintLast YtijfddobandcdaaDoorW.PrintMore YtijfddobandcdaaDoor.T
attribute [local go_sem] max2_int min2_int max_two min_two max_three min_three max_four min_four
structure WAt (W : World) (p gc cc : Nat) (A : Option Addr) (cE : Nat) (ad : Addr) (E : List (Nat × Nat)) (s : OS) : Prop where
 blk : W.heap[p]? = some (.cells #[.slice A E.length cE, .slice (some ⟨gc, 0, none⟩) E.length cc, .int .i64 (s.gd : Int), .int .i64 (s.had : Int), .bool s.bk] 102 (0, 0))
 hA : 0 < E.length → A = some ad
 e0 : ∀ i, i < E.length → W.cell? (ad.add (i * 2)) = some (.int .i64 ((E.getD i (0, 0)).1 : Nat))
 e1 : ∀ i, i < E.length → W.cell? ⟨(ad.add (i * 2)).block, (ad.add (i * 2)).off + 1, none⟩ = some (.int .i64 ((E.getD i (0, 0)).2 : Nat))
 clr : HRow W gc s.C
 len : s.C.length = E.length
 n1 : p ≠ gc
 n2 : 0 < E.length → ad.block ≠ p ∧ ad.block ≠ gc
theorem add_block (a : Addr) (n : Nat) : (a.add n).block = a.block := by unfold Addr.add; split <;> rfl
theorem cell_same {W V : World} {a : Addr} (h : V.heap[a.block]? = W.heap[a.block]?) : V.cell? a = W.cell? a := by
 unfold World.cell?
 rw [h]
theorem heap_set_other (W : World) (a : Addr) (v : Value) (b : Nat) (h : b ≠ a.block) : (W.setCell a v).heap[b]? = W.heap[b]? := Below.heap_setCell W a v b h
theorem WAt.lt {W : World} {p gc cc : Nat} {A : Option Addr} {cE : Nat} {ad : Addr} {E : List (Nat × Nat)} {s : OS} (h : WAt W p gc cc A cE ad E s) : p < W.heap.size ∧ gc < W.heap.size := ⟨(Array.getElem?_eq_some_iff.1 h.blk).1, h.clr.lt⟩
theorem WAt.same {W V : World} {p gc cc : Nat} {A : Option Addr} {cE : Nat} {ad : Addr} {E : List (Nat × Nat)} {s : OS} (h : WAt W p gc cc A cE ad E s) (hp : V.heap[p]? = W.heap[p]?) (hc : V.heap[gc]? = W.heap[gc]?) (he : 0 < E.length → V.heap[ad.block]? = W.heap[ad.block]?) : WAt V p gc cc A cE ad E s :=
 ⟨hp.trans h.blk, h.hA, fun i hi => (cell_same (by rw [add_block]; exact he (by omega))).trans (h.e0 i hi), fun i hi => (cell_same (by show V.heap[(ad.add (i * 2)).block]? = W.heap[(ad.add (i * 2)).block]?; rw [add_block]; exact he (by omega))).trans (h.e1 i hi), hc.trans h.clr, h.len, h.n1, h.n2⟩
theorem WAt.adlt {W : World} {p gc cc : Nat} {A : Option Addr} {cE : Nat} {ad : Addr} {E : List (Nat × Nat)} {s : OS} (h : WAt W p gc cc A cE ad E s) (h0 : 0 < E.length) : ad.block < W.heap.size := by
 have := World.block_lt_of_cell? W _ (h.e0 0 h0)
 rwa [add_block] at this
theorem WAt.below {W V : World} {p gc cc : Nat} {A : Option Addr} {cE : Nat} {ad : Addr} {E : List (Nat × Nat)} {s : OS} (h : WAt W p gc cc A cE ad E s) (hb : Below W.heap.size W V) : WAt V p gc cc A cE ad E s :=
 h.same (hb.block p h.lt.1) (hb.block gc h.lt.2) (fun h0 => hb.block _ (h.adlt h0))
theorem WAt.mark {W : World} {p gc cc : Nat} {A : Option Addr} {cE : Nat} {ad : Addr} {E : List (Nat × Nat)} {s : OS} (h : WAt W p gc cc A cE ad E s) (i : Nat) (v : Bool) : WAt (W.setCell ⟨gc, i, none⟩ (.bool v)) p gc cc A cE ad E ⟨s.gd, s.had, s.bk, s.C.set i v⟩ :=
 ⟨(heap_set_other W ⟨gc, i, none⟩ _ p h.n1).trans h.blk, h.hA, fun j hj => (cell_same (by rw [add_block]; exact heap_set_other W ⟨gc, i, none⟩ _ _ (h.n2 (by omega)).2)).trans (h.e0 j hj), fun j hj => (cell_same (by show (W.setCell _ _).heap[(ad.add (j * 2)).block]? = W.heap[(ad.add (j * 2)).block]?; rw [add_block]; exact heap_set_other W ⟨gc, i, none⟩ _ _ (h.n2 (by omega)).2)).trans (h.e1 j hj), h.clr.set i v, by rw [List.length_set]; exact h.len, h.n1, h.n2⟩
theorem WAt.field {W : World} {p gc cc : Nat} {A : Option Addr} {cE : Nat} {ad : Addr} {E : List (Nat × Nat)} {s s2 : OS} {j : Nat} {v : Value} (h : WAt W p gc cc A cE ad E s) (hC : s2.C = s.C)
  (hj : (#[.slice A E.length cE, .slice (some ⟨gc, 0, none⟩) E.length cc, .int .i64 (s.gd : Int), .int .i64 (s.had : Int), .bool s.bk] : Array Value).setIfInBounds j v = #[.slice A E.length cE, .slice (some ⟨gc, 0, none⟩) E.length cc, .int .i64 (s2.gd : Int), .int .i64 (s2.had : Int), .bool s2.bk]) : WAt (W.setCell ⟨p, j, none⟩ v) p gc cc A cE ad E s2 := by
 refine ⟨?_, h.hA, fun i hi => (cell_same (by rw [add_block]; exact heap_set_other W ⟨p, j, none⟩ _ _ (h.n2 (by omega)).1)).trans (h.e0 i hi), fun i hi => (cell_same (by show (W.setCell _ _).heap[(ad.add (i * 2)).block]? = W.heap[(ad.add (i * 2)).block]?; rw [add_block]; exact heap_set_other W ⟨p, j, none⟩ _ _ (h.n2 (by omega)).1)).trans (h.e1 i hi), ?_, by rw [hC]; exact h.len, h.n1, h.n2⟩
 ·rw [← hj]
  have := blk_set h.blk j v
  rw [this]
 ·rw [hC]
  exact (heap_set_other W ⟨p, j, none⟩ _ gc (fun e => h.n1 e.symm)).trans h.clr
theorem two_cells {W : World} {g : Nat} {a : Addr} {r : Option Value} (h : a.block ≠ g) (u v : Value) (hc : W.cell? a = r) : ((W.setCell ⟨g, 0, none⟩ u).setCell ⟨g, 1, none⟩ v).cell? a = r :=
 (cell_same ((heap_set_other _ ⟨g, 1, none⟩ v _ h).trans (heap_set_other _ ⟨g, 0, none⟩ u _ h))).trans hc
def spS (s : OS) : Option Nat → OS
 | none => s
 | some i => ⟨s.gd, s.had, s.bk, s.C.set i false⟩
theorem ends_f (a b : Nat) (ha : a < 7) (hb : b < 7) : sweep_street_ends.f (a : Int) (b : Int) = some ((2 ^ a ||| 2 ^ b : Nat) : Int) := by
 unfold sweep_street_ends.f
 rw [if_pos (by omega), if_pos (by omega), s_one a (by omega), s_one b (by omega), b_or _ _ (Nat.pow_lt_pow_right (by omega) (by omega)) (Nat.pow_lt_pow_right (by omega) (by omega))]
set_option maxHeartbeats 8000000 in
set_option maxRecDepth 100000 in
theorem spread_calls (p gc cc : Nat) (A : Option Addr) (cE : Nat) (ad : Addr) (E : List (Nat × Nat)) (s : OS) (hE : E.length ≤ 896) (hE2 : ∀ i, i < E.length → (E.getD i (0, 0)).1 < 7 ∧ (E.getD i (0, 0)).2 < 7) (hgd : s.gd < 128) (H : Nat) (hHp : H ≤ p) (hHc : H ≤ gc) (R : Option Nat) (hR : spOut E s.gd s.C E.length 0 = R) (w : World) (hH : H ≤ w.heap.size) (hw : WAt w p gc cc A cE ad E s) :
  Calls Tryd.prog 79 #[.pointer (some ⟨p, 0, none⟩)] w fun e w' => e = .returned (.bool R.isSome) ∧ WAt w' p gc cc A cE ad E (spS s R) ∧ Below H w w' := by
 have HW := Aside0.mk hw
 have HR := Aside0.mk hR
 have HE2 := Aside0.mk hE2
 have hp0 : w.cell? ⟨p, 0, none⟩ = some (.slice A E.length cE) := (blk_cell hw.blk 0).trans rfl
 obtain ⟨gd, hgde⟩ : ∃ g, s.gd = g := ⟨_, rfl⟩
 rw [hgde] at hgd
 have HGD := Aside0.mk hgde
 clear hw hR hE2 hgde
 go_enter Tryd.func79, Tryd.ntmps79
 go_wp2
 go_loopg [12] E.length (fun kq v12 w' => ∃ i : Nat, v12 = .int .i64 (i : Int) ∧ i + kq = E.length ∧ Aside0 (spOut E s.gd s.C kq i = R) ∧ Aside0 (Below w.heap.size w w'))
 case atStart => exact ⟨0, rfl, by omega, HR, ⟨Below.refl _ _⟩⟩
 case round =>
  clear HR
  obtain ⟨i, rfl, hi, HS, HB⟩ := hrel
  by_cases hil : i < E.length
  ·have hi1 : ((i : Int) < (E.length : Int)) = True := eq_true (by omega)
   have hi2 : decide ((i : Int) < (E.length : Int)) = true := decide_eq_true (by omega)
   cases gk with
   | zero => omega
   | succ gi =>
   have hs := HS.out
   simp only [spOut] at hs
   have HWr := Aside0.mk (HW.out.below HB.out)
   have hA := HW.out.hA (by omega)
   subst hA
   have hc0 := HWr.out.e0 i hil
   have hc1 := HWr.out.e1 i hil
   obtain ⟨hl4, hl5⟩ := HE2.out i hil
   have HE4 := Aside0.mk (ends_f _ _ hl4 hl5)
   obtain ⟨e4, he4⟩ : ∃ x, endsOf E i = x := ⟨_, rfl⟩
   have HEE4 := Aside0.mk he4
   unfold endsOf at he4
   rw [he4] at HE4
   have he4l : e4 < 128 := by
    rw [← he4]
    exact Nat.or_lt_two_pow (n := 7) (Nat.pow_lt_pow_right (by omega) hl4) (Nat.pow_lt_pow_right (by omega) hl5)
   generalize (E.getD i (0, 0)).1 = a4 at *
   generalize (E.getD i (0, 0)).2 = b4 at *
   obtain ⟨R2, hR2⟩ : ∃ r, spIn E s.gd s.C i E.length 0 = r := ⟨_, rfl⟩
   rw [hR2] at hs
   have HR2 := Aside0.mk hR2
   have HS1 := Aside0.mk hs
   clear HS hs hR2 hl4 hl5 he4
   go_wp2_with (first | ((with_reducible refine gate_dst (N := 4) rfl ?_); refine box_event ?hg (N := 4) ?hd (cs := #[.int .i64 0, .int .i64 0]) (t := 117) ?hr ?_; (case hd => rfl); (case hg => rfl); (case hr => first | (go_simp; done) | (go_simp; rfl)); intro ga hga w7 hbox hb7; have HGA := Aside0.mk (show wr.heap.size ≤ ga by rw [hga]; exact Nat.le_refl _); clear hga; have hz0 : w7.cell? ⟨ga, 0, none⟩ = some (.int .i64 0) := (blk_cell hbox 0).trans rfl; have hz1 : w7.cell? ⟨ga, 1, none⟩ = some (.int .i64 0) := (blk_cell hbox 1).trans rfl; have hf0 := blk_frozen hbox 0; have hf1 := blk_frozen hbox 1; have hp7 : ∀ u v : Value, ((w7.setCell ⟨ga, 0, none⟩ u).setCell ⟨ga, 1, none⟩ v).cell? ⟨p, 0, none⟩ = some (.slice (some ad) E.length cE) := (fun u v => two_cells (by have := HGA.out; have := HWr.out.lt.1; show p ≠ ga; omega) u v ((blk_cell (HWr.out.below hb7).blk 0).trans rfl)); have HBOX := Aside0.mk hbox; have HB7 := Aside0.mk hb7; clear hbox hb7))
   have hc40 : ((w7.setCell ⟨ga, 0, none⟩ (.int .i64 (a4 : Int))).setCell ⟨ga, 1, none⟩ (.int .i64 (b4 : Int))).heap[ga]? = some (.cells #[.int .i64 (a4 : Int), .int .i64 (b4 : Int)] 117 (0, 0)) := blk_set (blk_set HBOX.out 0 _) 1 _
   have HB8 : Aside0 (Below w.heap.size w ((w7.setCell ⟨ga, 0, none⟩ (.int .i64 (a4 : Int))).setCell ⟨ga, 1, none⟩ (.int .i64 (b4 : Int)))) := ⟨below_set (below_set (below_step HB.out HB7.out) (by have := HGA.out; have := HB.out.size; omega)) (by have := HGA.out; have := HB.out.size; omega)⟩
   generalize (w7.setCell ⟨ga, 0, none⟩ (.int .i64 (a4 : Int))).setCell ⟨ga, 1, none⟩ (.int .i64 (b4 : Int)) = w8 at *
   have HC40 := Aside0.mk hc40
   have HGA2 : Aside0 (w.heap.size ≤ ga) := ⟨by have := HGA.out; have := HB.out.size; omega⟩
   clear HBOX HB7 HGA hc0 hc1 hz0 hz1 hf0 hf1 HWr HB hc40 hp7
   have HW8 := Aside0.mk (HW.out.below HB8.out)
   go_loopg [22] E.length (fun kq v22 w' => ∃ k : Nat, v22 = .int .i64 (k : Int) ∧ k + kq = E.length ∧ Aside0 (spIn E s.gd s.C i kq k = R2) ∧ Aside0 (Below w8.heap.size w8 w'))
   case atStart => exact ⟨0, rfl, by omega, HR2, ⟨Below.refl _ _⟩⟩
   case round =>
    clear HR2
    obtain ⟨k, rfl, hk, HS, HB⟩ := hrel
    by_cases hkl : k < E.length
    ·have hk1 : ((k : Int) < (E.length : Int)) = True := eq_true (by omega)
     have hk2 : decide ((k : Int) < (E.length : Int)) = true := decide_eq_true (by omega)
     cases gk with
     | zero => omega
     | succ gk' =>
     have hs := HS.out
     simp only [spIn] at hs
     have HWr := Aside0.mk (HW8.out.below HB.out)
     have hc0 := HWr.out.e0 k hkl
     have hc1 := HWr.out.e1 k hkl
     obtain ⟨hl4, hl5⟩ := HE2.out k hkl
     have HE6 := Aside0.mk (ends_f _ _ hl4 hl5)
     obtain ⟨e6, he6⟩ : ∃ x, endsOf E k = x := ⟨_, rfl⟩
     have HEE6 := Aside0.mk he6
     unfold endsOf at he6
     rw [he6] at HE6
     have he6l : e6 < 128 := by
      rw [← he6]
      exact Nat.or_lt_two_pow (n := 7) (Nat.pow_lt_pow_right (by omega) hl4) (Nat.pow_lt_pow_right (by omega) hl5)
     generalize (E.getD k (0, 0)).1 = a6 at *
     generalize (E.getD k (0, 0)).2 = b6 at *
     have HS2 := Aside0.mk hs
     clear HS hs hl4 hl5 he6
     go_wp2_with (first | ((with_reducible refine gate_dst (N := 6) rfl ?_); refine box_event ?hg (N := 6) ?hd (cs := #[.int .i64 0, .int .i64 0]) (t := 117) ?hr ?_; (case hd => rfl); (case hg => rfl); (case hr => first | (go_simp; done) | (go_simp; rfl)); intro gb hgb w7 hbox hb7; have HGB := Aside0.mk (show wr.heap.size ≤ gb by rw [hgb]; exact Nat.le_refl _); clear hgb; have hz0 : w7.cell? ⟨gb, 0, none⟩ = some (.int .i64 0) := (blk_cell hbox 0).trans rfl; have hz1 : w7.cell? ⟨gb, 1, none⟩ = some (.int .i64 0) := (blk_cell hbox 1).trans rfl; have hf0 := blk_frozen hbox 0; have hf1 := blk_frozen hbox 1; have HBOX := Aside0.mk hbox; have HB7 := Aside0.mk hb7; clear hbox hb7))
     have hc60 : ((w7.setCell ⟨gb, 0, none⟩ (.int .i64 (a6 : Int))).setCell ⟨gb, 1, none⟩ (.int .i64 (b6 : Int))).heap[gb]? = some (.cells #[.int .i64 (a6 : Int), .int .i64 (b6 : Int)] 117 (0, 0)) := blk_set (blk_set HBOX.out 0 _) 1 _
     have HB9 : Aside0 (Below w8.heap.size w8 ((w7.setCell ⟨gb, 0, none⟩ (.int .i64 (a6 : Int))).setCell ⟨gb, 1, none⟩ (.int .i64 (b6 : Int)))) := ⟨below_set (below_set (below_step HB.out HB7.out) (by have := HGB.out; have := HB.out.size; omega)) (by have := HGB.out; have := HB.out.size; omega)⟩
     generalize (w7.setCell ⟨gb, 0, none⟩ (.int .i64 (a6 : Int))).setCell ⟨gb, 1, none⟩ (.int .i64 (b6 : Int)) = w9 at *
     have HW9 := Aside0.mk (HW8.out.below HB9.out)
     have hc41 := blk_below HC40.out HB9.out
     clear HBOX HB7 HGB hc0 hc1 hz0 hz1 hf0 hf1 HWr HB
     have f1 : w9.cell? ⟨p, 1, none⟩ = some (.slice (some ⟨gc, 0, none⟩) E.length cc) := (blk_cell HW9.out.blk 1).trans rfl
     have f2 : w9.cell? ⟨p, 2, none⟩ = some (.int .i64 (s.gd : Int)) := (blk_cell HW9.out.blk 2).trans rfl
     have f3 := HW9.out.clr.cell i (by rw [HW9.out.len]; exact hil)
     have f4 := HW9.out.clr.cell k (by rw [HW9.out.len]; exact hkl)
     have f5 : w9.cell? ⟨ga, 0, none⟩ = some (.int .i64 (a4 : Int)) := (blk_cell hc41 0).trans rfl
     have f6 : w9.cell? ⟨ga, 1, none⟩ = some (.int .i64 (b4 : Int)) := (blk_cell hc41 1).trans rfl
     have f7 : w9.cell? ⟨gb, 0, none⟩ = some (.int .i64 (a6 : Int)) := (blk_cell hc60 0).trans rfl
     have f8 : w9.cell? ⟨gb, 1, none⟩ = some (.int .i64 (b6 : Int)) := (blk_cell hc60 1).trans rfl
     have hs := HS2.out
     unfold comes at hs
     rw [HEE4.out, HEE6.out, HGD.out] at hs
     rw [HGD.out] at f2
     generalize s.C.getD i false = ci at *
     generalize s.C.getD k false = ck at *
     clear hc41 hc60 HS2
     cases ci
     ·have HS3 : Aside0 (spIn E s.gd s.C i gk' (k + 1) = R2) := ⟨by rw [HGD.out]; simpa using hs⟩
      have f1d : w9.drew.cell? ⟨p, 1, none⟩ = _ := f1
      have f3d : w9.drew.cell? ⟨gc, i, none⟩ = _ := f3
      have fbd : Below w8.heap.size w8 w9.drew := below_drew HB9.out
      clear f1 f2 f3 f4 f5 f6 f7 f8 hs
      go_wp2_with (fail)
      refine start_ (n := 30) (S := fun w' => w'.cell? ⟨p, 1, none⟩ = some (.slice (some ⟨gc, 0, none⟩) E.length cc) ∧ w'.cell? ⟨gc, i, none⟩ = some (.bool false) ∧ Below w8.heap.size w8 w') (ds := []) (Qbz 30 0) (by kernel_rfl) rfl rfl ⟨f1d, f3d, fbd⟩ (fun hHeld => ?_)
      refine pure_ (i := 0) (N := some 27) (v := ?_) (a' := ?_) (Qbz 30 1) rfl rfl (by kernel_rfl) (fun _ _ _ h => h) (Or.inl ⟨by rfl, ?_⟩) ?_ ?_
      rotate_left
      ·intro w'
       go_simp
       with_reducible rfl
      rotate_left
      ·simp only [Act.put, Qp1, Qp2, Qp3, i64_w, i32_w]
       rfl
      refine pure_ (i := 1) (N := some 28) (v := ?_) (a' := ?_) (Qbz 30 3) rfl rfl (by kernel_rfl) (fun _ _ _ h => h) (Or.inl ⟨by rfl, ?_⟩) ?_ ?_
      rotate_left
      ·intro w'
       go_simp
       with_reducible rfl
      rotate_left
      ·simp only [Act.put, Qp1, Qp2, Qp3, i64_w, i32_w]
       rfl
      refine pure_ (i := 2) (N := some 29) (v := ?_) (a' := ?_) (Qbz 30 7) rfl rfl (by kernel_rfl) (fun _ _ _ h => h) (Or.inl ⟨by rfl, ?_⟩) ?_ ?_
      rotate_left
      ·intro w'
       go_simp
       with_reducible rfl
      rotate_left
      ·simp only [Act.put, Qp1, Qp2, Qp3, i64_w, i32_w]
       rfl
      refine pure_ (i := 4) (N := some 31) (v := ?_) (a' := ?_) (Qbz 30 23) rfl rfl (by kernel_rfl) (fun _ _ _ h => h) (Or.inl ⟨by rfl, ?_⟩) ?_ ?_
      rotate_left
      ·intro w'
       go_simp
       with_reducible rfl
      rotate_left
      ·simp only [Act.put, Qp1, Qp2, Qp3, i64_w, i32_w]
       rfl
      refine take_ (i := 3) (N := some 30) (v := ?_) (a' := ?_) (Qbz 30 31) rfl rfl (by kernel_rfl) (fun _ _ _ h => h) (Or.inl ⟨by rfl, ?_⟩) hHeld ?_ ?_
      rotate_left
      ·rintro w' ⟨s0, s1, s2⟩
       go_simp
       with_reducible rfl
      rotate_left
      ·simp only [Act.put, Qp1, Qp2, Qp3, i64_w, i32_w]
       rfl
      refine pure_ (i := 5) (N := some 32) (v := ?_) (a' := ?_) (Qbz 30 63) rfl rfl (by kernel_rfl) (fun _ _ _ h => h) (Or.inl ⟨by rfl, ?_⟩) ?_ ?_
      rotate_left
      ·intro w'
       go_simp
       with_reducible rfl
      rotate_left
      ·simp only [Act.put, Qp1, Qp2, Qp3, i64_w, i32_w]
       rfl
      refine take_ (i := 6) (N := some 33) (v := ?_) (a' := ?_) (Qbz 30 127) rfl rfl (by kernel_rfl) (fun _ _ _ h => h) (Or.inl ⟨by rfl, ?_⟩) hHeld ?_ ?_
      rotate_left
      ·rintro w' ⟨s0, s1, s2⟩
       go_simp
       with_reducible rfl
      rotate_left
      ·simp only [Act.put, Qp1, Qp2, Qp3, i64_w, i32_w]
       rfl
      refine pure_ (i := 7) (N := some 34) (v := ?_) (a' := ?_) (Qbz 30 255) rfl rfl (by kernel_rfl) (fun _ _ _ h => h) (Or.inl ⟨by rfl, ?_⟩) ?_ ?_
      rotate_left
      ·intro w'
       go_simp
       with_reducible rfl
      rotate_left
      ·simp only [Act.put, Qp1, Qp2, Qp3, i64_w, i32_w]
       rfl
      refine pure_ (i := 8) (N := some 35) (v := undef) (a' := ?_) (Qbz 30 511) rfl rfl (by kernel_rfl) (fun _ _ _ h => h) (Or.inr ⟨by rfl, rfl⟩) ?_ ?_
      rotate_left
      ·simp only [Act.put, Qp1, Qp2, Qp3, i64_w, i32_w]
       rfl
      refine pure_ (i := 9) (N := some 36) (v := undef) (a' := ?_) (Qbz 30 1023) rfl rfl (by kernel_rfl) (fun _ _ _ h => h) (Or.inr ⟨by rfl, rfl⟩) ?_ ?_
      rotate_left
      ·simp only [Act.put, Qp1, Qp2, Qp3, i64_w, i32_w]
       rfl
      refine pure_ (i := 10) (N := some 37) (v := undef) (a' := ?_) (Qbz 30 2047) rfl rfl (by kernel_rfl) (fun _ _ _ h => h) (Or.inr ⟨by rfl, rfl⟩) ?_ ?_
      rotate_left
      ·simp only [Act.put, Qp1, Qp2, Qp3, i64_w, i32_w]
       rfl
      refine pure_ (i := 11) (N := some 38) (v := undef) (a' := ?_) (Qbz 30 4095) rfl rfl (by kernel_rfl) (fun _ _ _ h => h) (Or.inr ⟨by rfl, rfl⟩) ?_ ?_
      rotate_left
      ·simp only [Act.put, Qp1, Qp2, Qp3, i64_w, i32_w]
       rfl
      refine pure_ (i := 12) (N := some 39) (v := undef) (a' := ?_) (Qbz 30 8191) rfl rfl (by kernel_rfl) (fun _ _ _ h => h) (Or.inr ⟨by rfl, rfl⟩) ?_ ?_
      rotate_left
      ·simp only [Act.put, Qp1, Qp2, Qp3, i64_w, i32_w]
       rfl
      refine pure_ (i := 13) (N := some 40) (v := undef) (a' := ?_) (Qbz 30 16383) rfl rfl (by kernel_rfl) (fun _ _ _ h => h) (Or.inr ⟨by rfl, rfl⟩) ?_ ?_
      rotate_left
      ·simp only [Act.put, Qp1, Qp2, Qp3, i64_w, i32_w]
       rfl
      refine pure_ (i := 14) (N := some 41) (v := undef) (a' := ?_) (Qbz 30 32767) rfl rfl (by kernel_rfl) (fun _ _ _ h => h) (Or.inr ⟨by rfl, rfl⟩) ?_ ?_
      rotate_left
      ·simp only [Act.put, Qp1, Qp2, Qp3, i64_w, i32_w]
       rfl
      refine pure_ (i := 15) (N := some 42) (v := undef) (a' := ?_) (Qbz 30 65535) rfl rfl (by kernel_rfl) (fun _ _ _ h => h) (Or.inr ⟨by rfl, rfl⟩) ?_ ?_
      rotate_left
      ·simp only [Act.put, Qp1, Qp2, Qp3, i64_w, i32_w]
       rfl
      refine pure_ (i := 16) (N := some 43) (v := ?_) (a' := ?_) (Qbz 30 131071) rfl rfl (by kernel_rfl) (fun _ _ _ h => h) (Or.inl ⟨by rfl, ?_⟩) ?_ ?_
      rotate_left
      ·intro w'
       go_simp
       with_reducible rfl
      rotate_left
      ·simp only [Act.put, Qp1, Qp2, Qp3, i64_w, i32_w]
       rfl
      refine pure_ (i := 17) (N := some 44) (v := ?_) (a' := ?_) (Qbz 30 262143) rfl rfl (by kernel_rfl) (fun _ _ _ h => h) (Or.inl ⟨by rfl, ?_⟩) ?_ ?_
      rotate_left
      ·intro w'
       go_simp
       with_reducible rfl
      rotate_left
      ·simp only [Act.put, Qp1, Qp2, Qp3, i64_w, i32_w]
       rfl
      refine pure_ (i := 18) (N := some 45) (v := undef) (a' := ?_) (Qbz 30 524287) rfl rfl (by kernel_rfl) (fun _ _ _ h => h) (Or.inr ⟨by rfl, rfl⟩) ?_ ?_
      rotate_left
      ·simp only [Act.put, Qp1, Qp2, Qp3, i64_w, i32_w]
       rfl
      refine pure_ (i := 19) (N := some 46) (v := undef) (a' := ?_) (Qbz 30 1048575) rfl rfl (by kernel_rfl) (fun _ _ _ h => h) (Or.inr ⟨by rfl, rfl⟩) ?_ ?_
      rotate_left
      ·simp only [Act.put, Qp1, Qp2, Qp3, i64_w, i32_w]
       rfl
      refine pure_ (i := 20) (N := some 47) (v := undef) (a' := ?_) (Qbz 30 2097151) rfl rfl (by kernel_rfl) (fun _ _ _ h => h) (Or.inr ⟨by rfl, rfl⟩) ?_ ?_
      rotate_left
      ·simp only [Act.put, Qp1, Qp2, Qp3, i64_w, i32_w]
       rfl
      refine pure_ (i := 21) (N := some 48) (v := undef) (a' := ?_) (Qbz 30 4194303) rfl rfl (by kernel_rfl) (fun _ _ _ h => h) (Or.inr ⟨by rfl, rfl⟩) ?_ ?_
      rotate_left
      ·simp only [Act.put, Qp1, Qp2, Qp3, i64_w, i32_w]
       rfl
      refine pure_ (i := 22) (N := some 49) (v := undef) (a' := ?_) (Qbz 30 8388607) rfl rfl (by kernel_rfl) (fun _ _ _ h => h) (Or.inr ⟨by rfl, rfl⟩) ?_ ?_
      rotate_left
      ·simp only [Act.put, Qp1, Qp2, Qp3, i64_w, i32_w]
       rfl
      refine pure_ (i := 23) (N := some 50) (v := undef) (a' := ?_) (Qbz 30 16777215) rfl rfl (by kernel_rfl) (fun _ _ _ h => h) (Or.inr ⟨by rfl, rfl⟩) ?_ ?_
      rotate_left
      ·simp only [Act.put, Qp1, Qp2, Qp3, i64_w, i32_w]
       rfl
      refine pure_ (i := 24) (N := some 51) (v := undef) (a' := ?_) (Qbz 30 33554431) rfl rfl (by kernel_rfl) (fun _ _ _ h => h) (Or.inr ⟨by rfl, rfl⟩) ?_ ?_
      rotate_left
      ·simp only [Act.put, Qp1, Qp2, Qp3, i64_w, i32_w]
       rfl
      refine pure_ (i := 25) (N := some 52) (v := undef) (a' := ?_) (Qbz 30 67108863) rfl rfl (by kernel_rfl) (fun _ _ _ h => h) (Or.inr ⟨by rfl, rfl⟩) ?_ ?_
      rotate_left
      ·simp only [Act.put, Qp1, Qp2, Qp3, i64_w, i32_w]
       rfl
      refine pure_ (i := 26) (N := some 53) (v := undef) (a' := ?_) (Qbz 30 134217727) rfl rfl (by kernel_rfl) (fun _ _ _ h => h) (Or.inr ⟨by rfl, rfl⟩) ?_ ?_
      rotate_left
      ·simp only [Act.put, Qp1, Qp2, Qp3, i64_w, i32_w]
       rfl
      refine pure_ (i := 27) (N := some 54) (v := undef) (a' := ?_) (Qbz 30 268435455) rfl rfl (by kernel_rfl) (fun _ _ _ h => h) (Or.inr ⟨by rfl, rfl⟩) ?_ ?_
      rotate_left
      ·simp only [Act.put, Qp1, Qp2, Qp3, i64_w, i32_w]
       rfl
      refine pure_ (i := 28) (N := some 55) (v := undef) (a' := ?_) (Qbz 30 536870911) rfl rfl (by kernel_rfl) (fun _ _ _ h => h) (Or.inr ⟨by rfl, rfl⟩) ?_ ?_
      rotate_left
      ·simp only [Act.put, Qp1, Qp2, Qp3, i64_w, i32_w]
       rfl
      refine pure_ (i := 29) (N := some 56) (v := ?_) (a' := ?_) (Qbz 30 1073741823) rfl rfl (by kernel_rfl) (fun _ _ _ h => h) (Or.inl ⟨by rfl, ?_⟩) ?_ ?_
      rotate_left
      ·intro w'
       go_simp
       with_reducible rfl
      rotate_left
      ·simp only [Act.put, Qp1, Qp2, Qp3, i64_w, i32_w]
       rfl
      refine done_ (by kernel_rfl) ?_
      go_wp2
      go_roundg gk'
      case measure => omega
      case rel => exact ⟨k + 1, by go_num, by omega, HS3, ⟨fbd⟩⟩
     ·cases ck
      ·have CE : ∀ a b e, sweep_street_ends.f a b = some e → ∀ W, (W.cell? ⟨p, 1, none⟩ = some (.slice (some ⟨gc, 0, none⟩) E.length cc) ∧ W.cell? ⟨p, 2, none⟩ = some (.int .i64 (gd : Int)) ∧ W.cell? ⟨gc, i, none⟩ = some (.bool true) ∧ W.cell? ⟨gc, k, none⟩ = some (.bool false) ∧ W.cell? ⟨ga, 0, none⟩ = some (.int .i64 (a4 : Int)) ∧ W.cell? ⟨ga, 1, none⟩ = some (.int .i64 (b4 : Int)) ∧ W.cell? ⟨gb, 0, none⟩ = some (.int .i64 (a6 : Int)) ∧ W.cell? ⟨gb, 1, none⟩ = some (.int .i64 (b6 : Int)) ∧ Below w8.heap.size w8 W) → Calls Tryd.prog 78 #[.agg #[.int .i64 a, .int .i64 b]] W fun e' w' => e' = .returned (.int .i64 e) ∧ w'.cell? ⟨p, 1, none⟩ = some (.slice (some ⟨gc, 0, none⟩) E.length cc) ∧ w'.cell? ⟨p, 2, none⟩ = some (.int .i64 (gd : Int)) ∧ w'.cell? ⟨gc, i, none⟩ = some (.bool true) ∧ w'.cell? ⟨gc, k, none⟩ = some (.bool false) ∧ w'.cell? ⟨ga, 0, none⟩ = some (.int .i64 (a4 : Int)) ∧ w'.cell? ⟨ga, 1, none⟩ = some (.int .i64 (b4 : Int)) ∧ w'.cell? ⟨gb, 0, none⟩ = some (.int .i64 (a6 : Int)) ∧ w'.cell? ⟨gb, 1, none⟩ = some (.int .i64 (b6 : Int)) ∧ Below w8.heap.size w8 w' := fun a b e he W hW => (sweep_street_ends.calls a b e W he).mono fun e' w' ⟨h1, h2⟩ => ⟨h1, (h2.cell (World.block_lt_of_cell? W _ hW.1)).trans hW.1, (h2.cell (World.block_lt_of_cell? W _ hW.2.1)).trans hW.2.1, (h2.cell (World.block_lt_of_cell? W _ hW.2.2.1)).trans hW.2.2.1, (h2.cell (World.block_lt_of_cell? W _ hW.2.2.2.1)).trans hW.2.2.2.1, (h2.cell (World.block_lt_of_cell? W _ hW.2.2.2.2.1)).trans hW.2.2.2.2.1, (h2.cell (World.block_lt_of_cell? W _ hW.2.2.2.2.2.1)).trans hW.2.2.2.2.2.1, (h2.cell (World.block_lt_of_cell? W _ hW.2.2.2.2.2.2.1)).trans hW.2.2.2.2.2.2.1, (h2.cell (World.block_lt_of_cell? W _ hW.2.2.2.2.2.2.2.1)).trans hW.2.2.2.2.2.2.2.1, below_step hW.2.2.2.2.2.2.2.2 h2⟩
       have CE4 := Aside0.mk (CE _ _ _ HE4.out)
       have CE6 := Aside0.mk (CE _ _ _ HE6.out)
       have han := b_and e4 e6 (by omega) (by omega)
       have hal : e4 &&& e6 < 128 := Nat.lt_of_le_of_lt Nat.and_le_left he4l
       obtain ⟨an, hane⟩ : ∃ x, e4 &&& e6 = x := ⟨_, rfl⟩
       rw [hane] at han hal hs
       have hdi := b_andNot an gd (by omega) (by omega)
       obtain ⟨dx, hdx⟩ : ∃ x, diff an gd = x := ⟨_, rfl⟩
       rw [hdx] at hdi hs
       have f1d : w9.drew.cell? ⟨p, 1, none⟩ = _ := f1
       have f2d : w9.drew.cell? ⟨p, 2, none⟩ = _ := f2
       have f3d : w9.drew.cell? ⟨gc, i, none⟩ = _ := f3
       have f4d : w9.drew.cell? ⟨gc, k, none⟩ = _ := f4
       have f5d : w9.drew.cell? ⟨ga, 0, none⟩ = _ := f5
       have f6d : w9.drew.cell? ⟨ga, 1, none⟩ = _ := f6
       have f7d : w9.drew.cell? ⟨gb, 0, none⟩ = _ := f7
       have f8d : w9.drew.cell? ⟨gb, 1, none⟩ = _ := f8
       have fbd : Below w8.heap.size w8 w9.drew := below_drew HB9.out
       clear f1 f2 f3 f4 f5 f6 f7 f8 CE hane hdx he4l he6l hal
       have t2 : ((dx : Int) == 0) = (dx == 0) := by
        by_cases h : dx = 0
        ·simp [h]
        ·have e1 : ((dx : Int) == 0) = false := by simp; omega
         have e2 : (dx == 0) = false := by simp; omega
         rw [e1, e2]
       have t3 : ((dx : Int) != 0) = !(dx == 0) := by rw [← t2]; rfl
       generalize (dx == 0) = bz at *
       have HSZ := Aside0.mk hs
       clear hs
       go_wp2_with (fail)
       refine start_ (n := 30) (S := fun w' => w'.cell? ⟨p, 1, none⟩ = some (.slice (some ⟨gc, 0, none⟩) E.length cc) ∧ w'.cell? ⟨p, 2, none⟩ = some (.int .i64 (gd : Int)) ∧ w'.cell? ⟨gc, i, none⟩ = some (.bool true) ∧ w'.cell? ⟨gc, k, none⟩ = some (.bool false) ∧ w'.cell? ⟨ga, 0, none⟩ = some (.int .i64 (a4 : Int)) ∧ w'.cell? ⟨ga, 1, none⟩ = some (.int .i64 (b4 : Int)) ∧ w'.cell? ⟨gb, 0, none⟩ = some (.int .i64 (a6 : Int)) ∧ w'.cell? ⟨gb, 1, none⟩ = some (.int .i64 (b6 : Int)) ∧ Below w8.heap.size w8 w') (ds := []) (Qbz 30 0) (by kernel_rfl) rfl rfl ⟨f1d, f2d, f3d, f4d, f5d, f6d, f7d, f8d, fbd⟩ (fun hHeld => ?_)
       refine pure_ (i := 0) (N := some 27) (v := ?_) (a' := ?_) (Qbz 30 1) rfl rfl (by kernel_rfl) (fun _ _ _ h => h) (Or.inl ⟨by rfl, ?_⟩) ?_ ?_
       rotate_left
       ·intro w'
        go_simp
        with_reducible rfl
       rotate_left
       ·simp only [Act.put, Qp1, Qp2, Qp3, i64_w, i32_w]
        rfl
       refine pure_ (i := 1) (N := some 28) (v := ?_) (a' := ?_) (Qbz 30 3) rfl rfl (by kernel_rfl) (fun _ _ _ h => h) (Or.inl ⟨by rfl, ?_⟩) ?_ ?_
       rotate_left
       ·intro w'
        go_simp
        with_reducible rfl
       rotate_left
       ·simp only [Act.put, Qp1, Qp2, Qp3, i64_w, i32_w]
        rfl
       refine pure_ (i := 2) (N := some 29) (v := ?_) (a' := ?_) (Qbz 30 7) rfl rfl (by kernel_rfl) (fun _ _ _ h => h) (Or.inl ⟨by rfl, ?_⟩) ?_ ?_
       rotate_left
       ·intro w'
        go_simp
        with_reducible rfl
       rotate_left
       ·simp only [Act.put, Qp1, Qp2, Qp3, i64_w, i32_w]
        rfl
       refine pure_ (i := 4) (N := some 31) (v := ?_) (a' := ?_) (Qbz 30 23) rfl rfl (by kernel_rfl) (fun _ _ _ h => h) (Or.inl ⟨by rfl, ?_⟩) ?_ ?_
       rotate_left
       ·intro w'
        go_simp
        with_reducible rfl
       rotate_left
       ·simp only [Act.put, Qp1, Qp2, Qp3, i64_w, i32_w]
        rfl
       refine take_ (i := 3) (N := some 30) (v := ?_) (a' := ?_) (Qbz 30 31) rfl rfl (by kernel_rfl) (fun _ _ _ h => h) (Or.inl ⟨by rfl, ?_⟩) hHeld ?_ ?_
       rotate_left
       ·rintro w' ⟨s0, s1, s2, s3, s4, s5, s6, s7, s8⟩
        go_simp
        with_reducible rfl
       rotate_left
       ·simp only [Act.put, Qp1, Qp2, Qp3, i64_w, i32_w]
        rfl
       refine pure_ (i := 5) (N := some 32) (v := ?_) (a' := ?_) (Qbz 30 63) rfl rfl (by kernel_rfl) (fun _ _ _ h => h) (Or.inl ⟨by rfl, ?_⟩) ?_ ?_
       rotate_left
       ·intro w'
        go_simp
        with_reducible rfl
       rotate_left
       ·simp only [Act.put, Qp1, Qp2, Qp3, i64_w, i32_w]
        rfl
       refine take_ (i := 6) (N := some 33) (v := ?_) (a' := ?_) (Qbz 30 127) rfl rfl (by kernel_rfl) (fun _ _ _ h => h) (Or.inl ⟨by rfl, ?_⟩) hHeld ?_ ?_
       rotate_left
       ·rintro w' ⟨s0, s1, s2, s3, s4, s5, s6, s7, s8⟩
        go_simp
        with_reducible rfl
       rotate_left
       ·simp only [Act.put, Qp1, Qp2, Qp3, i64_w, i32_w]
        rfl
       refine pure_ (i := 7) (N := some 34) (v := ?_) (a' := ?_) (Qbz 30 255) rfl rfl (by kernel_rfl) (fun _ _ _ h => h) (Or.inl ⟨by rfl, ?_⟩) ?_ ?_
       rotate_left
       ·intro w'
        go_simp
        with_reducible rfl
       rotate_left
       ·simp only [Act.put, Qp1, Qp2, Qp3, i64_w, i32_w]
        rfl
       refine pure_ (i := 8) (N := some 35) (v := ?_) (a' := ?_) (Qbz 30 511) rfl rfl (by kernel_rfl) (fun _ _ _ h => h) (Or.inl ⟨by rfl, ?_⟩) ?_ ?_
       rotate_left
       ·intro w'
        go_simp
        with_reducible rfl
       rotate_left
       ·simp only [Act.put, Qp1, Qp2, Qp3, i64_w, i32_w]
        rfl
       refine pure_ (i := 9) (N := some 36) (v := ?_) (a' := ?_) (Qbz 30 1023) rfl rfl (by kernel_rfl) (fun _ _ _ h => h) (Or.inl ⟨by rfl, ?_⟩) ?_ ?_
       rotate_left
       ·intro w'
        go_simp
        with_reducible rfl
       rotate_left
       ·simp only [Act.put, Qp1, Qp2, Qp3, i64_w, i32_w]
        rfl
       refine pure_ (i := 10) (N := some 37) (v := ?_) (a' := ?_) (Qbz 30 2047) rfl rfl (by kernel_rfl) (fun _ _ _ h => h) (Or.inl ⟨by rfl, ?_⟩) ?_ ?_
       rotate_left
       ·intro w'
        go_simp
        with_reducible rfl
       rotate_left
       ·simp only [Act.put, Qp1, Qp2, Qp3, i64_w, i32_w]
        rfl
       refine pure_ (i := 12) (N := some 39) (v := ?_) (a' := ?_) (Qbz 30 6143) rfl rfl (by kernel_rfl) (fun _ _ _ h => h) (Or.inl ⟨by rfl, ?_⟩) ?_ ?_
       rotate_left
       ·intro w'
        go_simp
        with_reducible rfl
       rotate_left
       ·simp only [Act.put, Qp1, Qp2, Qp3, i64_w, i32_w]
        rfl
       refine take_ (i := 11) (N := some 38) (v := ?_) (a' := ?_) (Qbz 30 8191) rfl rfl (by kernel_rfl) (fun _ _ _ h => h) (Or.inl ⟨by rfl, ?_⟩) hHeld ?_ ?_
       rotate_left
       ·rintro w' ⟨s0, s1, s2, s3, s4, s5, s6, s7, s8⟩
        go_simp
        with_reducible rfl
       rotate_left
       ·simp only [Act.put, Qp1, Qp2, Qp3, i64_w, i32_w]
        rfl
       refine pure_ (i := 13) (N := some 40) (v := ?_) (a' := ?_) (Qbz 30 16383) rfl rfl (by kernel_rfl) (fun _ _ _ h => h) (Or.inl ⟨by rfl, ?_⟩) ?_ ?_
       rotate_left
       ·intro w'
        go_simp
        with_reducible rfl
       rotate_left
       ·simp only [Act.put, Qp1, Qp2, Qp3, i64_w, i32_w]
        rfl
       refine take_ (i := 14) (N := some 41) (v := ?_) (a' := ?_) (Qbz 30 32767) rfl rfl (by kernel_rfl) (fun _ _ _ h => h) (Or.inl ⟨by rfl, ?_⟩) hHeld ?_ ?_
       rotate_left
       ·rintro w' ⟨s0, s1, s2, s3, s4, s5, s6, s7, s8⟩
        go_simp
        with_reducible rfl
       rotate_left
       ·simp only [Act.put, Qp1, Qp2, Qp3, i64_w, i32_w]
        rfl
       refine pure_ (i := 15) (N := some 42) (v := ?_) (a' := ?_) (Qbz 30 65535) rfl rfl (by kernel_rfl) (fun _ _ _ h => h) (Or.inl ⟨by rfl, ?_⟩) ?_ ?_
       rotate_left
       ·intro w'
        go_simp
        with_reducible rfl
       rotate_left
       ·simp only [Act.put, Qp1, Qp2, Qp3, i64_w, i32_w]
        rfl
       refine pure_ (i := 16) (N := some 43) (v := ?_) (a' := ?_) (Qbz 30 131071) rfl rfl (by kernel_rfl) (fun _ _ _ h => h) (Or.inl ⟨by rfl, ?_⟩) ?_ ?_
       rotate_left
       ·intro w'
        go_simp
        with_reducible rfl
       rotate_left
       ·simp only [Act.put, Qp1, Qp2, Qp3, i64_w, i32_w]
        rfl
       refine pure_ (i := 17) (N := some 44) (v := ?_) (a' := ?_) (Qbz 30 262143) rfl rfl (by kernel_rfl) (fun _ _ _ h => h) (Or.inl ⟨by rfl, ?_⟩) ?_ ?_
       rotate_left
       ·intro w'
        go_simp
        with_reducible rfl
       rotate_left
       ·simp only [Act.put, Qp1, Qp2, Qp3, i64_w, i32_w]
        rfl
       refine pure_ (i := 23) (N := some 50) (v := ?_) (a' := ?_) (Qbz 30 8650751) rfl rfl (by kernel_rfl) (fun _ _ _ h => h) (Or.inl ⟨by rfl, ?_⟩) ?_ ?_
       rotate_left
       ·intro w'
        go_simp
        with_reducible rfl
       rotate_left
       ·simp only [Act.put, Qp1, Qp2, Qp3, i64_w, i32_w]
        rfl
       refine pure_ (i := 24) (N := some 51) (v := ?_) (a' := ?_) (Qbz 30 25427967) rfl rfl (by kernel_rfl) (fun _ _ _ h => h) (Or.inl ⟨by rfl, ?_⟩) ?_ ?_
       rotate_left
       ·intro w'
        go_simp
        with_reducible rfl
       rotate_left
       ·simp only [Act.put, Qp1, Qp2, Qp3, i64_w, i32_w]
        rfl
       refine pure_ (i := 25) (N := some 52) (v := ?_) (a' := ?_) (Qbz 30 58982399) rfl rfl (by kernel_rfl) (fun _ _ _ h => h) (Or.inl ⟨by rfl, ?_⟩) ?_ ?_
       rotate_left
       ·intro w'
        go_simp
        with_reducible rfl
       rotate_left
       ·simp only [Act.put, Qp1, Qp2, Qp3, i64_w, i32_w]
        rfl
       refine take_ (i := 18) (N := some 45) (v := ?_) (a' := ?_) (Qbz 30 59244543) rfl rfl (by kernel_rfl) (fun _ _ _ h => h) (Or.inl ⟨by rfl, ?_⟩) hHeld ?_ ?_
       rotate_left
       ·rintro w' ⟨s0, s1, s2, s3, s4, s5, s6, s7, s8⟩
        go_simp
        with_reducible rfl
       rotate_left
       ·simp only [Act.put, Qp1, Qp2, Qp3, i64_w, i32_w]
        rfl
       refine take_ (i := 20) (N := some 47) (v := ?_) (a' := ?_) (Qbz 30 60293119) rfl rfl (by kernel_rfl) (fun _ _ _ h => h) (Or.inl ⟨by rfl, ?_⟩) hHeld ?_ ?_
       rotate_left
       ·rintro w' ⟨s0, s1, s2, s3, s4, s5, s6, s7, s8⟩
        go_simp
        with_reducible rfl
       rotate_left
       ·simp only [Act.put, Qp1, Qp2, Qp3, i64_w, i32_w]
        rfl
       refine take_ (i := 26) (N := some 53) (v := ?_) (a' := ?_) (Qbz 30 127401983) rfl rfl (by kernel_rfl) (fun _ _ _ h => h) (Or.inl ⟨by rfl, ?_⟩) hHeld ?_ ?_
       rotate_left
       ·rintro w' ⟨s0, s1, s2, s3, s4, s5, s6, s7, s8⟩
        go_simp
        with_reducible rfl
       rotate_left
       ·simp only [Act.put, Qp1, Qp2, Qp3, i64_w, i32_w]
        rfl
       refine one_ (i := 19) (N := some 46) (Qbz 30 127926271) rfl rfl (by kernel_rfl) (by decide) (fun K hK => ?_)
       refine goes_ Tryd.func78 (by kernel_rfl) rfl #[.agg #[.int .i64 (a4 : Int), .int .i64 (b4 : Int)]] (by rfl) rfl rfl (by simp only [List.map_toArray, List.map_cons, List.map_nil]; rfl) ?_
       with_reducible refine (CE4.out _ hHeld).mono ?_
       rintro e w3 ⟨rfl, g1, g2, g3, g4, g5, g6, g7, g8, gB⟩
       refine ⟨_, rfl, ?_⟩
       refine hK.out _ _ ⟨g1, g2, g3, g4, g5, g6, g7, g8, gB⟩ (fun hHeld => ?_)
       clear hK K
       refine norm_ (a' := ?_) ?_ ?_
       rotate_left
       ·show Act.put _ (some 46) _ = _
        simp only [Act.put, Qp1, Qp2, Qp3, i64_w, i32_w]
        rfl
       refine one_ (i := 21) (N := some 48) (Qbz 30 130023423) rfl rfl (by kernel_rfl) (by decide) (fun K hK => ?_)
       refine goes_ Tryd.func78 (by kernel_rfl) rfl #[.agg #[.int .i64 (a6 : Int), .int .i64 (b6 : Int)]] (by rfl) rfl rfl (by simp only [List.map_toArray, List.map_cons, List.map_nil]; rfl) ?_
       with_reducible refine (CE6.out _ hHeld).mono ?_
       rintro e w3 ⟨rfl, g1, g2, g3, g4, g5, g6, g7, g8, gB⟩
       refine ⟨_, rfl, ?_⟩
       refine hK.out _ _ ⟨g1, g2, g3, g4, g5, g6, g7, g8, gB⟩ (fun hHeld => ?_)
       clear hK K
       refine norm_ (a' := ?_) ?_ ?_
       rotate_left
       ·show Act.put _ (some 48) _ = _
        simp only [Act.put, Qp1, Qp2, Qp3, i64_w, i32_w]
        rfl
       refine pure_ (i := 22) (N := some 49) (v := ?_) (a' := ?_) (Qbz 30 134217727) rfl rfl (by kernel_rfl) (fun _ _ _ h => h) (Or.inl ⟨by rfl, ?_⟩) ?_ ?_
       rotate_left
       ·intro w'
        go_simp
        with_reducible rfl
       rotate_left
       ·simp only [Act.put, Qp1, Qp2, Qp3, i64_w, i32_w]
        rfl
       refine pure_ (i := 27) (N := some 54) (v := ?_) (a' := ?_) (Qbz 30 268435455) rfl rfl (by kernel_rfl) (fun _ _ _ h => h) (Or.inl ⟨by rfl, ?_⟩) ?_ ?_
       rotate_left
       ·intro w'
        go_simp
        with_reducible rfl
       rotate_left
       ·simp only [Act.put, Qp1, Qp2, Qp3, i64_w, i32_w]
        rfl
       refine pure_ (i := 28) (N := some 55) (v := ?_) (a' := ?_) (Qbz 30 536870911) rfl rfl (by kernel_rfl) (fun _ _ _ h => h) (Or.inl ⟨by rfl, ?_⟩) ?_ ?_
       rotate_left
       ·intro w'
        go_simp
        with_reducible rfl
       rotate_left
       ·simp only [Act.put, Qp1, Qp2, Qp3, i64_w, i32_w]
        rfl
       refine pure_ (i := 29) (N := some 56) (v := ?_) (a' := ?_) (Qbz 30 1073741823) rfl rfl (by kernel_rfl) (fun _ _ _ h => h) (Or.inl ⟨by rfl, ?_⟩) ?_ ?_
       rotate_left
       ·intro w'
        go_simp
        with_reducible rfl
       rotate_left
       ·simp only [Act.put, Qp1, Qp2, Qp3, i64_w, i32_w]
        rfl
       refine done_ (by kernel_rfl) ?_
       have hs := HSZ.out
       cases bz
       ·have HS3 : Aside0 (R = some i) := ⟨by
         have : R2 = true := by rw [← hs]; simp
         have h2 := HS1.out
         rw [if_pos this] at h2
         exact h2.symm⟩
        clear hs
        have hfz := (HW8.out.below gB).clr.frozen i
        go_wp2
        go_ret
        rw [HS3.out]
        exact ⟨rfl, (HW8.out.below gB).mark i false, ((below_then HB8.out HB8.out.size gB).mono hH).setCell hHc _⟩
       ·have HS3 : Aside0 (spIn E s.gd s.C i gk' (k + 1) = R2) := ⟨by rw [HGD.out]; simpa using hs⟩
        clear hs
        go_wp2
        go_roundg gk'
        case measure => omega
        case rel => exact ⟨k + 1, by go_num, by omega, HS3, ⟨gB⟩⟩
      ·have HS3 : Aside0 (spIn E s.gd s.C i gk' (k + 1) = R2) := ⟨by rw [HGD.out]; simpa using hs⟩
       have f1d : w9.drew.cell? ⟨p, 1, none⟩ = _ := f1
       have f3d : w9.drew.cell? ⟨gc, i, none⟩ = _ := f3
       have f4d : w9.drew.cell? ⟨gc, k, none⟩ = _ := f4
       have fbd : Below w8.heap.size w8 w9.drew := below_drew HB9.out
       clear f1 f2 f3 f4 f5 f6 f7 f8 hs
       go_wp2_with (fail)
       refine start_ (n := 30) (S := fun w' => w'.cell? ⟨p, 1, none⟩ = some (.slice (some ⟨gc, 0, none⟩) E.length cc) ∧ w'.cell? ⟨gc, i, none⟩ = some (.bool true) ∧ w'.cell? ⟨gc, k, none⟩ = some (.bool true) ∧ Below w8.heap.size w8 w') (ds := []) (Qbz 30 0) (by kernel_rfl) rfl rfl ⟨f1d, f3d, f4d, fbd⟩ (fun hHeld => ?_)
       refine pure_ (i := 0) (N := some 27) (v := ?_) (a' := ?_) (Qbz 30 1) rfl rfl (by kernel_rfl) (fun _ _ _ h => h) (Or.inl ⟨by rfl, ?_⟩) ?_ ?_
       rotate_left
       ·intro w'
        go_simp
        with_reducible rfl
       rotate_left
       ·simp only [Act.put, Qp1, Qp2, Qp3, i64_w, i32_w]
        rfl
       refine pure_ (i := 1) (N := some 28) (v := ?_) (a' := ?_) (Qbz 30 3) rfl rfl (by kernel_rfl) (fun _ _ _ h => h) (Or.inl ⟨by rfl, ?_⟩) ?_ ?_
       rotate_left
       ·intro w'
        go_simp
        with_reducible rfl
       rotate_left
       ·simp only [Act.put, Qp1, Qp2, Qp3, i64_w, i32_w]
        rfl
       refine pure_ (i := 2) (N := some 29) (v := ?_) (a' := ?_) (Qbz 30 7) rfl rfl (by kernel_rfl) (fun _ _ _ h => h) (Or.inl ⟨by rfl, ?_⟩) ?_ ?_
       rotate_left
       ·intro w'
        go_simp
        with_reducible rfl
       rotate_left
       ·simp only [Act.put, Qp1, Qp2, Qp3, i64_w, i32_w]
        rfl
       refine pure_ (i := 4) (N := some 31) (v := ?_) (a' := ?_) (Qbz 30 23) rfl rfl (by kernel_rfl) (fun _ _ _ h => h) (Or.inl ⟨by rfl, ?_⟩) ?_ ?_
       rotate_left
       ·intro w'
        go_simp
        with_reducible rfl
       rotate_left
       ·simp only [Act.put, Qp1, Qp2, Qp3, i64_w, i32_w]
        rfl
       refine take_ (i := 3) (N := some 30) (v := ?_) (a' := ?_) (Qbz 30 31) rfl rfl (by kernel_rfl) (fun _ _ _ h => h) (Or.inl ⟨by rfl, ?_⟩) hHeld ?_ ?_
       rotate_left
       ·rintro w' ⟨s0, s1, s2, s3⟩
        go_simp
        with_reducible rfl
       rotate_left
       ·simp only [Act.put, Qp1, Qp2, Qp3, i64_w, i32_w]
        rfl
       refine pure_ (i := 5) (N := some 32) (v := ?_) (a' := ?_) (Qbz 30 63) rfl rfl (by kernel_rfl) (fun _ _ _ h => h) (Or.inl ⟨by rfl, ?_⟩) ?_ ?_
       rotate_left
       ·intro w'
        go_simp
        with_reducible rfl
       rotate_left
       ·simp only [Act.put, Qp1, Qp2, Qp3, i64_w, i32_w]
        rfl
       refine take_ (i := 6) (N := some 33) (v := ?_) (a' := ?_) (Qbz 30 127) rfl rfl (by kernel_rfl) (fun _ _ _ h => h) (Or.inl ⟨by rfl, ?_⟩) hHeld ?_ ?_
       rotate_left
       ·rintro w' ⟨s0, s1, s2, s3⟩
        go_simp
        with_reducible rfl
       rotate_left
       ·simp only [Act.put, Qp1, Qp2, Qp3, i64_w, i32_w]
        rfl
       refine pure_ (i := 7) (N := some 34) (v := ?_) (a' := ?_) (Qbz 30 255) rfl rfl (by kernel_rfl) (fun _ _ _ h => h) (Or.inl ⟨by rfl, ?_⟩) ?_ ?_
       rotate_left
       ·intro w'
        go_simp
        with_reducible rfl
       rotate_left
       ·simp only [Act.put, Qp1, Qp2, Qp3, i64_w, i32_w]
        rfl
       refine pure_ (i := 8) (N := some 35) (v := ?_) (a' := ?_) (Qbz 30 511) rfl rfl (by kernel_rfl) (fun _ _ _ h => h) (Or.inl ⟨by rfl, ?_⟩) ?_ ?_
       rotate_left
       ·intro w'
        go_simp
        with_reducible rfl
       rotate_left
       ·simp only [Act.put, Qp1, Qp2, Qp3, i64_w, i32_w]
        rfl
       refine pure_ (i := 9) (N := some 36) (v := ?_) (a' := ?_) (Qbz 30 1023) rfl rfl (by kernel_rfl) (fun _ _ _ h => h) (Or.inl ⟨by rfl, ?_⟩) ?_ ?_
       rotate_left
       ·intro w'
        go_simp
        with_reducible rfl
       rotate_left
       ·simp only [Act.put, Qp1, Qp2, Qp3, i64_w, i32_w]
        rfl
       refine pure_ (i := 10) (N := some 37) (v := ?_) (a' := ?_) (Qbz 30 2047) rfl rfl (by kernel_rfl) (fun _ _ _ h => h) (Or.inl ⟨by rfl, ?_⟩) ?_ ?_
       rotate_left
       ·intro w'
        go_simp
        with_reducible rfl
       rotate_left
       ·simp only [Act.put, Qp1, Qp2, Qp3, i64_w, i32_w]
        rfl
       refine pure_ (i := 12) (N := some 39) (v := ?_) (a' := ?_) (Qbz 30 6143) rfl rfl (by kernel_rfl) (fun _ _ _ h => h) (Or.inl ⟨by rfl, ?_⟩) ?_ ?_
       rotate_left
       ·intro w'
        go_simp
        with_reducible rfl
       rotate_left
       ·simp only [Act.put, Qp1, Qp2, Qp3, i64_w, i32_w]
        rfl
       refine take_ (i := 11) (N := some 38) (v := ?_) (a' := ?_) (Qbz 30 8191) rfl rfl (by kernel_rfl) (fun _ _ _ h => h) (Or.inl ⟨by rfl, ?_⟩) hHeld ?_ ?_
       rotate_left
       ·rintro w' ⟨s0, s1, s2, s3⟩
        go_simp
        with_reducible rfl
       rotate_left
       ·simp only [Act.put, Qp1, Qp2, Qp3, i64_w, i32_w]
        rfl
       refine pure_ (i := 13) (N := some 40) (v := ?_) (a' := ?_) (Qbz 30 16383) rfl rfl (by kernel_rfl) (fun _ _ _ h => h) (Or.inl ⟨by rfl, ?_⟩) ?_ ?_
       rotate_left
       ·intro w'
        go_simp
        with_reducible rfl
       rotate_left
       ·simp only [Act.put, Qp1, Qp2, Qp3, i64_w, i32_w]
        rfl
       refine take_ (i := 14) (N := some 41) (v := ?_) (a' := ?_) (Qbz 30 32767) rfl rfl (by kernel_rfl) (fun _ _ _ h => h) (Or.inl ⟨by rfl, ?_⟩) hHeld ?_ ?_
       rotate_left
       ·rintro w' ⟨s0, s1, s2, s3⟩
        go_simp
        with_reducible rfl
       rotate_left
       ·simp only [Act.put, Qp1, Qp2, Qp3, i64_w, i32_w]
        rfl
       refine pure_ (i := 15) (N := some 42) (v := ?_) (a' := ?_) (Qbz 30 65535) rfl rfl (by kernel_rfl) (fun _ _ _ h => h) (Or.inl ⟨by rfl, ?_⟩) ?_ ?_
       rotate_left
       ·intro w'
        go_simp
        with_reducible rfl
       rotate_left
       ·simp only [Act.put, Qp1, Qp2, Qp3, i64_w, i32_w]
        rfl
       refine pure_ (i := 16) (N := some 43) (v := ?_) (a' := ?_) (Qbz 30 131071) rfl rfl (by kernel_rfl) (fun _ _ _ h => h) (Or.inl ⟨by rfl, ?_⟩) ?_ ?_
       rotate_left
       ·intro w'
        go_simp
        with_reducible rfl
       rotate_left
       ·simp only [Act.put, Qp1, Qp2, Qp3, i64_w, i32_w]
        rfl
       refine pure_ (i := 17) (N := some 44) (v := ?_) (a' := ?_) (Qbz 30 262143) rfl rfl (by kernel_rfl) (fun _ _ _ h => h) (Or.inl ⟨by rfl, ?_⟩) ?_ ?_
       rotate_left
       ·intro w'
        go_simp
        with_reducible rfl
       rotate_left
       ·simp only [Act.put, Qp1, Qp2, Qp3, i64_w, i32_w]
        rfl
       refine pure_ (i := 18) (N := some 45) (v := undef) (a' := ?_) (Qbz 30 524287) rfl rfl (by kernel_rfl) (fun _ _ _ h => h) (Or.inr ⟨by rfl, rfl⟩) ?_ ?_
       rotate_left
       ·simp only [Act.put, Qp1, Qp2, Qp3, i64_w, i32_w]
        rfl
       refine pure_ (i := 19) (N := some 46) (v := undef) (a' := ?_) (Qbz 30 1048575) rfl rfl (by kernel_rfl) (fun _ _ _ h => h) (Or.inr ⟨by rfl, rfl⟩) ?_ ?_
       rotate_left
       ·simp only [Act.put, Qp1, Qp2, Qp3, i64_w, i32_w]
        rfl
       refine pure_ (i := 20) (N := some 47) (v := undef) (a' := ?_) (Qbz 30 2097151) rfl rfl (by kernel_rfl) (fun _ _ _ h => h) (Or.inr ⟨by rfl, rfl⟩) ?_ ?_
       rotate_left
       ·simp only [Act.put, Qp1, Qp2, Qp3, i64_w, i32_w]
        rfl
       refine pure_ (i := 21) (N := some 48) (v := undef) (a' := ?_) (Qbz 30 4194303) rfl rfl (by kernel_rfl) (fun _ _ _ h => h) (Or.inr ⟨by rfl, rfl⟩) ?_ ?_
       rotate_left
       ·simp only [Act.put, Qp1, Qp2, Qp3, i64_w, i32_w]
        rfl
       refine pure_ (i := 22) (N := some 49) (v := undef) (a' := ?_) (Qbz 30 8388607) rfl rfl (by kernel_rfl) (fun _ _ _ h => h) (Or.inr ⟨by rfl, rfl⟩) ?_ ?_
       rotate_left
       ·simp only [Act.put, Qp1, Qp2, Qp3, i64_w, i32_w]
        rfl
       refine pure_ (i := 23) (N := some 50) (v := undef) (a' := ?_) (Qbz 30 16777215) rfl rfl (by kernel_rfl) (fun _ _ _ h => h) (Or.inr ⟨by rfl, rfl⟩) ?_ ?_
       rotate_left
       ·simp only [Act.put, Qp1, Qp2, Qp3, i64_w, i32_w]
        rfl
       refine pure_ (i := 24) (N := some 51) (v := undef) (a' := ?_) (Qbz 30 33554431) rfl rfl (by kernel_rfl) (fun _ _ _ h => h) (Or.inr ⟨by rfl, rfl⟩) ?_ ?_
       rotate_left
       ·simp only [Act.put, Qp1, Qp2, Qp3, i64_w, i32_w]
        rfl
       refine pure_ (i := 25) (N := some 52) (v := undef) (a' := ?_) (Qbz 30 67108863) rfl rfl (by kernel_rfl) (fun _ _ _ h => h) (Or.inr ⟨by rfl, rfl⟩) ?_ ?_
       rotate_left
       ·simp only [Act.put, Qp1, Qp2, Qp3, i64_w, i32_w]
        rfl
       refine pure_ (i := 26) (N := some 53) (v := undef) (a' := ?_) (Qbz 30 134217727) rfl rfl (by kernel_rfl) (fun _ _ _ h => h) (Or.inr ⟨by rfl, rfl⟩) ?_ ?_
       rotate_left
       ·simp only [Act.put, Qp1, Qp2, Qp3, i64_w, i32_w]
        rfl
       refine pure_ (i := 27) (N := some 54) (v := undef) (a' := ?_) (Qbz 30 268435455) rfl rfl (by kernel_rfl) (fun _ _ _ h => h) (Or.inr ⟨by rfl, rfl⟩) ?_ ?_
       rotate_left
       ·simp only [Act.put, Qp1, Qp2, Qp3, i64_w, i32_w]
        rfl
       refine pure_ (i := 28) (N := some 55) (v := undef) (a' := ?_) (Qbz 30 536870911) rfl rfl (by kernel_rfl) (fun _ _ _ h => h) (Or.inr ⟨by rfl, rfl⟩) ?_ ?_
       rotate_left
       ·simp only [Act.put, Qp1, Qp2, Qp3, i64_w, i32_w]
        rfl
       refine pure_ (i := 29) (N := some 56) (v := ?_) (a' := ?_) (Qbz 30 1073741823) rfl rfl (by kernel_rfl) (fun _ _ _ h => h) (Or.inl ⟨by rfl, ?_⟩) ?_ ?_
       rotate_left
       ·intro w'
        go_simp
        with_reducible rfl
       rotate_left
       ·simp only [Act.put, Qp1, Qp2, Qp3, i64_w, i32_w]
        rfl
       refine done_ (by kernel_rfl) ?_
       go_wp2
       go_roundg gk'
       case measure => omega
       case rel => exact ⟨k + 1, by go_num, by omega, HS3, ⟨fbd⟩⟩
    ·have hk1 : ((k : Int) < (E.length : Int)) = False := eq_false (by omega)
     have hk2 : decide ((k : Int) < (E.length : Int)) = false := decide_eq_false (by omega)
     obtain rfl : gk = 0 := by omega
     have hs := HS.out
     simp only [spIn] at hs
     subst hs
     clear HS
     have HS3 : Aside0 (spOut E s.gd s.C gi (i + 1) = R) := ⟨by simpa using HS1.out⟩
     have HB10 : Aside0 (Below w.heap.size w wr) := ⟨below_then HB8.out HB8.out.size HB.out⟩
     go_wp2
     go_roundg gi
     case measure => omega
     case rel => exact ⟨i + 1, by go_num, by omega, HS3, HB10⟩
  ·have hi1 : ((i : Int) < (E.length : Int)) = False := eq_false (by omega)
   have hi2 : decide ((i : Int) < (E.length : Int)) = false := decide_eq_false (by omega)
   obtain rfl : gk = 0 := by omega
   have hs := HS.out
   simp only [spOut] at hs
   subst hs
   clear HS
   go_wp2
   go_ret
   exact ⟨rfl, HW.out.below HB.out, HB.out.mono hH⟩
end Go.Proofs.YtijfddobandcdaaDoor.X
end
section
/- (watch).do, by hand. -/
namespace Go.Proofs.YtijfddobandcdaaDoor.X
open Go.RowKit YtijfddobandcdaaDoorW.PrintWords YtijfddobandcdaaDoorW.PrintLast YtijfddobandcdaaDoorW.PrintMore YtijfddobandcdaaDoor.T
attribute [local go_sem] max2_int min2_int max_two min_two max_three min_three max_four min_four
theorem WAt.drew {W : World} {p gc cc : Nat} {A : Option Addr} {cE : Nat} {ad : Addr} {E : List (Nat × Nat)} {s : OS} (h : WAt W p gc cc A cE ad E s) : WAt W.drew p gc cc A cE ad E s := ⟨h.blk, h.hA, h.e0, h.e1, h.clr, h.len, h.n1, h.n2⟩
def DoS (W : World) (p gc cc : Nat) (A : Option Addr) (cE : Nat) (ad : Addr) (E : List (Nat × Nat)) : Option OS → Prop
 | none => True
 | some s => WAt W p gc cc A cE ad E s
set_option maxHeartbeats 8000000 in
set_option maxRecDepth 100000 in
theorem do_calls (p gc cc : Nat) (A : Option Addr) (cE : Nat) (ad : Addr) (E : List (Nat × Nat)) (s : OS) (hE : E.length ≤ 896) (hE2 : ∀ i, i < E.length → (E.getD i (0, 0)).1 < 7 ∧ (E.getD i (0, 0)).2 < 7) (hgd : s.gd < 128) (hhad : s.had < 128) (H : Nat) (hHp : H ≤ p) (hHc : H ≤ gc) (pl : Bool) (v : Nat) (hv : v < 7) (R : Option OS) (hR : doO E s ⟨pl, (v : Int)⟩ = R) (w : World) (hH : H ≤ w.heap.size) (hw : WAt w p gc cc A cE ad E s) :
  Calls Tryd.prog 65 #[.pointer (some ⟨p, 0, none⟩), .agg #[.bool pl, .int .i64 (v : Int)]] w fun e w' => e = .returned (.bool R.isSome) ∧ DoS w' p gc cc A cE ad E R ∧ Below H w w' := by
 have HW := Aside0.mk hw
 have HE2 := Aside0.mk hE2
 unfold doO at hR
 dsimp only at hR
 rw [Int.toNat_natCast] at hR
 obtain ⟨J, hJ1, hJ2, hJ3, hJ4, hJ5⟩ := bitJ s.gd v (by omega) (by omega)
 go_enter Tryd.func65, Tryd.ntmps65
 go_wp2_with (first | ((with_reducible refine gate_dst (N := 3) rfl ?_); refine box_event ?hg (N := 3) ?hd (cs := #[.bool pl, .int .i64 (v : Int)]) (t := 85) ?hr ?_; (case hd => rfl); (case hg => rfl); (case hr => first | (go_simp; done) | (go_simp; rfl)); intro ga hga w7 hbox hb7; have HGA := Aside0.mk (show w.heap.size ≤ ga by rw [hga]; exact Nat.le_refl _); clear hga; have HBOX := Aside0.mk hbox; have HB7 := Aside0.mk hb7; clear hbox hb7))
 have HW7 := Aside0.mk (HW.out.below HB7.out)
 have f2d : w7.drew.cell? ⟨p, 2, none⟩ = some (.int .i64 (s.gd : Int)) := (blk_cell HW7.out.blk 2).trans rfl
 have f1d : w7.drew.cell? ⟨ga, 1, none⟩ = some (.int .i64 (v : Int)) := (blk_cell HBOX.out 1).trans rfl
 have f0 : w7.drew.cell? ⟨ga, 0, none⟩ = some (.bool pl) := (blk_cell HBOX.out 0).trans rfl
 have hzv : (0 : Int) ≤ (v : Int) := by omega
 refine start_ (n := 10) (S := fun w' => w'.cell? ⟨p, 2, none⟩ = some (.int .i64 (s.gd : Int)) ∧ w'.cell? ⟨ga, 1, none⟩ = some (.int .i64 (v : Int))) (ds := []) (Qbz 10 0) (by kernel_rfl) rfl rfl ⟨f2d, f1d⟩ (fun hHeld => ?_)
 refine pure_ (i := 0) (N := some 8) (v := ?_) (a' := ?_) (Qbz 10 1) rfl rfl (by kernel_rfl) (fun _ _ _ h => h) (Or.inl ⟨by rfl, ?_⟩) ?_ ?_
 rotate_left
 ·intro w'
  go_simp
  with_reducible rfl
 rotate_left
 ·simp only [Act.put, Qp1, Qp2, Qp3, i64_w, i32_w]
  rfl
 refine pure_ (i := 1) (N := some 9) (v := ?_) (a' := ?_) (Qbz 10 3) rfl rfl (by kernel_rfl) (fun _ _ _ h => h) (Or.inl ⟨by rfl, ?_⟩) ?_ ?_
 rotate_left
 ·intro w'
  go_simp
  with_reducible rfl
 rotate_left
 ·simp only [Act.put, Qp1, Qp2, Qp3, i64_w, i32_w]
  rfl
 refine pure_ (i := 2) (N := some 10) (v := ?_) (a' := ?_) (Qbz 10 7) rfl rfl (by kernel_rfl) (fun _ _ _ h => h) (Or.inl ⟨by rfl, ?_⟩) ?_ ?_
 rotate_left
 ·intro w'
  go_simp
  with_reducible rfl
 rotate_left
 ·simp only [Act.put, Qp1, Qp2, Qp3, i64_w, i32_w]
  rfl
 refine pure_ (i := 4) (N := some 12) (v := ?_) (a' := ?_) (Qbz 10 23) rfl rfl (by kernel_rfl) (fun _ _ _ h => h) (Or.inl ⟨by rfl, ?_⟩) ?_ ?_
 rotate_left
 ·intro w'
  go_simp
  with_reducible rfl
 rotate_left
 ·simp only [Act.put, Qp1, Qp2, Qp3, i64_w, i32_w]
  rfl
 refine take_ (i := 3) (N := some 11) (v := ?_) (a' := ?_) (Qbz 10 31) rfl rfl (by kernel_rfl) (fun _ _ _ h => h) (Or.inl ⟨by rfl, ?_⟩) hHeld ?_ ?_
 rotate_left
 ·rintro w' ⟨s0, s1⟩
  go_simp
  with_reducible rfl
 rotate_left
 ·simp only [Act.put, Qp1, Qp2, Qp3, i64_w, i32_w]
  rfl
 refine take_ (i := 5) (N := some 13) (v := ?_) (a' := ?_) (Qbz 10 63) rfl rfl (by kernel_rfl) (fun _ _ _ h => h) (Or.inl ⟨by rfl, ?_⟩) hHeld ?_ ?_
 rotate_left
 ·rintro w' ⟨s0, s1⟩
  go_simp
  with_reducible rfl
 rotate_left
 ·simp only [Act.put, Qp1, Qp2, Qp3, i64_w, i32_w]
  rfl
 refine pure_ (i := 6) (N := some 14) (v := ?_) (a' := ?_) (Qbz 10 127) rfl rfl (by kernel_rfl) (fun _ _ _ h => h) (Or.inl ⟨by rfl, ?_⟩) ?_ ?_
 rotate_left
 ·intro w'
  go_simp
  with_reducible rfl
 rotate_left
 ·simp only [Act.put, Qp1, Qp2, Qp3, i64_w, i32_w]
  rfl
 refine pure_ (i := 7) (N := some 15) (v := ?_) (a' := ?_) (Qbz 10 255) rfl rfl (by kernel_rfl) (fun _ _ _ h => h) (Or.inl ⟨by rfl, ?_⟩) ?_ ?_
 rotate_left
 ·intro w'
  go_simp
  with_reducible rfl
 rotate_left
 ·simp only [Act.put, Qp1, Qp2, Qp3, i64_w, i32_w]
  rfl
 refine pure_ (i := 8) (N := some 16) (v := ?_) (a' := ?_) (Qbz 10 511) rfl rfl (by kernel_rfl) (fun _ _ _ h => h) (Or.inl ⟨by rfl, ?_⟩) ?_ ?_
 rotate_left
 ·intro w'
  go_simp
  with_reducible rfl
 rotate_left
 ·simp only [Act.put, Qp1, Qp2, Qp3, i64_w, i32_w]
  rfl
 refine pure_ (i := 9) (N := some 5) (v := ?_) (a' := ?_) (Qbz 10 1023) rfl rfl (by kernel_rfl) (fun _ _ _ h => h) (Or.inl ⟨by rfl, ?_⟩) ?_ ?_
 rotate_left
 ·intro w'
  go_simp
  with_reducible rfl
 rotate_left
 ·simp only [Act.put, Qp1, Qp2, Qp3, i64_w, i32_w]
  rfl
 refine done_ (by kernel_rfl) ?_
 have HB8 : Aside0 (Below w.heap.size w w7.drew) := ⟨below_drew HB7.out⟩
 by_cases heq : (s.gd.testBit v == pl) = true
 ·rw [if_pos heq] at hR
  subst hR
  clear hJ1 hJ2 hJ3 hJ4 hJ5 f2d f1d
  generalize s.gd.testBit v = bt at *
  go_wp2
  go_ret
  exact ⟨rfl, trivial, HB8.out.mono hH⟩
 ·rw [if_neg heq] at hR
  have HR := Aside0.mk hR
  replace heq : (s.gd.testBit v == pl) = false := by simpa using heq
  have hpv : 2 ^ v < 2 ^ 7 := Nat.pow_lt_pow_right (by omega) hv
  obtain ⟨J3, ⟨hS1, hS2, hS3⟩, hS4⟩ := shJ v (by omega)
  have hxo := b_xor s.gd (2 ^ v) (by omega) (Nat.lt_of_lt_of_le hpv (by decide))
  rw [← hS4] at hxo
  have hxo2 : Go.bits .xor .i64 (s.gd : Int) ((2 : Int) ^ v) = ((s.gd ^^^ 2 ^ v : Nat) : Int) := by
   have e : ((2 : Int) ^ v) = ((2 ^ v : Nat) : Int) := by simp
   rw [e, ← hS4]; exact hxo
  have hg2 : s.gd ^^^ 2 ^ v < 2 ^ 7 := Nat.xor_lt_two_pow (by show s.gd < 2 ^ 7; exact hgd) hpv
  have hhad7 : s.had < 2 ^ 7 := hhad
  obtain ⟨g2, hg2e⟩ : ∃ g2, s.gd ^^^ 2 ^ v = g2 := ⟨_, rfl⟩
  rw [hg2e] at hxo hxo2 hg2
  have hor := b_or s.had g2 (Nat.lt_of_lt_of_le hhad7 (by decide)) (Nat.lt_of_lt_of_le hg2 (by decide))
  have hh2 : s.had ||| g2 < 2 ^ 7 := Nat.or_lt_two_pow hhad7 hg2
  obtain ⟨h2, hh2e⟩ : ∃ h2, s.had ||| g2 = h2 := ⟨_, rfl⟩
  rw [hh2e] at hor hh2
  have HG2 := Aside0.mk hg2e
  have HH2 := Aside0.mk hh2e
  have fz2 : w7.drew.frozen? ⟨p, 2, none⟩ = false := blk_frozen HW7.out.blk 2
  clear hR hJ1 hJ2 hJ3 hJ4 hJ5 f2d f1d hg2e hh2e hpv hhad7
  generalize s.gd.testBit v = bt at *
  go_wp2
  have f2e : w7.drew.drew.cell? ⟨p, 2, none⟩ = some (.int .i64 (s.gd : Int)) := (blk_cell HW7.out.blk 2).trans rfl
  have f1e : w7.drew.drew.cell? ⟨ga, 1, none⟩ = some (.int .i64 (v : Int)) := (blk_cell HBOX.out 1).trans rfl
  have fz2e : w7.drew.drew.frozen? ⟨p, 2, none⟩ = false := fz2
  refine start_ (n := 11) (S := fun w' => w'.cell? ⟨p, 2, none⟩ = some (.int .i64 (s.gd : Int)) ∧ w'.cell? ⟨ga, 1, none⟩ = some (.int .i64 (v : Int)) ∧ w'.frozen? ⟨p, 2, none⟩ = false) (ds := [10]) (Qbz 11 0) (by kernel_rfl) rfl rfl ⟨f2e, f1e, fz2e⟩ (fun hHeld => ?_)
  refine pure_ (i := 0) (N := some 21) (v := ?_) (a' := ?_) (Qbz 11 1) rfl rfl (by kernel_rfl) (fun _ _ _ h => h) (Or.inl ⟨by rfl, ?_⟩) ?_ ?_
  rotate_left
  ·intro w'
   go_simp
   with_reducible rfl
  rotate_left
  ·simp only [Act.put, Qp1, Qp2, Qp3, i64_w, i32_w]
   rfl
  refine pure_ (i := 1) (N := some 22) (v := ?_) (a' := ?_) (Qbz 11 3) rfl rfl (by kernel_rfl) (fun _ _ _ h => h) (Or.inl ⟨by rfl, ?_⟩) ?_ ?_
  rotate_left
  ·intro w'
   go_simp
   with_reducible rfl
  rotate_left
  ·simp only [Act.put, Qp1, Qp2, Qp3, i64_w, i32_w]
   rfl
  refine pure_ (i := 2) (N := some 23) (v := ?_) (a' := ?_) (Qbz 11 7) rfl rfl (by kernel_rfl) (fun _ _ _ h => h) (Or.inl ⟨by rfl, ?_⟩) ?_ ?_
  rotate_left
  ·intro w'
   go_simp
   with_reducible rfl
  rotate_left
  ·simp only [Act.put, Qp1, Qp2, Qp3, i64_w, i32_w]
   rfl
  refine pure_ (i := 4) (N := some 25) (v := ?_) (a' := ?_) (Qbz 11 23) rfl rfl (by kernel_rfl) (fun _ _ _ h => h) (Or.inl ⟨by rfl, ?_⟩) ?_ ?_
  rotate_left
  ·intro w'
   go_simp
   with_reducible rfl
  rotate_left
  ·simp only [Act.put, Qp1, Qp2, Qp3, i64_w, i32_w]
   rfl
  refine take_ (i := 3) (N := some 24) (v := ?_) (a' := ?_) (Qbz 11 31) rfl rfl (by kernel_rfl) (fun _ _ _ h => h) (Or.inl ⟨by rfl, ?_⟩) hHeld ?_ ?_
  rotate_left
  ·rintro w' ⟨s0, s1, s2⟩
   go_simp
   with_reducible rfl
  rotate_left
  ·simp only [Act.put, Qp1, Qp2, Qp3, i64_w, i32_w]
   rfl
  refine take_ (i := 5) (N := some 26) (v := ?_) (a' := ?_) (Qbz 11 63) rfl rfl (by kernel_rfl) (fun _ _ _ h => h) (Or.inl ⟨by rfl, ?_⟩) hHeld ?_ ?_
  rotate_left
  ·rintro w' ⟨s0, s1, s2⟩
   go_simp
   with_reducible rfl
  rotate_left
  ·simp only [Act.put, Qp1, Qp2, Qp3, i64_w, i32_w]
   rfl
  refine pure_ (i := 6) (N := some 27) (v := ?_) (a' := ?_) (Qbz 11 127) rfl rfl (by kernel_rfl) (fun _ _ _ h => h) (Or.inl ⟨by rfl, ?_⟩) ?_ ?_
  rotate_left
  ·intro w'
   go_simp
   with_reducible rfl
  rotate_left
  ·simp only [Act.put, Qp1, Qp2, Qp3, i64_w, i32_w]
   rfl
  refine pure_ (i := 7) (N := some 28) (v := ?_) (a' := ?_) (Qbz 11 255) rfl rfl (by kernel_rfl) (fun _ _ _ h => h) (Or.inl ⟨by rfl, ?_⟩) ?_ ?_
  rotate_left
  ·intro w'
   go_simp
   with_reducible rfl
  rotate_left
  ·simp only [Act.put, Qp1, Qp2, Qp3, i64_w, i32_w]
   rfl
  refine pure_ (i := 8) (N := some 29) (v := ?_) (a' := ?_) (Qbz 11 511) rfl rfl (by kernel_rfl) (fun _ _ _ h => h) (Or.inl ⟨by rfl, ?_⟩) ?_ ?_
  rotate_left
  ·intro w'
   go_simp
   with_reducible rfl
  rotate_left
  ·simp only [Act.put, Qp1, Qp2, Qp3, i64_w, i32_w]
   rfl
  refine pure_ (i := 9) (N := some 30) (v := ?_) (a' := ?_) (Qbz 11 1023) rfl rfl (by kernel_rfl) (fun _ _ _ h => h) (Or.inl ⟨by rfl, ?_⟩) ?_ ?_
  rotate_left
  ·intro w'
   go_simp
   with_reducible rfl
  rotate_left
  ·simp only [Act.put, Qp1, Qp2, Qp3, i64_w, i32_w]
   rfl
  refine last_ (i := 10) (N := none) (Qbz 11 2047) rfl rfl (by kernel_rfl) (by decide) (fun K hK => ?_)
  refine skip_ (w1 := ?_) (by rfl) rfl ?_ ?_
  rotate_left
  ·go_simp
   rfl
  refine hK.out _ _ ?_
  clear hK K
  refine done_ (by kernel_rfl) ?_
  go_wp2
  have HW8 : Aside0 (WAt ((w7.setCell ⟨p, 2, none⟩ (.int .i64 (g2 : Int))).drew.drew) p gc cc A cE ad E ⟨g2, s.had, s.bk, s.C⟩) := ⟨WAt.drew (WAt.drew (WAt.field (s := s) (s2 := ⟨g2, s.had, s.bk, s.C⟩) (j := 2) (v := .int .i64 (g2 : Int)) HW7.out rfl rfl))⟩
  have HB9 : Aside0 (Below H w ((w7.setCell ⟨p, 2, none⟩ (.int .i64 (g2 : Int))).drew.drew)) := ⟨below_drew (below_drew ((HB7.out.mono hH).setCell hHp _))⟩
  generalize (w7.setCell ⟨p, 2, none⟩ (.int .i64 (g2 : Int))).drew.drew = w8 at *
  clear HB8 HBOX HB7 HW7 f0 f2e f1e fz2 fz2e hw hS1 hS2 hS3 hS4 hxo hxo2
  have f2d : w8.drew.cell? ⟨p, 2, none⟩ = some (.int .i64 (g2 : Int)) := (blk_cell HW8.out.blk 2).trans rfl
  have f3d : w8.drew.cell? ⟨p, 3, none⟩ = some (.int .i64 (s.had : Int)) := (blk_cell HW8.out.blk 3).trans rfl
  have fz3 : w8.drew.frozen? ⟨p, 3, none⟩ = false := blk_frozen HW8.out.blk 3
  refine start_ (n := 12) (S := fun w' => w'.cell? ⟨p, 2, none⟩ = some (.int .i64 (g2 : Int)) ∧ w'.cell? ⟨p, 3, none⟩ = some (.int .i64 (s.had : Int)) ∧ w'.frozen? ⟨p, 3, none⟩ = false) (ds := [11]) (Qbz 12 0) (by kernel_rfl) rfl rfl ⟨f2d, f3d, fz3⟩ (fun hHeld => ?_)
  refine pure_ (i := 0) (N := some 31) (v := ?_) (a' := ?_) (Qbz 12 1) rfl rfl (by kernel_rfl) (fun _ _ _ h => h) (Or.inl ⟨by rfl, ?_⟩) ?_ ?_
  rotate_left
  ·intro w'
   go_simp
   with_reducible rfl
  rotate_left
  ·simp only [Act.put, Qp1, Qp2, Qp3, i64_w, i32_w]
   rfl
  refine pure_ (i := 1) (N := some 32) (v := ?_) (a' := ?_) (Qbz 12 3) rfl rfl (by kernel_rfl) (fun _ _ _ h => h) (Or.inl ⟨by rfl, ?_⟩) ?_ ?_
  rotate_left
  ·intro w'
   go_simp
   with_reducible rfl
  rotate_left
  ·simp only [Act.put, Qp1, Qp2, Qp3, i64_w, i32_w]
   rfl
  refine pure_ (i := 2) (N := some 33) (v := ?_) (a' := ?_) (Qbz 12 7) rfl rfl (by kernel_rfl) (fun _ _ _ h => h) (Or.inl ⟨by rfl, ?_⟩) ?_ ?_
  rotate_left
  ·intro w'
   go_simp
   with_reducible rfl
  rotate_left
  ·simp only [Act.put, Qp1, Qp2, Qp3, i64_w, i32_w]
   rfl
  refine pure_ (i := 4) (N := some 35) (v := ?_) (a' := ?_) (Qbz 12 23) rfl rfl (by kernel_rfl) (fun _ _ _ h => h) (Or.inl ⟨by rfl, ?_⟩) ?_ ?_
  rotate_left
  ·intro w'
   go_simp
   with_reducible rfl
  rotate_left
  ·simp only [Act.put, Qp1, Qp2, Qp3, i64_w, i32_w]
   rfl
  refine pure_ (i := 5) (N := some 36) (v := ?_) (a' := ?_) (Qbz 12 55) rfl rfl (by kernel_rfl) (fun _ _ _ h => h) (Or.inl ⟨by rfl, ?_⟩) ?_ ?_
  rotate_left
  ·intro w'
   go_simp
   with_reducible rfl
  rotate_left
  ·simp only [Act.put, Qp1, Qp2, Qp3, i64_w, i32_w]
   rfl
  refine pure_ (i := 6) (N := some 37) (v := ?_) (a' := ?_) (Qbz 12 119) rfl rfl (by kernel_rfl) (fun _ _ _ h => h) (Or.inl ⟨by rfl, ?_⟩) ?_ ?_
  rotate_left
  ·intro w'
   go_simp
   with_reducible rfl
  rotate_left
  ·simp only [Act.put, Qp1, Qp2, Qp3, i64_w, i32_w]
   rfl
  refine take_ (i := 3) (N := some 34) (v := ?_) (a' := ?_) (Qbz 12 127) rfl rfl (by kernel_rfl) (fun _ _ _ h => h) (Or.inl ⟨by rfl, ?_⟩) hHeld ?_ ?_
  rotate_left
  ·rintro w' ⟨s0, s1, s2⟩
   go_simp
   with_reducible rfl
  rotate_left
  ·simp only [Act.put, Qp1, Qp2, Qp3, i64_w, i32_w]
   rfl
  refine take_ (i := 7) (N := some 38) (v := ?_) (a' := ?_) (Qbz 12 255) rfl rfl (by kernel_rfl) (fun _ _ _ h => h) (Or.inl ⟨by rfl, ?_⟩) hHeld ?_ ?_
  rotate_left
  ·rintro w' ⟨s0, s1, s2⟩
   go_simp
   with_reducible rfl
  rotate_left
  ·simp only [Act.put, Qp1, Qp2, Qp3, i64_w, i32_w]
   rfl
  refine pure_ (i := 8) (N := some 39) (v := ?_) (a' := ?_) (Qbz 12 511) rfl rfl (by kernel_rfl) (fun _ _ _ h => h) (Or.inl ⟨by rfl, ?_⟩) ?_ ?_
  rotate_left
  ·intro w'
   go_simp
   with_reducible rfl
  rotate_left
  ·simp only [Act.put, Qp1, Qp2, Qp3, i64_w, i32_w]
   rfl
  refine pure_ (i := 9) (N := some 40) (v := ?_) (a' := ?_) (Qbz 12 1023) rfl rfl (by kernel_rfl) (fun _ _ _ h => h) (Or.inl ⟨by rfl, ?_⟩) ?_ ?_
  rotate_left
  ·intro w'
   go_simp
   with_reducible rfl
  rotate_left
  ·simp only [Act.put, Qp1, Qp2, Qp3, i64_w, i32_w]
   rfl
  refine pure_ (i := 10) (N := some 41) (v := ?_) (a' := ?_) (Qbz 12 2047) rfl rfl (by kernel_rfl) (fun _ _ _ h => h) (Or.inl ⟨by rfl, ?_⟩) ?_ ?_
  rotate_left
  ·intro w'
   go_simp
   with_reducible rfl
  rotate_left
  ·simp only [Act.put, Qp1, Qp2, Qp3, i64_w, i32_w]
   rfl
  refine last_ (i := 11) (N := none) (Qbz 12 4095) rfl rfl (by kernel_rfl) (by decide) (fun K hK => ?_)
  refine skip_ (w1 := ?_) (by rfl) rfl ?_ ?_
  rotate_left
  ·go_simp
   rfl
  refine hK.out _ _ ?_
  clear hK K
  refine done_ (by kernel_rfl) ?_
  have HW9 : Aside0 (WAt (w8.setCell ⟨p, 3, none⟩ (.int .i64 (h2 : Int))).drew p gc cc A cE ad E ⟨g2, h2, s.bk, s.C⟩) := ⟨WAt.drew (WAt.field (s := ⟨g2, s.had, s.bk, s.C⟩) (s2 := ⟨g2, h2, s.bk, s.C⟩) (j := 3) (v := .int .i64 (h2 : Int)) HW8.out rfl rfl)⟩
  have HB10 : Aside0 (Below H w (w8.setCell ⟨p, 3, none⟩ (.int .i64 (h2 : Int))).drew) := ⟨below_drew (HB9.out.setCell hHp _)⟩
  have f0 : (w8.setCell ⟨p, 3, none⟩ (.int .i64 (h2 : Int))).drew.cell? ⟨p, 0, none⟩ = some (.slice A E.length cE) := (blk_cell HW9.out.blk 0).trans rfl
  go_wp2
  generalize (w8.setCell ⟨p, 3, none⟩ (.int .i64 (h2 : Int))).drew = w9 at *
  clear HB9 HW8 f2d f3d fz3 f0 hor
  clear HW hE2
  obtain ⟨CF, hCF⟩ : ∃ C, marksO E g2 E.length 0 s.C = C := ⟨_, rfl⟩
  have HCF := Aside0.mk hCF
  have HCF0 := Aside0.mk hCF
  clear hCF
  go_loopg [47] E.length (fun kq v47 w' => ∃ (i : Nat) (C : List Bool), v47 = .int .i64 (i : Int) ∧ i + kq = E.length ∧ Aside0 (marksO E g2 kq i C = CF) ∧ Aside0 (WAt w' p gc cc A cE ad E ⟨g2, h2, s.bk, C⟩) ∧ Aside0 (Below H w w'))
  case atStart => exact ⟨0, s.C, rfl, by omega, HCF, HW9, HB10⟩
  case round =>
   clear HCF HW9 HB10
   obtain ⟨i, C, rfl, hi, HM, HW, HB⟩ := hrel
   by_cases hil : i < E.length
   ·have hi1 : ((i : Int) < (E.length : Int)) = True := eq_true (by omega)
    have hi2 : decide ((i : Int) < (E.length : Int)) = true := decide_eq_true (by omega)
    cases gk with
    | zero => omega
    | succ gi =>
    have hm := HM.out
    simp only [marksO] at hm
    have hA := HW.out.hA (by omega)
    subst hA
    have hc0 := HW.out.e0 i hil
    have hc1 := HW.out.e1 i hil
    obtain ⟨hl4, hl5⟩ := HE2.out i hil
    have HE4 := Aside0.mk (ends_f _ _ hl4 hl5)
    obtain ⟨e4, he4⟩ : ∃ x, endsOf E i = x := ⟨_, rfl⟩
    rw [he4] at hm
    unfold endsOf at he4
    rw [he4] at HE4
    have he4l : e4 < 128 := by
     rw [← he4]
     exact Nat.or_lt_two_pow (n := 7) (Nat.pow_lt_pow_right (by omega) hl4) (Nat.pow_lt_pow_right (by omega) hl5)
    generalize (E.getD i (0, 0)).1 = a4 at *
    generalize (E.getD i (0, 0)).2 = b4 at *
    have HM1 := Aside0.mk hm
    clear HM hm hl4 hl5 he4
    go_wp2_with (first | ((with_reducible refine gate_dst (N := 7) rfl ?_); refine box_event ?hg (N := 7) ?hd (cs := #[.int .i64 0, .int .i64 0]) (t := 117) ?hr ?_; (case hd => rfl); (case hg => rfl); (case hr => first | (go_simp; done) | (go_simp; rfl)); intro gb hgb w7 hbox hb7; have HGB := Aside0.mk (show wr.heap.size ≤ gb by rw [hgb]; exact Nat.le_refl _); clear hgb; have hz0 : w7.cell? ⟨gb, 0, none⟩ = some (.int .i64 0) := (blk_cell hbox 0).trans rfl; have hz1 : w7.cell? ⟨gb, 1, none⟩ = some (.int .i64 0) := (blk_cell hbox 1).trans rfl; have hf0 := blk_frozen hbox 0; have hf1 := blk_frozen hbox 1; have HBOX := Aside0.mk hbox; have HB7 := Aside0.mk hb7; clear hbox hb7))
    have hcb := blk_set (blk_set HBOX.out 0 (.int .i64 (a4 : Int))) 1 (.int .i64 (b4 : Int))
    have HBW : Aside0 (Below wr.heap.size wr ((w7.setCell ⟨gb, 0, none⟩ (.int .i64 (a4 : Int))).setCell ⟨gb, 1, none⟩ (.int .i64 (b4 : Int)))) := ⟨below_set (below_set HB7.out HGB.out) HGB.out⟩
    generalize (w7.setCell ⟨gb, 0, none⟩ (.int .i64 (a4 : Int))).setCell ⟨gb, 1, none⟩ (.int .i64 (b4 : Int)) = w10 at *
    have HW10 := Aside0.mk (HW.out.below HBW.out)
    have HB11 : Aside0 (Below H w w10) := ⟨below_then HB.out (by have := HB.out.size; omega) HBW.out⟩
    have hHw : H ≤ w10.heap.size := by have := HB11.out.size; omega
    clear HBOX HB7 HGB hc0 hc1 hz0 hz1 hf0 hf1 HW HB HBW
    have f1 : w10.cell? ⟨p, 1, none⟩ = some (.slice (some ⟨gc, 0, none⟩) E.length cc) := (blk_cell HW10.out.blk 1).trans rfl
    have f2 : w10.cell? ⟨p, 2, none⟩ = some (.int .i64 (g2 : Int)) := (blk_cell HW10.out.blk 2).trans rfl
    have f3 := HW10.out.clr.cell i (by rw [HW10.out.len]; exact hil)
    have f5 : w10.cell? ⟨gb, 0, none⟩ = some (.int .i64 (a4 : Int)) := (blk_cell hcb 0).trans rfl
    have f6 : w10.cell? ⟨gb, 1, none⟩ = some (.int .i64 (b4 : Int)) := (blk_cell hcb 1).trans rfl
    have hm := HM1.out
    dsimp only at f3
    generalize C.getD i false = ci at *
    clear hcb HM1
    have f1d : w10.drew.cell? ⟨p, 1, none⟩ = _ := f1
    have f2d : w10.drew.cell? ⟨p, 2, none⟩ = _ := f2
    have f3d : w10.drew.cell? ⟨gc, i, none⟩ = _ := f3
    have f5d : w10.drew.cell? ⟨gb, 0, none⟩ = _ := f5
    have f6d : w10.drew.cell? ⟨gb, 1, none⟩ = _ := f6
    have fzd : w10.drew.frozen? ⟨gc, i, none⟩ = false := HW10.out.clr.frozen i
    have fbd : Below w10.heap.size w10 w10.drew := below_drew (Below.refl _ _)
    clear f1 f2 f3 f5 f6
    cases ci
    ·have CE : ∀ W, (W.cell? ⟨p, 1, none⟩ = some (.slice (some ⟨gc, 0, none⟩) E.length cc) ∧ W.cell? ⟨p, 2, none⟩ = some (.int .i64 (g2 : Int)) ∧ W.cell? ⟨gc, i, none⟩ = some (.bool false) ∧ W.cell? ⟨gb, 0, none⟩ = some (.int .i64 (a4 : Int)) ∧ W.cell? ⟨gb, 1, none⟩ = some (.int .i64 (b4 : Int)) ∧ W.frozen? ⟨gc, i, none⟩ = false ∧ Below w10.heap.size w10 W) → Calls Tryd.prog 78 #[.agg #[.int .i64 (a4 : Int), .int .i64 (b4 : Int)]] W fun e' w' => e' = .returned (.int .i64 (e4 : Int)) ∧ w'.cell? ⟨p, 1, none⟩ = some (.slice (some ⟨gc, 0, none⟩) E.length cc) ∧ w'.cell? ⟨p, 2, none⟩ = some (.int .i64 (g2 : Int)) ∧ w'.cell? ⟨gc, i, none⟩ = some (.bool false) ∧ w'.cell? ⟨gb, 0, none⟩ = some (.int .i64 (a4 : Int)) ∧ w'.cell? ⟨gb, 1, none⟩ = some (.int .i64 (b4 : Int)) ∧ w'.frozen? ⟨gc, i, none⟩ = false ∧ Below w10.heap.size w10 w' := fun W hW => (sweep_street_ends.calls _ _ _ W HE4.out).mono fun e' w' ⟨h1, h2⟩ => ⟨h1, (h2.cell (World.block_lt_of_cell? W _ hW.1)).trans hW.1, (h2.cell (World.block_lt_of_cell? W _ hW.2.1)).trans hW.2.1, (h2.cell (World.block_lt_of_cell? W _ hW.2.2.1)).trans hW.2.2.1, (h2.cell (World.block_lt_of_cell? W _ hW.2.2.2.1)).trans hW.2.2.2.1, (h2.cell (World.block_lt_of_cell? W _ hW.2.2.2.2.1)).trans hW.2.2.2.2.1, (HW10.out.below (below_step hW.2.2.2.2.2.2 h2)).clr.frozen i, below_step hW.2.2.2.2.2.2 h2⟩
     have CE4 := Aside0.mk CE
     have hdi := b_andNot e4 g2 (by omega) (by omega)
     obtain ⟨dx, hdx⟩ : ∃ x, diff e4 g2 = x := ⟨_, rfl⟩
     rw [hdx] at hdi hm
     have t2 : ((dx : Int) == 0) = (dx == 0) := by
      by_cases h : dx = 0
      ·simp [h]
      ·have e1 : ((dx : Int) == 0) = false := by simp; omega
       have e2 : (dx == 0) = false := by simp; omega
       rw [e1, e2]
     rw [Bool.false_or] at hm
     generalize (dx == 0) = bz at *
     have HM2 := Aside0.mk hm
     clear CE hdx he4l hm
     go_wp2_with (fail)
     refine start_ (n := 24) (S := fun w' => w'.cell? ⟨p, 1, none⟩ = some (.slice (some ⟨gc, 0, none⟩) E.length cc) ∧ w'.cell? ⟨p, 2, none⟩ = some (.int .i64 (g2 : Int)) ∧ w'.cell? ⟨gc, i, none⟩ = some (.bool false) ∧ w'.cell? ⟨gb, 0, none⟩ = some (.int .i64 (a4 : Int)) ∧ w'.cell? ⟨gb, 1, none⟩ = some (.int .i64 (b4 : Int)) ∧ w'.frozen? ⟨gc, i, none⟩ = false ∧ Below w10.heap.size w10 w') (ds := [23]) (Qbz 24 0) (by kernel_rfl) rfl rfl ⟨f1d, f2d, f3d, f5d, f6d, fzd, fbd⟩ (fun hHeld => ?_)
     refine pure_ (i := 0) (N := some 52) (v := ?_) (a' := ?_) (Qbz 24 1) rfl rfl (by kernel_rfl) (fun _ _ _ h => h) (Or.inl ⟨by rfl, ?_⟩) ?_ ?_
     rotate_left
     ·intro w'
      go_simp
      with_reducible rfl
     rotate_left
     ·simp only [Act.put, Qp1, Qp2, Qp3, i64_w, i32_w]
      rfl
     refine pure_ (i := 1) (N := some 53) (v := ?_) (a' := ?_) (Qbz 24 3) rfl rfl (by kernel_rfl) (fun _ _ _ h => h) (Or.inl ⟨by rfl, ?_⟩) ?_ ?_
     rotate_left
     ·intro w'
      go_simp
      with_reducible rfl
     rotate_left
     ·simp only [Act.put, Qp1, Qp2, Qp3, i64_w, i32_w]
      rfl
     refine pure_ (i := 2) (N := some 54) (v := ?_) (a' := ?_) (Qbz 24 7) rfl rfl (by kernel_rfl) (fun _ _ _ h => h) (Or.inl ⟨by rfl, ?_⟩) ?_ ?_
     rotate_left
     ·intro w'
      go_simp
      with_reducible rfl
     rotate_left
     ·simp only [Act.put, Qp1, Qp2, Qp3, i64_w, i32_w]
      rfl
     refine pure_ (i := 4) (N := some 56) (v := ?_) (a' := ?_) (Qbz 24 23) rfl rfl (by kernel_rfl) (fun _ _ _ h => h) (Or.inl ⟨by rfl, ?_⟩) ?_ ?_
     rotate_left
     ·intro w'
      go_simp
      with_reducible rfl
     rotate_left
     ·simp only [Act.put, Qp1, Qp2, Qp3, i64_w, i32_w]
      rfl
     refine pure_ (i := 5) (N := some 57) (v := ?_) (a' := ?_) (Qbz 24 55) rfl rfl (by kernel_rfl) (fun _ _ _ h => h) (Or.inl ⟨by rfl, ?_⟩) ?_ ?_
     rotate_left
     ·intro w'
      go_simp
      with_reducible rfl
     rotate_left
     ·simp only [Act.put, Qp1, Qp2, Qp3, i64_w, i32_w]
      rfl
     refine pure_ (i := 6) (N := some 58) (v := ?_) (a' := ?_) (Qbz 24 119) rfl rfl (by kernel_rfl) (fun _ _ _ h => h) (Or.inl ⟨by rfl, ?_⟩) ?_ ?_
     rotate_left
     ·intro w'
      go_simp
      with_reducible rfl
     rotate_left
     ·simp only [Act.put, Qp1, Qp2, Qp3, i64_w, i32_w]
      rfl
     refine pure_ (i := 7) (N := some 59) (v := ?_) (a' := ?_) (Qbz 24 247) rfl rfl (by kernel_rfl) (fun _ _ _ h => h) (Or.inl ⟨by rfl, ?_⟩) ?_ ?_
     rotate_left
     ·intro w'
      go_simp
      with_reducible rfl
     rotate_left
     ·simp only [Act.put, Qp1, Qp2, Qp3, i64_w, i32_w]
      rfl
     refine pure_ (i := 9) (N := some 61) (v := ?_) (a' := ?_) (Qbz 24 759) rfl rfl (by kernel_rfl) (fun _ _ _ h => h) (Or.inl ⟨by rfl, ?_⟩) ?_ ?_
     rotate_left
     ·intro w'
      go_simp
      with_reducible rfl
     rotate_left
     ·simp only [Act.put, Qp1, Qp2, Qp3, i64_w, i32_w]
      rfl
     refine take_ (i := 3) (N := some 55) (v := ?_) (a' := ?_) (Qbz 24 767) rfl rfl (by kernel_rfl) (fun _ _ _ h => h) (Or.inl ⟨by rfl, ?_⟩) hHeld ?_ ?_
     rotate_left
     ·rintro w' ⟨s0, s1, s2, s3, s4, s5, s6⟩
      go_simp
      with_reducible rfl
     rotate_left
     ·simp only [Act.put, Qp1, Qp2, Qp3, i64_w, i32_w]
      rfl
     refine take_ (i := 8) (N := some 60) (v := ?_) (a' := ?_) (Qbz 24 1023) rfl rfl (by kernel_rfl) (fun _ _ _ h => h) (Or.inl ⟨by rfl, ?_⟩) hHeld ?_ ?_
     rotate_left
     ·rintro w' ⟨s0, s1, s2, s3, s4, s5, s6⟩
      go_simp
      with_reducible rfl
     rotate_left
     ·simp only [Act.put, Qp1, Qp2, Qp3, i64_w, i32_w]
      rfl
     refine pure_ (i := 10) (N := some 62) (v := ?_) (a' := ?_) (Qbz 24 2047) rfl rfl (by kernel_rfl) (fun _ _ _ h => h) (Or.inl ⟨by rfl, ?_⟩) ?_ ?_
     rotate_left
     ·intro w'
      go_simp
      with_reducible rfl
     rotate_left
     ·simp only [Act.put, Qp1, Qp2, Qp3, i64_w, i32_w]
      rfl
     refine take_ (i := 11) (N := some 63) (v := ?_) (a' := ?_) (Qbz 24 4095) rfl rfl (by kernel_rfl) (fun _ _ _ h => h) (Or.inl ⟨by rfl, ?_⟩) hHeld ?_ ?_
     rotate_left
     ·rintro w' ⟨s0, s1, s2, s3, s4, s5, s6⟩
      go_simp
      with_reducible rfl
     rotate_left
     ·simp only [Act.put, Qp1, Qp2, Qp3, i64_w, i32_w]
      rfl
     refine pure_ (i := 12) (N := some 64) (v := ?_) (a' := ?_) (Qbz 24 8191) rfl rfl (by kernel_rfl) (fun _ _ _ h => h) (Or.inl ⟨by rfl, ?_⟩) ?_ ?_
     rotate_left
     ·intro w'
      go_simp
      with_reducible rfl
     rotate_left
     ·simp only [Act.put, Qp1, Qp2, Qp3, i64_w, i32_w]
      rfl
     refine pure_ (i := 15) (N := some 67) (v := ?_) (a' := ?_) (Qbz 24 40959) rfl rfl (by kernel_rfl) (fun _ _ _ h => h) (Or.inl ⟨by rfl, ?_⟩) ?_ ?_
     rotate_left
     ·intro w'
      go_simp
      with_reducible rfl
     rotate_left
     ·simp only [Act.put, Qp1, Qp2, Qp3, i64_w, i32_w]
      rfl
     refine pure_ (i := 16) (N := some 68) (v := ?_) (a' := ?_) (Qbz 24 106495) rfl rfl (by kernel_rfl) (fun _ _ _ h => h) (Or.inl ⟨by rfl, ?_⟩) ?_ ?_
     rotate_left
     ·intro w'
      go_simp
      with_reducible rfl
     rotate_left
     ·simp only [Act.put, Qp1, Qp2, Qp3, i64_w, i32_w]
      rfl
     refine pure_ (i := 17) (N := some 69) (v := ?_) (a' := ?_) (Qbz 24 237567) rfl rfl (by kernel_rfl) (fun _ _ _ h => h) (Or.inl ⟨by rfl, ?_⟩) ?_ ?_
     rotate_left
     ·intro w'
      go_simp
      with_reducible rfl
     rotate_left
     ·simp only [Act.put, Qp1, Qp2, Qp3, i64_w, i32_w]
      rfl
     refine take_ (i := 13) (N := some 65) (v := ?_) (a' := ?_) (Qbz 24 245759) rfl rfl (by kernel_rfl) (fun _ _ _ h => h) (Or.inl ⟨by rfl, ?_⟩) hHeld ?_ ?_
     rotate_left
     ·rintro w' ⟨s0, s1, s2, s3, s4, s5, s6⟩
      go_simp
      with_reducible rfl
     rotate_left
     ·simp only [Act.put, Qp1, Qp2, Qp3, i64_w, i32_w]
      rfl
     refine take_ (i := 18) (N := some 70) (v := ?_) (a' := ?_) (Qbz 24 507903) rfl rfl (by kernel_rfl) (fun _ _ _ h => h) (Or.inl ⟨by rfl, ?_⟩) hHeld ?_ ?_
     rotate_left
     ·rintro w' ⟨s0, s1, s2, s3, s4, s5, s6⟩
      go_simp
      with_reducible rfl
     rotate_left
     ·simp only [Act.put, Qp1, Qp2, Qp3, i64_w, i32_w]
      rfl
     refine one_ (i := 14) (N := some 66) (Qbz 24 524287) rfl rfl (by kernel_rfl) (by decide) (fun K hK => ?_)
     refine goes_ Tryd.func78 (by kernel_rfl) rfl #[.agg #[.int .i64 (a4 : Int), .int .i64 (b4 : Int)]] (by rfl) rfl rfl (by simp only [List.map_toArray, List.map_cons, List.map_nil]; rfl) ?_
     with_reducible refine (CE4.out _ hHeld).mono ?_
     rintro e w3 ⟨rfl, g1, g2', g3, g5, g6, gz, gB⟩
     refine ⟨_, rfl, ?_⟩
     refine hK.out _ _ ⟨g1, g2', g3, g5, g6, gz, gB⟩ (fun hHeld => ?_)
     clear hK K
     refine norm_ (a' := ?_) ?_ ?_
     rotate_left
     ·show Act.put _ (some 66) _ = _
      simp only [Act.put, Qp1, Qp2, Qp3, i64_w, i32_w]
      rfl
     refine pure_ (i := 19) (N := some 71) (v := ?_) (a' := ?_) (Qbz 24 1048575) rfl rfl (by kernel_rfl) (fun _ _ _ h => h) (Or.inl ⟨by rfl, ?_⟩) ?_ ?_
     rotate_left
     ·intro w'
      go_simp
      with_reducible rfl
     rotate_left
     ·simp only [Act.put, Qp1, Qp2, Qp3, i64_w, i32_w]
      rfl
     refine pure_ (i := 20) (N := some 72) (v := ?_) (a' := ?_) (Qbz 24 2097151) rfl rfl (by kernel_rfl) (fun _ _ _ h => h) (Or.inl ⟨by rfl, ?_⟩) ?_ ?_
     rotate_left
     ·intro w'
      go_simp
      with_reducible rfl
     rotate_left
     ·simp only [Act.put, Qp1, Qp2, Qp3, i64_w, i32_w]
      rfl
     refine pure_ (i := 21) (N := some 73) (v := ?_) (a' := ?_) (Qbz 24 4194303) rfl rfl (by kernel_rfl) (fun _ _ _ h => h) (Or.inl ⟨by rfl, ?_⟩) ?_ ?_
     rotate_left
     ·intro w'
      go_simp
      with_reducible rfl
     rotate_left
     ·simp only [Act.put, Qp1, Qp2, Qp3, i64_w, i32_w]
      rfl
     refine pure_ (i := 22) (N := some 74) (v := ?_) (a' := ?_) (Qbz 24 8388607) rfl rfl (by kernel_rfl) (fun _ _ _ h => h) (Or.inl ⟨by rfl, ?_⟩) ?_ ?_
     rotate_left
     ·intro w'
      go_simp
      with_reducible rfl
     rotate_left
     ·simp only [Act.put, Qp1, Qp2, Qp3, i64_w, i32_w]
      rfl
     refine last_ (i := 23) (N := none) (Qbz 24 16777215) rfl rfl (by kernel_rfl) (by decide) (fun K hK => ?_)
     refine skip_ (w1 := ?_) (by rfl) rfl ?_ ?_
     rotate_left
     ·go_simp
      rfl
     refine hK.out _ _ ?_
     clear hK K
     refine done_ (by kernel_rfl) ?_
     go_wp2
     go_roundg gi
     case measure => omega
     case rel => exact ⟨i + 1, C.set i bz, by go_num, by omega, HM2, ⟨(HW10.out.below gB).mark i bz⟩, ⟨(below_then HB11.out hHw gB).setCell hHc _⟩⟩
    ·have HM2 : Aside0 (marksO E g2 gi (i + 1) (C.set i true) = CF) := ⟨by simpa using hm⟩
     clear hm
     go_wp2_with (fail)
     refine start_ (n := 24) (S := fun w' => w'.cell? ⟨p, 1, none⟩ = some (.slice (some ⟨gc, 0, none⟩) E.length cc) ∧ w'.cell? ⟨gc, i, none⟩ = some (.bool true) ∧ w'.frozen? ⟨gc, i, none⟩ = false) (ds := [23]) (Qbz 24 0) (by kernel_rfl) rfl rfl ⟨f1d, f3d, fzd⟩ (fun hHeld => ?_)
     refine pure_ (i := 0) (N := some 52) (v := ?_) (a' := ?_) (Qbz 24 1) rfl rfl (by kernel_rfl) (fun _ _ _ h => h) (Or.inl ⟨by rfl, ?_⟩) ?_ ?_
     rotate_left
     ·intro w'
      go_simp
      with_reducible rfl
     rotate_left
     ·simp only [Act.put, Qp1, Qp2, Qp3, i64_w, i32_w]
      rfl
     refine pure_ (i := 1) (N := some 53) (v := ?_) (a' := ?_) (Qbz 24 3) rfl rfl (by kernel_rfl) (fun _ _ _ h => h) (Or.inl ⟨by rfl, ?_⟩) ?_ ?_
     rotate_left
     ·intro w'
      go_simp
      with_reducible rfl
     rotate_left
     ·simp only [Act.put, Qp1, Qp2, Qp3, i64_w, i32_w]
      rfl
     refine pure_ (i := 2) (N := some 54) (v := ?_) (a' := ?_) (Qbz 24 7) rfl rfl (by kernel_rfl) (fun _ _ _ h => h) (Or.inl ⟨by rfl, ?_⟩) ?_ ?_
     rotate_left
     ·intro w'
      go_simp
      with_reducible rfl
     rotate_left
     ·simp only [Act.put, Qp1, Qp2, Qp3, i64_w, i32_w]
      rfl
     refine pure_ (i := 4) (N := some 56) (v := ?_) (a' := ?_) (Qbz 24 23) rfl rfl (by kernel_rfl) (fun _ _ _ h => h) (Or.inl ⟨by rfl, ?_⟩) ?_ ?_
     rotate_left
     ·intro w'
      go_simp
      with_reducible rfl
     rotate_left
     ·simp only [Act.put, Qp1, Qp2, Qp3, i64_w, i32_w]
      rfl
     refine pure_ (i := 5) (N := some 57) (v := ?_) (a' := ?_) (Qbz 24 55) rfl rfl (by kernel_rfl) (fun _ _ _ h => h) (Or.inl ⟨by rfl, ?_⟩) ?_ ?_
     rotate_left
     ·intro w'
      go_simp
      with_reducible rfl
     rotate_left
     ·simp only [Act.put, Qp1, Qp2, Qp3, i64_w, i32_w]
      rfl
     refine pure_ (i := 6) (N := some 58) (v := ?_) (a' := ?_) (Qbz 24 119) rfl rfl (by kernel_rfl) (fun _ _ _ h => h) (Or.inl ⟨by rfl, ?_⟩) ?_ ?_
     rotate_left
     ·intro w'
      go_simp
      with_reducible rfl
     rotate_left
     ·simp only [Act.put, Qp1, Qp2, Qp3, i64_w, i32_w]
      rfl
     refine pure_ (i := 7) (N := some 59) (v := ?_) (a' := ?_) (Qbz 24 247) rfl rfl (by kernel_rfl) (fun _ _ _ h => h) (Or.inl ⟨by rfl, ?_⟩) ?_ ?_
     rotate_left
     ·intro w'
      go_simp
      with_reducible rfl
     rotate_left
     ·simp only [Act.put, Qp1, Qp2, Qp3, i64_w, i32_w]
      rfl
     refine pure_ (i := 9) (N := some 61) (v := ?_) (a' := ?_) (Qbz 24 759) rfl rfl (by kernel_rfl) (fun _ _ _ h => h) (Or.inl ⟨by rfl, ?_⟩) ?_ ?_
     rotate_left
     ·intro w'
      go_simp
      with_reducible rfl
     rotate_left
     ·simp only [Act.put, Qp1, Qp2, Qp3, i64_w, i32_w]
      rfl
     refine take_ (i := 3) (N := some 55) (v := ?_) (a' := ?_) (Qbz 24 767) rfl rfl (by kernel_rfl) (fun _ _ _ h => h) (Or.inl ⟨by rfl, ?_⟩) hHeld ?_ ?_
     rotate_left
     ·rintro w' ⟨s0, s1, s2⟩
      go_simp
      with_reducible rfl
     rotate_left
     ·simp only [Act.put, Qp1, Qp2, Qp3, i64_w, i32_w]
      rfl
     refine take_ (i := 8) (N := some 60) (v := ?_) (a' := ?_) (Qbz 24 1023) rfl rfl (by kernel_rfl) (fun _ _ _ h => h) (Or.inl ⟨by rfl, ?_⟩) hHeld ?_ ?_
     rotate_left
     ·rintro w' ⟨s0, s1, s2⟩
      go_simp
      with_reducible rfl
     rotate_left
     ·simp only [Act.put, Qp1, Qp2, Qp3, i64_w, i32_w]
      rfl
     refine pure_ (i := 10) (N := some 62) (v := ?_) (a' := ?_) (Qbz 24 2047) rfl rfl (by kernel_rfl) (fun _ _ _ h => h) (Or.inl ⟨by rfl, ?_⟩) ?_ ?_
     rotate_left
     ·intro w'
      go_simp
      with_reducible rfl
     rotate_left
     ·simp only [Act.put, Qp1, Qp2, Qp3, i64_w, i32_w]
      rfl
     refine take_ (i := 11) (N := some 63) (v := ?_) (a' := ?_) (Qbz 24 4095) rfl rfl (by kernel_rfl) (fun _ _ _ h => h) (Or.inl ⟨by rfl, ?_⟩) hHeld ?_ ?_
     rotate_left
     ·rintro w' ⟨s0, s1, s2⟩
      go_simp
      with_reducible rfl
     rotate_left
     ·simp only [Act.put, Qp1, Qp2, Qp3, i64_w, i32_w]
      rfl
     refine pure_ (i := 12) (N := some 64) (v := ?_) (a' := ?_) (Qbz 24 8191) rfl rfl (by kernel_rfl) (fun _ _ _ h => h) (Or.inl ⟨by rfl, ?_⟩) ?_ ?_
     rotate_left
     ·intro w'
      go_simp
      with_reducible rfl
     rotate_left
     ·simp only [Act.put, Qp1, Qp2, Qp3, i64_w, i32_w]
      rfl
     refine pure_ (i := 13) (N := some 65) (v := undef) (a' := ?_) (Qbz 24 16383) rfl rfl (by kernel_rfl) (fun _ _ _ h => h) (Or.inr ⟨by rfl, rfl⟩) ?_ ?_
     rotate_left
     ·simp only [Act.put, Qp1, Qp2, Qp3, i64_w, i32_w]
      rfl
     refine pure_ (i := 14) (N := some 66) (v := undef) (a' := ?_) (Qbz 24 32767) rfl rfl (by kernel_rfl) (fun _ _ _ h => h) (Or.inr ⟨by rfl, rfl⟩) ?_ ?_
     rotate_left
     ·simp only [Act.put, Qp1, Qp2, Qp3, i64_w, i32_w]
      rfl
     refine pure_ (i := 15) (N := some 67) (v := undef) (a' := ?_) (Qbz 24 65535) rfl rfl (by kernel_rfl) (fun _ _ _ h => h) (Or.inr ⟨by rfl, rfl⟩) ?_ ?_
     rotate_left
     ·simp only [Act.put, Qp1, Qp2, Qp3, i64_w, i32_w]
      rfl
     refine pure_ (i := 16) (N := some 68) (v := undef) (a' := ?_) (Qbz 24 131071) rfl rfl (by kernel_rfl) (fun _ _ _ h => h) (Or.inr ⟨by rfl, rfl⟩) ?_ ?_
     rotate_left
     ·simp only [Act.put, Qp1, Qp2, Qp3, i64_w, i32_w]
      rfl
     refine pure_ (i := 17) (N := some 69) (v := undef) (a' := ?_) (Qbz 24 262143) rfl rfl (by kernel_rfl) (fun _ _ _ h => h) (Or.inr ⟨by rfl, rfl⟩) ?_ ?_
     rotate_left
     ·simp only [Act.put, Qp1, Qp2, Qp3, i64_w, i32_w]
      rfl
     refine pure_ (i := 18) (N := some 70) (v := undef) (a' := ?_) (Qbz 24 524287) rfl rfl (by kernel_rfl) (fun _ _ _ h => h) (Or.inr ⟨by rfl, rfl⟩) ?_ ?_
     rotate_left
     ·simp only [Act.put, Qp1, Qp2, Qp3, i64_w, i32_w]
      rfl
     refine pure_ (i := 19) (N := some 71) (v := undef) (a' := ?_) (Qbz 24 1048575) rfl rfl (by kernel_rfl) (fun _ _ _ h => h) (Or.inr ⟨by rfl, rfl⟩) ?_ ?_
     rotate_left
     ·simp only [Act.put, Qp1, Qp2, Qp3, i64_w, i32_w]
      rfl
     refine pure_ (i := 20) (N := some 72) (v := undef) (a' := ?_) (Qbz 24 2097151) rfl rfl (by kernel_rfl) (fun _ _ _ h => h) (Or.inr ⟨by rfl, rfl⟩) ?_ ?_
     rotate_left
     ·simp only [Act.put, Qp1, Qp2, Qp3, i64_w, i32_w]
      rfl
     refine pure_ (i := 21) (N := some 73) (v := ?_) (a' := ?_) (Qbz 24 4194303) rfl rfl (by kernel_rfl) (fun _ _ _ h => h) (Or.inl ⟨by rfl, ?_⟩) ?_ ?_
     rotate_left
     ·intro w'
      go_simp
      with_reducible rfl
     rotate_left
     ·simp only [Act.put, Qp1, Qp2, Qp3, i64_w, i32_w]
      rfl
     refine pure_ (i := 22) (N := some 74) (v := ?_) (a' := ?_) (Qbz 24 8388607) rfl rfl (by kernel_rfl) (fun _ _ _ h => h) (Or.inl ⟨by rfl, ?_⟩) ?_ ?_
     rotate_left
     ·intro w'
      go_simp
      with_reducible rfl
     rotate_left
     ·simp only [Act.put, Qp1, Qp2, Qp3, i64_w, i32_w]
      rfl
     refine last_ (i := 23) (N := none) (Qbz 24 16777215) rfl rfl (by kernel_rfl) (by decide) (fun K hK => ?_)
     refine skip_ (w1 := ?_) (by rfl) rfl ?_ ?_
     rotate_left
     ·go_simp
      rfl
     refine hK.out _ _ ?_
     clear hK K
     refine done_ (by kernel_rfl) ?_
     go_wp2
     go_roundg gi
     case measure => omega
     case rel => exact ⟨i + 1, C.set i true, by go_num, by omega, HM2, ⟨WAt.drew (HW10.out.mark i true)⟩, ⟨below_drew (HB11.out.setCell hHc _)⟩⟩
   ·have hi1 : ((i : Int) < (E.length : Int)) = False := eq_false (by omega)
    have hi2 : decide ((i : Int) < (E.length : Int)) = false := decide_eq_false (by omega)
    obtain rfl : gk = 0 := by omega
    obtain rfl : C = CF := HM.out
    clear HM
    go_wp2
    obtain ⟨FIN, hFIN⟩ : ∃ r, spAll E g2 (E.length + 1) (C, s.bk) = r := ⟨_, rfl⟩
    have HRR : Aside0 (some (⟨g2, h2, FIN.2, FIN.1⟩ : OS) = R) := ⟨by
     have := HR.out
     unfold stepO at this
     rw [HG2.out, HH2.out, HCF0.out, hFIN] at this
     exact this⟩
    have HFIN := Aside0.mk hFIN
    have hCl := HW.out.len
    dsimp only at hCl
    have HCT : Aside0 (cntT C < E.length + 1) := ⟨by have := cntT_le C; omega⟩
    clear hFIN HR HCF0
    go_loopg [77] (E.length + 1) (fun kq v77 w' => ∃ (C : List Bool) (b : Bool), Aside0 (spAll E g2 kq (C, b) = FIN ∧ cntT C < kq) ∧ Aside0 (WAt w' p gc cc A cE ad E ⟨g2, h2, b, C⟩) ∧ Aside0 (Below H w w'))
    case atStart => exact ⟨C, s.bk, ⟨HFIN.out, HCT.out⟩, HW, HB⟩
    case round =>
     clear HFIN HCT HW HB hCl
     obtain ⟨C2, b2, HM, HW, HB⟩ := hrel
     cases gk with
     | zero => exact absurd HM.out.2 (by omega)
     | succ gi =>
     have hm := HM.out.1
     have hct := HM.out.2
     rw [spAll] at hm
     obtain ⟨RO, hRO⟩ : ∃ r, spOut E g2 C2 E.length 0 = r := ⟨_, rfl⟩
     dsimp only at hm
     rw [hRO] at hm
     have HSP := Aside0.mk (spread_calls p gc cc A cE ad E ⟨g2, h2, b2, C2⟩ hE HE2.out hg2 H hHp hHc RO hRO wr (by have := HB.out.size; omega) HW.out)
     cases RO with
     | none =>
      dsimp only at hm
      subst hm
      clear hRO hct HM
      go_wp2_with (go_at_call 79; refine HSP.out.mono ?_; rintro e w3 ⟨rfl, hw3, hb3⟩)
      go_ret
      rw [← HRR.out]
      exact ⟨rfl, hw3, HB.out.trans hb3⟩
     | some j =>
      dsimp only at hm
      have hlt := cntT_lt C2 j (spOut_true E g2 C2 _ _ _ hRO)
      have HM2 : Aside0 (spAll E g2 gi (C2.set j false, true) = FIN ∧ cntT (C2.set j false) < gi) := ⟨hm, by omega⟩
      clear hRO hct HM hm hlt
      go_wp2_with (go_at_call 79; refine HSP.out.mono ?_; rintro e w3 ⟨rfl, hw3, hb3⟩; have HW3 := Aside0.mk hw3; have HB3 := Aside0.mk (HB.out.trans hb3); have fz4 := blk_frozen hw3.blk 4; have hc4 : w3.cell? ⟨p, 4, none⟩ = some (.bool b2) := (blk_cell hw3.blk 4).trans rfl; clear hw3 hb3)
      go_roundg gi
      case measure => omega
      case rel => exact ⟨C2.set j false, true, HM2, ⟨WAt.field (s := ⟨g2, h2, b2, C2.set j false⟩) (s2 := ⟨g2, h2, true, C2.set j false⟩) (j := 4) (v := .bool true) HW3.out rfl rfl⟩, ⟨HB3.out.setCell hHp _⟩⟩
end Go.Proofs.YtijfddobandcdaaDoor.X
end
section
/- (town).watch, by hand: the streets of a town. -/
namespace Go.Proofs.YtijfddobandcdaaDoor.X
open Go.RowKit Go.Shelf YtijfddobandcdaaDoorW.PrintWords YtijfddobandcdaaDoorW.PrintLast YtijfddobandcdaaDoorW.PrintMore YtijfddobandcdaaDoor.T
attribute [local go_sem] Oper.semAt_some
theorem info117 : (Tryd.prog.info? 117).map (fun i => (i.zero, i.size, i.bytes)) = some (some (.agg #[(.int .i64 0), (.int .i64 0)]), 2, 16) := by kernel_rfl
theorem startR_ {P : Program} {ops : Array Oper} {Q : Exit → Act → World → Prop} {S : World → Prop} {ds : List Nat} {l m : Nat} {id n : Nat} {a : Act} {w : World} (h1 : 1 ≤ m) (hd : noDefer ops = true) (hQ : ¬ LetsOut Q) (ls : Array Bool) (hm : P.follows .mixedOrders = true) (hn : ops.size = n) (hl : Array.replicate n false = ls) (hS : S w.drew)
  (h : S w.drew → wpAnyLast P .any ops Q S ds n ls a w.drew) : (Code.region id ops true).wpIn (Fence.wide.inRound l) m P Q a w := by
 subst hn
 subst hl
 exact region_round h1 hm hd hQ (wpAny_of_last _ _ _ _ (h hS))
def onlyN (Q : Exit → Act → World → Prop) : Exit → Act → World → Prop
 | .normal, a, w => Q .normal a w
 | _, _, _ => False
theorem onlyN_n {Q : Exit → Act → World → Prop} {a : Act} {w : World} (h : Q .normal a w) : onlyN Q .normal a w := h
theorem wpOpW_of_wpOp {n : Nat} (h1 : 1 ≤ n) {P : Program} {ops : Array Oper} {Q : Exit → Act → World → Prop} (hd : noDefer ops = true) (i : Nat) (K K' : Act → World → Prop) (hK : ∀ a w, K a w → K' a w) (a : Act) (w : World)
  (h : wpOp P ops (onlyN Q) i K a w) : wpOpIn Fence.wide n P ops Q i K' a w := by
 unfold wpOp at h
 unfold wpOpIn
 cases ho : ops[i]? with
 | none => rw [ho] at h; exact hK _ _ h
 | some o =>
  rw [ho] at h
  simp only at h ⊢
  split at h
  ·rename_i hw
   rw [if_pos hw]
   refine ⟨fun _ _ => trivial, ?_⟩
   have hno : ∀ c, o.op ≠ .defer c := fun c hc => by
    unfold noDefer at hd
    rw [Array.all_eq_true] at hd
    obtain ⟨hi, he⟩ := Array.getElem?_eq_some_iff.1 ho
    have := hd i hi
    rw [he, hc] at this
    cases this
   rw [Oper.semAt_eq _ _ _ hno]
   rcases h with h | ⟨_, h⟩
   ·unfold Oper.wp at h
    generalize (execOp a.eval o).run P w = r at h
    cases r with
    | ok x w' =>
     cases x with
     | value v => exact hK _ _ h
     | skip => exact hK _ _ h
     | defer d => exact hK _ _ h
     | enter f args =>
      refine ⟨fun _ => h1, callsIn_wide.2 (Calls.mono h ?_)⟩
      intro e w2 h2
      cases e with
      | returned v => exact hK _ _ h2
      | panicked ch => exact h2.elim
      | outgrown => exact (by obtain ⟨_, _, h3⟩ := h2; exact h3 : False).elim
     | row r args =>
      exact ⟨fun _ => h1, fun c cs _ => let ⟨v, w2, h2, s⟩ := h c cs; ⟨v, w2, hK _ _ h2, stepsIn_wide.2 s⟩⟩
     | _ => exact h.elim
    | halt x w' =>
     cases x with
     | panic v => exact h.elim
     | _ => exact h.elim
   ·exact (by obtain ⟨_, _, h⟩ := h; exact h : False).elim
  ·rename_i hw
   rw [if_neg hw]
   exact ⟨fun _ _ => trivial, hK _ _ h⟩
theorem wpAnyW_of_wpAny {n : Nat} (h1 : 1 ≤ n) {P : Program} {md : Region.Mode} {ops : Array Oper} {Q : Exit → Act → World → Prop} (hd : noDefer ops = true) : ∀ (fuel : Nat) (listed : Array Bool) (a : Act) (w : World),
  wpAny P md ops (onlyN Q) fuel listed a w → wpAnyIn Fence.wide n P md ops Q fuel listed a w := by
 intro fuel
 induction fuel with
 | zero => exact fun _ _ _ h => h
 | succ fuel ih => exact fun _ _ _ h => ⟨h.1, fun i hi => wpOpW_of_wpOp h1 hd i _ _ (fun a w hk => ih _ a w hk) _ _ (h.2 i hi)⟩
theorem startW_ {P : Program} {ops : Array Oper} {Q : Exit → Act → World → Prop} {S : World → Prop} {ds : List Nat} {m : Nat} {id n : Nat} {a : Act} {w : World} (h1 : 1 ≤ m) (hd : noDefer ops = true) (ls : Array Bool) (hm : P.follows .mixedOrders = true) (hn : ops.size = n) (hl : Array.replicate n false = ls) (hS : S w.drew)
  (h : S w.drew → wpAnyLast P .any ops (onlyN Q) S ds n ls a w.drew) : (Code.region id ops true).wpIn Fence.wide m P Q a w := by
 subst hn
 subst hl
 exact wpIn_region_any hm (wpAnyW_of_wpAny h1 hd _ _ _ _ (wpAny_of_last _ _ _ _ (h hS)))
def flatE : List (Nat × Nat) → List Value
 | [] => []
 | p :: l => .int .i64 (p.1 : Int) :: .int .i64 (p.2 : Int) :: flatE l
theorem flatE_snoc : ∀ (l : List (Nat × Nat)) (p : Nat × Nat), flatE (l ++ [p]) = flatE l ++ [.int .i64 (p.1 : Int), .int .i64 (p.2 : Int)]
 | [], _ => rfl
 | q :: l, p => by simp only [List.cons_append, flatE]; rw [flatE_snoc l p]
theorem flatE_at : ∀ (l : List (Nat × Nat)) (i : Nat), i < l.length → (flatE l)[i * 2]? = some (.int .i64 ((l.getD i (0, 0)).1 : Nat)) ∧ (flatE l)[i * 2 + 1]? = some (.int .i64 ((l.getD i (0, 0)).2 : Nat))
 | [], i, h => by simp at h
 | p :: l, 0, _ => by simp [flatE]
 | p :: l, i + 1, h => by
  have := flatE_at l i (by simpa using h)
  rw [show (i + 1) * 2 = i * 2 + 2 by omega]
  simp only [flatE, List.getElem?_cons_succ, List.getD_cons_succ]
  exact this
theorem own_streets {W : World} {H : Nat} {v : Value} {xs : List (Nat × Nat)} (h : W.ownsRow H 117 2 v xs.length (flatE xs)) : ∃ A cE ad, v = .slice A xs.length cE ∧ (0 < xs.length → A = some ad ∧ v.ownBlock = some ad.block) ∧ ∀ i, i < xs.length → W.cell? (ad.add (i * 2)) = some (.int .i64 ((xs.getD i (0, 0)).1 : Nat)) ∧ W.cell? ⟨(ad.add (i * 2)).block, (ad.add (i * 2)).off + 1, none⟩ = some (.int .i64 ((xs.getD i (0, 0)).2 : Nat)) := by
 obtain ⟨hl, h | ⟨g, cap, cur, rfl, hb, hg, h1, h2, h3, h4⟩⟩ := h
 ·obtain ⟨rfl, h0⟩ := h
  exact ⟨none, 0, ⟨0, 0, none⟩, by rw [h0], fun hn => by omega, fun i hi => by omega⟩
 ·have hc : ∀ j u, (flatE xs)[j]? = some u → W.cell? ⟨g, j, none⟩ = some u := fun j u hu => by
   rw [blk_cell hg]
   rw [← h4, List.getElem?_take] at hu
   split at hu
   ·simpa using hu
   ·cases hu
  refine ⟨_, cap, ⟨g, 0, none⟩, rfl, fun _ => ⟨rfl, rfl⟩, fun i hi => ?_⟩
  obtain ⟨q1, q2⟩ := flatE_at xs i hi
  rw [Addr.add_lit, Nat.zero_add]
  exact ⟨hc _ _ q1, hc _ _ q2⟩
structure FIW (w : World) (G : List Nat) (W : World) (i : Nat) (xs : List (Nat × Nat)) (v : Value) (ds : List Deferred) : Prop where
 go : xs ++ esFrom G (G.length - i) i = streets G
 below : Below w.heap.size w W
 q : Boxed W (w.heap.size + 1) 97 (.pointer (some ⟨w.heap.size, 0, none⟩))
 blk : W.heap[w.heap.size]? = some (.cells #[v, .slice none 0 0, .int .i64 0, .int .i64 0, .bool false] 102 (0, 0))
 own : W.ownsRow (w.heap.size + 2) 117 2 v xs.length (flatE xs)
 marks : Marks w.heap.size W.heap.size ds W
 top : w.heap.size + 2 ≤ W.heap.size
structure FKW (w : World) (aB c a : Nat) (tgt : List (Nat × Nat)) (ds : List Deferred) (z : Nat) (V : World) (xs : List (Nat × Nat)) (v : Value) : Prop where
 go : xs ++ esOf a z = tgt
 below : Below w.heap.size w V
 q : Boxed V (w.heap.size + 1) 97 (.pointer (some ⟨w.heap.size, 0, none⟩))
 blk : V.heap[w.heap.size]? = some (.cells #[v, .slice none 0 0, .int .i64 0, .int .i64 0, .bool false] 102 (0, 0))
 own : V.ownsRow (w.heap.size + 2) 117 2 v xs.length (flatE xs)
 ab : Boxed V aB 3 (.int .i64 (a : Int))
 apart : ∀ b, v.ownBlock = some b → b ≠ c
 marks : Marks w.heap.size c ds V
 top : c < V.heap.size
theorem cells_new2 (W : World) (cs : List Value) (e : TypeId) (j : Nat) (u : Value) (hu : cs[j]? = some u) : (W.alloc (.cells cs.toArray e)).cell? ((⟨W.heap.size, 0, none⟩ : Addr).add j) = some u := by
 rw [Addr.add_lit, Nat.zero_add]
 unfold World.cell?
 rw [show (W.alloc (.cells cs.toArray e)).heap[(⟨W.heap.size, j, none⟩ : Addr).block]? = _ from World.alloc_heap_new W _]
 simpa using hu
theorem own_ne_t {W : World} {base g : Nat} {e t : TypeId} {size : Nat} {v : Value} {k : Nat} {xs : List Value} {cs : Array Value} {fz : Nat × Nat} (h : W.ownsRow base e size v k xs) (hb : W.heap[g]? = some (.cells cs t fz)) (hne : e ≠ t) : some g ≠ v.ownBlock := by
 rcases h.2 with ⟨rfl, _⟩ | ⟨g2, cap, cur, rfl, _, hg, _⟩
 ·simp [Value.ownBlock]
 ·intro e2
  obtain rfl : g = g2 := by simpa [Value.ownBlock] using e2
  rw [hg] at hb
  injection hb with hb
  injection hb with _ h2
  exact hne h2
theorem FKW.kept {w : World} {aB c a : Nat} {tgt : List (Nat × Nat)} {ds : List Deferred} {z : Nat} {V V2 : World} {xs : List (Nat × Nat)} {v : Value} {row : Option Nat} (h : FKW w aB c a tgt ds z V xs v) (h2 : w.heap.size + 2 ≤ aB) (h3 : aB < c) (hg : V.grownBy V2 row) (hr : ∀ r, row = some r → w.heap.size ≤ r ∧ (r = c ∨ c < r ∧ ∃ o : Obj, V.heap[r]? = some o ∧ o.isCells = false)) : FKW w aB c a tgt ds z V2 xs v := by
 have ne : ∀ b, b < c → some b ≠ row := fun b hb e => by
  obtain ⟨_, h | ⟨h, _⟩⟩ := hr b e.symm <;> omega
 refine ⟨h.go, h.below.grown hg h.below.size (fun k e => (hr k e).1), h.q.kept hg (ne _ (by omega)), (hg.block _ (by have := h.top; omega) (ne _ (by omega))).trans h.blk, own_kept h.own hg (fun b hb e => ?_), h.ab.kept hg (ne _ h3), h.apart, h.marks.low (fun D hD => hg.block D (by have := h.top; omega) (ne D hD)), Nat.lt_of_lt_of_le h.top hg.size⟩
 obtain ⟨_, h4 | ⟨_, o2, ho2, hc2⟩⟩ := hr b e.symm
 ·exact h.apart b hb h4
 ·rw [own_cell h.own b hb o2 ho2] at hc2
  cases hc2
theorem FKW.alloc {w : World} {aB c a : Nat} {tgt : List (Nat × Nat)} {ds : List Deferred} {z : Nat} {V : World} {xs : List (Nat × Nat)} {v : Value} (h : FKW w aB c a tgt ds z V xs v) (h2 : w.heap.size + 2 ≤ aB) (h3 : aB < c) (o : Obj) : FKW w aB c a tgt ds z (V.alloc o) xs v :=
 h.kept h2 h3 (World.grownBy_alloc V o none) (fun r e => by cases e)
theorem FKW.drew {w : World} {aB c a : Nat} {tgt : List (Nat × Nat)} {ds : List Deferred} {z : Nat} {V : World} {xs : List (Nat × Nat)} {v : Value} (h : FKW w aB c a tgt ds z V xs v) : FKW w aB c a tgt ds z V.drew xs v :=
 ⟨h.go, h.below.drew, h.q, h.blk, h.own, h.ab, h.apart, Marks.low (W := V) (V := V.drew) (fun _ _ => rfl) h.marks, h.top⟩
theorem FKW.pcell {w : World} {aB c a : Nat} {tgt : List (Nat × Nat)} {ds : List Deferred} {z : Nat} {V : World} {xs : List (Nat × Nat)} {v : Value} (h : FKW w aB c a tgt ds z V xs v) : V.cell? ⟨w.heap.size, 0, none⟩ = some v := (blk_cell h.blk 0).trans rfl
theorem FKW.appended {w : World} {aB c a y : Nat} {tgt : List (Nat × Nat)} {ds : List Deferred} {z z2 : Nat} {V w5 : World} {xs : List (Nat × Nat)} {v : Value} {o : Obj} {g2 cp2 : Nat} (h : FKW w aB c a tgt ds z V xs v) (h2 : w.heap.size + 2 ≤ aB) (h3 : aB < c) (hgo : (xs ++ [(a, y)]) ++ esOf a z2 = tgt)
  (hown : w5.ownsRow (w.heap.size + 2) 117 2 (.slice (some ⟨g2, 0, none⟩) (xs.length + 1) cp2) (xs.length + 1) (flatE xs ++ [.int .i64 (a : Int), .int .i64 (y : Int)])) (hg : (V.alloc o).grownBy w5 v.ownBlock) (hat : v.ownBlock = some g2 ∨ g2 = V.heap.size + 1) :
  KeepsOthers V (w5.setCell ⟨w.heap.size, 0, none⟩ (.slice (some ⟨g2, 0, none⟩) (xs.length + 1) cp2)) ∧ (w5.setCell ⟨w.heap.size, 0, none⟩ (.slice (some ⟨g2, 0, none⟩) (xs.length + 1) cp2)).heap[c]? = V.heap[c]? ∧
  FKW w aB c a tgt ds z2 (w5.setCell ⟨w.heap.size, 0, none⟩ (.slice (some ⟨g2, 0, none⟩) (xs.length + 1) cp2)) (xs ++ [(a, y)]) (.slice (some ⟨g2, 0, none⟩) (xs.length + 1) cp2) := by
 have htop := h.top
 have hgz := hg.size
 have hvH : ∀ b, v.ownBlock = some b → w.heap.size + 2 ≤ b := own_base h.own
 have hg2 : w.heap.size + 2 ≤ g2 := by
  have := own_base hown g2 rfl
  omega
 have hk5 : ∀ b, b < V.heap.size → some b ≠ v.ownBlock → w5.heap[b]? = V.heap[b]? := fun b hb hne => (hg.block b (by simp; omega) hne).trans (Below.heap_alloc _ _ _ hb)
 have hk : ∀ b, b < V.heap.size → some b ≠ v.ownBlock → b ≠ w.heap.size → (w5.setCell ⟨w.heap.size, 0, none⟩ (.slice (some ⟨g2, 0, none⟩) (xs.length + 1) cp2)).heap[b]? = V.heap[b]? := fun b hb hne hp => (Below.heap_setCell w5 ⟨w.heap.size, 0, none⟩ _ b hp).trans (hk5 b hb hne)
 have hcne : some c ≠ v.ownBlock := fun e => h.apart c e.symm rfl
 have hK : KeepsOthers V (w5.setCell ⟨w.heap.size, 0, none⟩ (.slice (some ⟨g2, 0, none⟩) (xs.length + 1) cp2)) := by
  refine ((KeepsOthers.alloc V o).trans (KeepsOthers.of_grownBy hg fun j o2 ej hj => ?_)).trans (KeepsOthers.setCell _ _ _)
  exact own_cell (h.own.alloc o) j ej o2 hj
 refine ⟨hK, hk c htop hcne (by omega), hgo, ?_, ?_, ?_, ?_, ?_, fun b hb => ?_, h.marks.others hK, Nat.lt_of_lt_of_le htop hK.size⟩
 ·refine Below.setCell (p := ⟨w.heap.size, 0, none⟩) ((below_alloc h.below o).grown hg (by have := h.below.size; simp; omega) (fun k e => ?_)) (Nat.le_refl _) _
  have := hvH k e
  omega
 ·exact (hk _ (by omega) (own_ne_t h.own h.q (by decide)) (by omega)).trans h.q
 ·have := blk_set ((hk5 w.heap.size (by omega) (own_ne_t h.own h.blk (by decide))).trans h.blk) 0 (.slice (some ⟨g2, 0, none⟩) (xs.length + 1) cp2)
  rw [this]
  rfl
 ·rw [List.length_append, flatE_snoc]
  exact own_kept hown (grownBy_set _ ⟨w.heap.size, 0, none⟩ _) (fun b hb e => by
   obtain rfl : g2 = b := by simpa [Value.ownBlock] using hb
   have e2 : g2 = w.heap.size := Option.some.inj e
   omega)
 ·exact (hk _ (by omega) (own_ne_t h.own h.ab (by decide)) (by omega)).trans h.ab
 ·obtain rfl : g2 = b := by simpa [Value.ownBlock] using hb
  rcases hat with e | e
  ·exact h.apart g2 e
  ·omega
set_option maxHeartbeats 8000000 in
set_option maxRecDepth 100000 in
theorem watch_calls (A0 : Option Addr) (c0 : Nat) (G : List Nat) (hG : Gr 7 G) (hc0 : G.length ≤ c0) (w : World) (hGL : GL w) (hr0 : Kd.C (Kd.int .i64) w A0 (gi G).length (gi G)) :
  Calls Tryd.prog 64 #[.slice A0 G.length c0] w fun e w' => ∃ gc A cE ad, e = .returned (.pointer (some ⟨w.heap.size, 0, none⟩)) ∧ WAt w' w.heap.size gc (streets G).length A cE ad (streets G) (o0 (streets G)) ∧ w.heap.size ≤ gc ∧ Below w.heap.size w w' := by
 have hn := hG.most
 have HG := Aside0.mk hG
 have HR := Aside0.mk hr0
 have HL := Aside0.mk (gi_length G)
 clear hr0 hG
 obtain ⟨i8, hi8, hy0, hy1, hy2⟩ := info_parts info117
 refine (callsIn_wide (n := 4)).1 ?_
 refine callsIn_of_wp_marks Tryd.func64 rfl trivial ?_ rfl
 simp only [Tryd.ntmps64, List.size_toArray, List.length_cons, List.length_nil, Nat.reduceAdd, Nat.reduceSub, Array.replicate_succ, Array.replicate_zero, List.push_toArray, List.append_toArray, List.nil_append, List.cons_append]
 gi_wp2
 have hW0 : FIW w G ((w.alloc (.cells #[.slice none 0 0, .slice none 0 0, .int .i64 0, .int .i64 0, .bool false] 102)).alloc (.cells #[.pointer (some ⟨w.heap.size, 0, none⟩)] 97)) 0 [] (.slice none 0 0) [] := by
  refine ⟨by simp [streets], below_alloc (below_alloc (Below.refl _ _) _) _, ?_, ?_, World.ownsRow_nil _ _ _ _, trivial, by simp⟩
  ·simpa using Boxed.new (w.alloc (.cells #[.slice none 0 0, .slice none 0 0, .int .i64 0, .int .i64 0, .bool false] 102)) 97 (.pointer (some ⟨w.heap.size, 0, none⟩))
  ·exact (Below.heap_alloc _ _ _ (by simp)).trans (World.alloc_heap_new w _)
 obtain ⟨Inv, hInv⟩ : ∃ Inv : Act → World → Prop, Inv = (fun a W => ∃ (u4 u5 u6 u12 u13 u14 u15 u16 u17 u18 u19 u20 u21 u22 u23 u24 u25 u26 u27 u28 u29 u30 u31 u32 u33 u34 u35 u36 u37 u38 u39 u40 u41 u42 u43 u44 : Value) (ds : List Deferred) (i : Nat) (xs : List (Nat × Nat)) (v : Value), a = { tmps := #[.slice A0 G.length c0, undef, .pointer none, .pointer (some ⟨w.heap.size + 1, 0, none⟩), u4, u5, u6, .agg #[.slice none 0 0, .slice none 0 0, .int .i64 0, .int .i64 0, .bool false], .pointer (some ⟨w.heap.size, 0, none⟩), .slice A0 G.length c0, .int .i64 (G.length : Int), .int .i64 (i : Int), u12, u13, u14, u15, u16, u17, u18, u19, u20, u21, u22, u23, u24, u25, u26, u27, u28, u29, u30, u31, u32, u33, u34, u35, u36, u37, u38, u39, u40, u41, u42, u43, u44], defers := ds } ∧ FIW w G W i xs v ds) := ⟨_, rfl⟩
 obtain ⟨Me, hMe⟩ : ∃ Me : Act → World → Nat, Me = (fun a _ => match a.tmps.getD 11 undef with | .int _ z => G.length - z.toNat | _ => 0) := ⟨_, rfl⟩
 have HInv := Aside0.mk hInv
 have HMe := Aside0.mk hMe
 clear hInv hMe
 refine wpIn_loop Inv Me ?_ ?_
 ·rw [HInv.out]
  iterate 36 apply Exists.intro
  exact ⟨[], 0, [], .slice none 0 0, rfl, hW0⟩
 ·intro a W hIa
  rw [HInv.out] at hIa
  obtain ⟨u4, u5, u6, u12, u13, u14, u15, u16, u17, u18, u19, u20, u21, u22, u23, u24, u25, u26, u27, u28, u29, u30, u31, u32, u33, u34, u35, u36, u37, u38, u39, u40, u41, u42, u43, u44, ds, i, xs, v, rfl, hJ⟩ := hIa
  clear hW0
  by_cases hil : i < G.length
  ·have hi1 : ((i : Int) < (G.length : Int)) = True := eq_true (by omega)
   have hi2 : decide ((i : Int) < (G.length : Int)) = true := decide_eq_true (by omega)
   obtain ⟨ad, e0, hgx⟩ := Kd.at_int (Kd.C_below HR.out hJ.below) (i : Int) (by omega) (by rw [gi_length]; omega)
   subst e0
   rw [rd_gi, Int.toNat_natCast] at hgx
   have hrl := HG.out.row i
   have h27 : 2 ^ G.length ≤ 2 ^ 7 := Nat.pow_le_pow_right (by omega) hn
   have hgo := hJ.go
   rw [show G.length - i = (G.length - (i + 1)) + 1 by omega] at hgo
   simp only [esFrom] at hgo
   obtain ⟨s, hs⟩ : ∃ s, G.getD i 0 = s := ⟨_, rfl⟩
   rw [hs] at hgx hgo hrl
   have hs7 : s < 128 := Nat.lt_of_lt_of_le hrl h27
   have HGO := Aside0.mk hgo
   clear hgo hs hrl h27
   gi_wp2_with (refine ⟨trivial, ?_⟩; refine (callsIn_wide.2 (sweep_nodes.calls _ _)).mono ?_; rintro e w' ⟨rfl, rfl⟩)
   have hwz := hJ.below.size
   have hWA : w.heap.size + 2 ≤ W.heap.size := hJ.top
   have HXL : Aside0 ((xs ++ esOf i s).length ≤ 896) := ⟨by
    have h1 := streets_len HG.out
    rw [← HGO.out, ← List.append_assoc, List.length_append] at h1
    omega⟩
   refine range_nodes (by omega) (c := W.heap.size + 1) rfl w hGL (by omega) s (by omega) ?_ (fun z V => ∃ xs2 v2, FKW w W.heap.size (W.heap.size + 1) i (xs ++ esOf i s) ds z V xs2 v2) (fun _ _ => False) (fun z V h => by obtain ⟨_, _, h⟩ := h; exact h.below) ?_ (fun _ _ _ _ h _ _ => h) ?_ (fun x => { tmps := #[.slice (some ad) G.length c0, undef, .pointer none, .pointer (some ⟨w.heap.size + 1, 0, none⟩), .pointer (some ⟨W.heap.size, 0, none⟩), .int .i64 (s : Int), .int .i64 x, .agg #[.slice none 0 0, .slice none 0 0, .int .i64 0, .int .i64 0, .bool false], .pointer (some ⟨w.heap.size, 0, none⟩), .slice (some ad) G.length c0, .int .i64 (G.length : Int), .int .i64 (i : Int), .bool true, .int .i64 (i : Int), .pointer (some (ad.add i)), .int .i64 (s : Int), .int .i64 (s : Int), .func (.func 91) #[] #[.pointer (some ⟨W.heap.size + 1, 0, none⟩)], .int .i64 x, u19, u20, u21, u22, u23, u24, u25, u26, u27, u28, u29, u30, u31, u32, u33, u34, u35, u36, u37, u38, u39, u40, u41, u42, u43, u44], defers := [] }) ?_ ?_ ?_ (fun _ _ _ _ h _ => h.elim)
   ·simpa using Boxed.new (W.alloc (Obj.cells #[Value.int IntKind.i64 (i : Int)] 3)) 3 (.int .i64 (s : Int))
   ·rintro z V V2 row ⟨xs2, v2, hK⟩ hg' hbk
    refine ⟨xs2, v2, hK.kept hWA (by omega) hg' fun r e => ?_⟩
    rcases hbk r e with h | ⟨h, h2⟩
    ·exact ⟨by omega, .inl h⟩
    ·simp at h
     exact ⟨by omega, .inr ⟨by omega, h2⟩⟩
   ·refine ⟨xs, v, rfl, below_alloc (below_alloc hJ.below _) _, (hJ.q.alloc _).alloc _, ?_, (hJ.own.alloc _).alloc _, (Boxed.new W 3 _).alloc _, fun b hb => ?_, hJ.marks.low (fun D hD => ?_) |>.mono (by omega), by simp⟩
    ·exact (Below.heap_alloc _ _ _ (by simp; omega)).trans ((Below.heap_alloc _ _ _ (by omega)).trans hJ.blk)
    ·have := own_lt hJ.own b hb
     omega
    ·exact (Below.heap_alloc _ _ _ (by simp; omega)).trans (Below.heap_alloc _ _ _ (by omega))
   ·intro l x V K hK
    gi_wp2
    exact hK
   ·rintro l z V ⟨xs2, v2, hK⟩ hz hz2
    have hgk := hK.go
    rw [esOf, dif_neg (by omega)] at hgk
    have hac := hK.ab.cell
    generalize Lib.ctz 64 z = y at *
    have hbz := hK.below.size
    have htop := hK.top
    by_cases hlt : i < y
    ·have hl2 : decide ((i : Int) < (y : Int)) = true := decide_eq_true (by omega)
     have hl1 : decide (i < y) = true := decide_eq_true hlt
     rw [if_pos hlt, ← List.append_assoc] at hgk
     have hl3 : xs2.length ≤ 896 := by
      have := HXL.out
      rw [← hgk] at this
      simp only [List.length_append] at this
      omega
     have HGK := Aside0.mk hgk
     have hqd : V.drew.cell? ⟨w.heap.size + 1, 0, none⟩ = some (.pointer (some ⟨w.heap.size, 0, none⟩)) := hK.q.cell
     have hpd : V.drew.cell? ⟨w.heap.size, 0, none⟩ = some v2 := hK.pcell
     have had : V.drew.cell? ⟨W.heap.size, 0, none⟩ = some (.int .i64 (i : Int)) := hK.ab.cell
     have hKA := hK.alloc hWA (by omega) (.cells #[.int .i64 (i : Int), .int .i64 (y : Int)] 117)
     clear hgk hlt
     gi_wp2
     refine startR_ (by omega) (by kernel_rfl) (by rintro ⟨a, W, h⟩; exact h) (n := 13) (S := fun w' => w'.cell? ⟨w.heap.size + 1, 0, none⟩ = some (.pointer (some ⟨w.heap.size, 0, none⟩)) ∧ w'.cell? ⟨w.heap.size, 0, none⟩ = some v2 ∧ w'.cell? ⟨W.heap.size, 0, none⟩ = some (.int .i64 (i : Int))) (ds := [12]) (Qbz 13 0) (by kernel_rfl) rfl rfl ⟨hqd, hpd, had⟩ (fun hHeld => ?_)
     refine pure_ (i := 6) (N := some 28) (v := ?_) (a' := ?_) (Qbz 13 64) rfl rfl (by kernel_rfl) (fun _ _ _ h => h) (Or.inl ⟨by rfl, ?_⟩) ?_ ?_
     rotate_left
     ·intro w'
      go_simp
      with_reducible rfl
     rotate_left
     ·simp only [Act.put, Qp1, Qp2, Qp3, i64_w, i32_w]
      rfl
     refine take_ (i := 0) (N := some 22) (v := ?_) (a' := ?_) (Qbz 13 65) rfl rfl (by kernel_rfl) (fun _ _ _ h => h) (Or.inl ⟨by rfl, ?_⟩) hHeld ?_ ?_
     rotate_left
     ·rintro w' ⟨s0, s1, s2⟩
      go_simp
      with_reducible rfl
     rotate_left
     ·simp only [Act.put, Qp1, Qp2, Qp3, i64_w, i32_w]
      rfl
     refine take_ (i := 1) (N := some 23) (v := ?_) (a' := ?_) (Qbz 13 67) rfl rfl (by kernel_rfl) (fun _ _ _ h => h) (Or.inl ⟨by rfl, ?_⟩) hHeld ?_ ?_
     rotate_left
     ·rintro w' ⟨s0, s1, s2⟩
      go_simp
      with_reducible rfl
     rotate_left
     ·simp only [Act.put, Qp1, Qp2, Qp3, i64_w, i32_w]
      rfl
     refine pure_ (i := 2) (N := some 24) (v := ?_) (a' := ?_) (Qbz 13 71) rfl rfl (by kernel_rfl) (fun _ _ _ h => h) (Or.inl ⟨by rfl, ?_⟩) ?_ ?_
     rotate_left
     ·intro w'
      go_simp
      with_reducible rfl
     rotate_left
     ·simp only [Act.put, Qp1, Qp2, Qp3, i64_w, i32_w]
      rfl
     refine pure_ (i := 3) (N := some 25) (v := ?_) (a' := ?_) (Qbz 13 79) rfl rfl (by kernel_rfl) (fun _ _ _ h => h) (Or.inl ⟨by rfl, ?_⟩) ?_ ?_
     rotate_left
     ·intro w'
      go_simp
      with_reducible rfl
     rotate_left
     ·simp only [Act.put, Qp1, Qp2, Qp3, i64_w, i32_w]
      rfl
     refine take_ (i := 4) (N := some 26) (v := ?_) (a' := ?_) (Qbz 13 95) rfl rfl (by kernel_rfl) (fun _ _ _ h => h) (Or.inl ⟨by rfl, ?_⟩) hHeld ?_ ?_
     rotate_left
     ·rintro w' ⟨s0, s1, s2⟩
      go_simp
      with_reducible rfl
     rotate_left
     ·simp only [Act.put, Qp1, Qp2, Qp3, i64_w, i32_w]
      rfl
     refine take_ (i := 5) (N := some 27) (v := ?_) (a' := ?_) (Qbz 13 127) rfl rfl (by kernel_rfl) (fun _ _ _ h => h) (Or.inl ⟨by rfl, ?_⟩) hHeld ?_ ?_
     rotate_left
     ·rintro w' ⟨s0, s1, s2⟩
      go_simp
      with_reducible rfl
     rotate_left
     ·simp only [Act.put, Qp1, Qp2, Qp3, i64_w, i32_w]
      rfl
     refine pure_ (i := 7) (N := some 29) (v := ?_) (a' := ?_) (Qbz 13 255) rfl rfl (by kernel_rfl) (fun _ _ _ h => h) (Or.inl ⟨by rfl, ?_⟩) ?_ ?_
     rotate_left
     ·intro w'
      go_simp
      with_reducible rfl
     rotate_left
     ·simp only [Act.put, Qp1, Qp2, Qp3, i64_w, i32_w]
      rfl
     refine one_ (i := 8) (N := some 30) (Qbz 13 511) rfl rfl (by kernel_rfl) (by decide) (fun K hK => ?_)
     refine value_ (w1 := ?_) (v := ?_) (by rfl) rfl ?_ ?_
     rotate_left 2
     ·go_simp
      constructor
      ·rfl
      ·rfl
     refine hK.out _ _ ⟨hKA.q.cell, hKA.pcell, hKA.ab.cell⟩ (fun hHeld => ?_)
     clear hK K
     refine norm_ (a' := ?_) ?_ ?_
     rotate_left
     ·show Act.put _ (some 30) _ = _
      simp only [Act.put, Qp1, Qp2, Qp3, i64_w, i32_w]
      rfl
     refine one_ (i := 9) (N := some 31) (Qbz 13 1023) rfl rfl (by kernel_rfl) (by decide) (fun K hK => ?_)
     refine step_append_lies _ (by rfl) _ _ 100 (by rfl) (w.heap.size + 2) 117 i8 (.agg #[(.int .i64 0), (.int .i64 0)]) 2 16 Tryd.underlying100 hi8 hy0 hy1 hy2 rfl (by decide) v2 xs2.length (flatE xs2) rfl hKA.own ⟨V.heap.size, 0, none⟩ 1 1 [.int .i64 (i : Int), .int .i64 (y : Int)] rfl rfl (by intro j u hu; exact cells_new2 V _ _ j u hu) (by simp [Value.oneCell']) (by omega) (by unfold maxLen; omega) (by omega) (by simp; omega) (V.heap.size + 1) (by simp) ?_
     intro g2 cap2 w5 hown5 hgr5 hat5 hlt5
     have hgrow5 : (V.alloc (.cells #[.int .i64 (i : Int), .int .i64 (y : Int)] 117)).grownBy w5 v2.ownBlock := ⟨hgr5.os, hgr5.tape, hgr5.output, hgr5.size, hgr5.block⟩
     have hb5 := blk_grown hKA.blk hgrow5 (own_ne_t hKA.own hKA.blk (by decide))
     have hc5 : w5.cell? ⟨w.heap.size, 0, none⟩ = some v2 := (blk_cell hb5 0).trans rfl
     have hfr5 := blk_frozen hb5 0
     refine hK.out _ _ ⟨(hKA.q.kept hgrow5 (own_ne_t hKA.own hKA.q (by decide))).cell, hc5, (hKA.ab.kept hgrow5 (own_ne_t hKA.own hKA.ab (by decide))).cell⟩ (fun hHeld => ?_)
     clear hK K
     refine norm_ (a' := ?_) ?_ ?_
     rotate_left
     ·show Act.put _ (some 31) _ = _
      simp only [Act.put, Qp1, Qp2, Qp3, i64_w, i32_w]
      rfl
     refine pure_ (i := 10) (N := some 32) (v := ?_) (a' := ?_) (Qbz 13 2047) rfl rfl (by kernel_rfl) (fun _ _ _ h => h) (Or.inl ⟨by rfl, ?_⟩) ?_ ?_
     rotate_left
     ·intro w'
      go_simp
      with_reducible rfl
     rotate_left
     ·simp only [Act.put, Qp1, Qp2, Qp3, i64_w, i32_w]
      rfl
     refine pure_ (i := 11) (N := some 33) (v := ?_) (a' := ?_) (Qbz 13 4095) rfl rfl (by kernel_rfl) (fun _ _ _ h => h) (Or.inl ⟨by rfl, ?_⟩) ?_ ?_
     rotate_left
     ·intro w'
      go_simp
      with_reducible rfl
     rotate_left
     ·simp only [Act.put, Qp1, Qp2, Qp3, i64_w, i32_w]
      rfl
     refine last_ (i := 12) (N := none) (Qbz 13 8191) rfl rfl (by kernel_rfl) (by decide) (fun K hK => ?_)
     refine skip_ (w1 := ?_) (by rfl) rfl ?_ ?_
     rotate_left
     ·go_simp
      rfl
     refine hK.out _ _ ?_
     clear hK K
     refine done_ (by kernel_rfl) ?_
     gi_wp2
     obtain ⟨q1, q2, q3⟩ := hK.appended hWA (by omega) HGK.out hown5 hgrow5 hat5
     exact ⟨q1, q2, _, _, q3⟩
    ·have hl2 : decide ((i : Int) < (y : Int)) = false := decide_eq_false (by omega)
     have hl1 : decide (i < y) = false := decide_eq_false hlt
     rw [if_neg hlt, List.nil_append] at hgk
     gi_wp2
     exact ⟨KeepsOthers.refl _, rfl, xs2, v2, hgk, hK.below, hK.q, hK.blk, hK.own, hK.ab, hK.apart, hK.marks, hK.top⟩
   ·rintro D V hD ⟨xs2, v2, hK⟩ hDf
    have hgk := hK.go
    rw [esOf, dif_pos rfl, List.append_nil] at hgk
    simp only [World.size_alloc] at hD
    have htopV := hK.top
    have hDl := (Array.getElem?_eq_some_iff.1 hDf).1
    gi_wp2
    refine ⟨?_, ?_⟩
    ·rw [HInv.out]
     iterate 36 apply Exists.intro
     exact ⟨_, i + 1, xs2, v2, rfl, by rw [hgk, List.append_assoc]; exact HGO.out, hK.below, hK.q, hK.blk, hK.own, ⟨D, rfl, by omega, hDl, hDf, hK.marks.mono (by omega)⟩, by omega⟩
    ·rw [HMe.out]
     show G.length - (((i + 1 : Nat) : Int)).toNat < G.length - ((i : Int)).toNat
     rw [Int.toNat_natCast, Int.toNat_natCast]
     omega
  ·have hi1 : ((i : Int) < (G.length : Int)) = False := eq_false (by omega)
   have hi2 : decide ((i : Int) < (G.length : Int)) = false := decide_eq_false (by omega)
   have hgo := hJ.go
   rw [show G.length - i = 0 by omega] at hgo
   simp only [esFrom, List.append_nil] at hgo
   have hxl : xs.length ≤ 896 := by rw [hgo]; exact streets_len HG.out
   obtain ⟨A, cE, ad, rfl, hA, hcells⟩ := own_streets hJ.own
   have HCE := Aside0.mk hcells
   have HA := Aside0.mk hA
   have HGO := Aside0.mk hgo
   obtain ⟨i4, hi4, hp0, hp1, hp2⟩ := info_parts info4
   have hmake : ∀ W : World, (Instr.makeSlice 93 (.int .i64 (xs.length : Int)) (.int .i64 (xs.length : Int))).run Tryd.prog W = .ok (.slice (some ⟨W.heap.size, 0, none⟩) xs.length xs.length) (W.alloc (.cells (madeCells #[.bool false] xs.length) 4)) := fun W => by
    have := run_make (P := Tryd.prog) W 93 4 i4 (.bool false) Tryd.underlying93 hi4 hp0 .i64 .i64 (xs.length : Int) (xs.length : Int) (by omega) (by omega) (by rw [hp2]; omega) (by omega)
    rw [hp1] at this
    simpa [Value.cells] using this
   have htop := hJ.top
   have hqd : W.drew.cell? ⟨w.heap.size + 1, 0, none⟩ = some (.pointer (some ⟨w.heap.size, 0, none⟩)) := hJ.q.cell
   have hpd : W.drew.cell? ⟨w.heap.size, 0, none⟩ = some (.slice A xs.length cE) := (blk_cell hJ.blk 0).trans rfl
   have hpe : W.drew.cell? ⟨w.heap.size, 1, none⟩ = some (.slice none 0 0) := (blk_cell hJ.blk 1).trans rfl
   have hpf : W.drew.frozen? ⟨w.heap.size, 1, none⟩ = false := blk_frozen hJ.blk 1
   have HAL : Aside0 (∀ b, b < W.heap.size → (W.alloc (.cells (madeCells #[Value.bool false] xs.length) 4)).heap[b]? = W.heap[b]?) := ⟨fun b hb => Below.heap_alloc _ _ _ hb⟩
   clear hgo hA hcells hi4 hp0 hp1 hp2
   gi_wp2
   refine startW_ (by omega) (by kernel_rfl) (n := 10) (S := fun w' => w'.cell? ⟨w.heap.size + 1, 0, none⟩ = some (.pointer (some ⟨w.heap.size, 0, none⟩)) ∧ w'.cell? ⟨w.heap.size, 0, none⟩ = some (.slice A xs.length cE) ∧ w'.cell? ⟨w.heap.size, 1, none⟩ = some (.slice none 0 0) ∧ w'.frozen? ⟨w.heap.size, 1, none⟩ = false) (ds := [9]) (Qbz 10 0) (by kernel_rfl) rfl rfl ⟨hqd, hpd, hpe, hpf⟩ (fun hHeld => ?_)
   refine take_ (i := 0) (N := some 35) (v := ?_) (a' := ?_) (Qbz 10 1) rfl rfl (by kernel_rfl) (fun _ _ _ h => h) (Or.inl ⟨by rfl, ?_⟩) hHeld ?_ ?_
   rotate_left
   ·rintro w' ⟨s0, s1, s2, s3⟩
    go_simp
    with_reducible rfl
   rotate_left
   ·simp only [Act.put, Qp1, Qp2, Qp3, i64_w, i32_w]
    rfl
   refine take_ (i := 1) (N := some 36) (v := ?_) (a' := ?_) (Qbz 10 3) rfl rfl (by kernel_rfl) (fun _ _ _ h => h) (Or.inl ⟨by rfl, ?_⟩) hHeld ?_ ?_
   rotate_left
   ·rintro w' ⟨s0, s1, s2, s3⟩
    go_simp
    with_reducible rfl
   rotate_left
   ·simp only [Act.put, Qp1, Qp2, Qp3, i64_w, i32_w]
    rfl
   refine pure_ (i := 2) (N := some 37) (v := ?_) (a' := ?_) (Qbz 10 7) rfl rfl (by kernel_rfl) (fun _ _ _ h => h) (Or.inl ⟨by rfl, ?_⟩) ?_ ?_
   rotate_left
   ·intro w'
    go_simp
    with_reducible rfl
   rotate_left
   ·simp only [Act.put, Qp1, Qp2, Qp3, i64_w, i32_w]
    rfl
   refine pure_ (i := 3) (N := some 38) (v := ?_) (a' := ?_) (Qbz 10 15) rfl rfl (by kernel_rfl) (fun _ _ _ h => h) (Or.inl ⟨by rfl, ?_⟩) ?_ ?_
   rotate_left
   ·intro w'
    go_simp
    with_reducible rfl
   rotate_left
   ·simp only [Act.put, Qp1, Qp2, Qp3, i64_w, i32_w]
    rfl
   refine take_ (i := 4) (N := some 39) (v := ?_) (a' := ?_) (Qbz 10 31) rfl rfl (by kernel_rfl) (fun _ _ _ h => h) (Or.inl ⟨by rfl, ?_⟩) hHeld ?_ ?_
   rotate_left
   ·rintro w' ⟨s0, s1, s2, s3⟩
    go_simp
    with_reducible rfl
   rotate_left
   ·simp only [Act.put, Qp1, Qp2, Qp3, i64_w, i32_w]
    rfl
   refine pure_ (i := 5) (N := some 40) (v := ?_) (a' := ?_) (Qbz 10 63) rfl rfl (by kernel_rfl) (fun _ _ _ h => h) (Or.inl ⟨by rfl, ?_⟩) ?_ ?_
   rotate_left
   ·intro w'
    go_simp
    with_reducible rfl
   rotate_left
   ·simp only [Act.put, Qp1, Qp2, Qp3, i64_w, i32_w]
    rfl
   refine one_ (i := 6) (N := some 41) (Qbz 10 127) rfl rfl (by kernel_rfl) (by decide) (fun K hK => ?_)
   refine value_ (w1 := ?_) (v := ?_) (by rfl) rfl ?_ ?_
   rotate_left 2
   ·go_simp
    constructor
    ·rfl
    ·rfl
   refine hK.out _ _ ⟨(cell_same (HAL.out (w.heap.size + 1) (by omega))).trans hqd, (cell_same (HAL.out w.heap.size (by omega))).trans hpd, (cell_same (HAL.out w.heap.size (by omega))).trans hpe, (World.frozen?_of_block (HAL.out w.heap.size (by omega))).trans hpf⟩ (fun hHeld => ?_)
   clear hK K
   refine norm_ (a' := ?_) ?_ ?_
   rotate_left
   ·show Act.put _ (some 41) _ = _
    simp only [Act.put, Qp1, Qp2, Qp3, i64_w, i32_w]
    rfl
   refine pure_ (i := 7) (N := some 42) (v := ?_) (a' := ?_) (Qbz 10 255) rfl rfl (by kernel_rfl) (fun _ _ _ h => h) (Or.inl ⟨by rfl, ?_⟩) ?_ ?_
   rotate_left
   ·intro w'
    go_simp
    with_reducible rfl
   rotate_left
   ·simp only [Act.put, Qp1, Qp2, Qp3, i64_w, i32_w]
    rfl
   refine pure_ (i := 8) (N := some 43) (v := ?_) (a' := ?_) (Qbz 10 511) rfl rfl (by kernel_rfl) (fun _ _ _ h => h) (Or.inl ⟨by rfl, ?_⟩) ?_ ?_
   rotate_left
   ·intro w'
    go_simp
    with_reducible rfl
   rotate_left
   ·simp only [Act.put, Qp1, Qp2, Qp3, i64_w, i32_w]
    rfl
   refine last_ (i := 9) (N := none) (Qbz 10 1023) rfl rfl (by kernel_rfl) (by decide) (fun K hK => ?_)
   refine skip_ (w1 := ?_) (by rfl) rfl ?_ ?_
   rotate_left
   ·go_simp
    rfl
   refine hK.out _ _ ?_
   clear hK K
   refine done_ (by kernel_rfl) ?_
   have hg9 : ∀ b, b < W.heap.size → b ≠ w.heap.size → (((W.alloc (.cells (madeCells #[Value.bool false] xs.length) 4)).setCell ⟨w.heap.size, 1, none⟩ (.slice (some ⟨W.heap.size, 0, none⟩) xs.length xs.length)).drew).heap[b]? = W.heap[b]? := fun b hb hne => (heap_set_other (W.alloc (.cells (madeCells #[Value.bool false] xs.length) 4)) ⟨w.heap.size, 1, none⟩ _ b hne).trans (HAL.out b hb)
   have hadb : 0 < xs.length → ad.block < W.heap.size ∧ ad.block ≠ w.heap.size := fun h0 => by
    have h1 := own_lt hJ.own ad.block (HA.out h0).2
    have h2 := own_base hJ.own ad.block (HA.out h0).2
    omega
   have hgad : 0 < xs.length → ∀ j, (((W.alloc (.cells (madeCells #[Value.bool false] xs.length) 4)).setCell ⟨w.heap.size, 1, none⟩ (.slice (some ⟨W.heap.size, 0, none⟩) xs.length xs.length)).drew).heap[(ad.add j).block]? = W.heap[(ad.add j).block]? := fun h0 j => by
    rw [add_block]
    exact hg9 _ (hadb h0).1 (hadb h0).2
   have hcell9 : 0 < xs.length → ∃ cs t fz, (((W.alloc (.cells (madeCells #[Value.bool false] xs.length) 4)).setCell ⟨w.heap.size, 1, none⟩ (.slice (some ⟨W.heap.size, 0, none⟩) xs.length xs.length)).drew).heap[ad.block]? = some (.cells cs t fz) := fun h0 => by
    have h1 := hg9 _ (hadb h0).1 (hadb h0).2
    rcases hJ.own.2 with ⟨_, h2⟩ | ⟨g, cap, cur, h2, _, h3, _⟩
    ·omega
    ·have h4 := (HA.out h0).2
     rw [h2] at h4
     obtain rfl : g = ad.block := by simpa [Value.ownBlock] using h4
     exact ⟨_, _, _, h1.trans h3⟩
   have hW9 : WAt (((W.alloc (.cells (madeCells #[Value.bool false] xs.length) 4)).setCell ⟨w.heap.size, 1, none⟩ (.slice (some ⟨W.heap.size, 0, none⟩) xs.length xs.length)).drew) w.heap.size W.heap.size xs.length A cE ad xs ⟨0, 0, false, List.replicate xs.length false⟩ := by
    refine ⟨?_, fun h0 => (HA.out h0).1, fun i hi => ?_, fun i hi => ?_, ?_, by simp, by show w.heap.size ≠ W.heap.size; omega, fun h0 => ⟨(hadb h0).2, by have := (hadb h0).1; omega⟩⟩
    ·exact blk_set ((HAL.out w.heap.size (by omega)).trans hJ.blk) 1 (.slice (some ⟨W.heap.size, 0, none⟩) xs.length xs.length)
    ·exact (cell_same (hgad (by omega) (i * 2))).trans (HCE.out i hi).1
    ·exact (cell_same (a := ⟨(ad.add (i * 2)).block, (ad.add (i * 2)).off + 1, none⟩) (hgad (by omega) (i * 2))).trans (HCE.out i hi).2
    ·exact (heap_set_other (W.alloc (.cells (madeCells #[Value.bool false] xs.length) 4)) ⟨w.heap.size, 1, none⟩ _ W.heap.size (by show W.heap.size ≠ w.heap.size; omega)).trans (HRow.made W xs.length)
   have hB9 : Below w.heap.size w (((W.alloc (.cells (madeCells #[Value.bool false] xs.length) 4)).setCell ⟨w.heap.size, 1, none⟩ (.slice (some ⟨W.heap.size, 0, none⟩) xs.length xs.length)).drew) := below_drew ((below_alloc hJ.below _).setCell (p := ⟨w.heap.size, 1, none⟩) (Nat.le_refl _) _)
   have hM9 : Marks w.heap.size W.heap.size ds (((W.alloc (.cells (madeCells #[Value.bool false] xs.length) 4)).setCell ⟨w.heap.size, 1, none⟩ (.slice (some ⟨W.heap.size, 0, none⟩) xs.length xs.length)).drew) := hJ.marks.others (((KeepsOthers.alloc W _).trans (KeepsOthers.setCell _ _ _)).trans (KeepsOthers.drew _))
   have hq9 := (cell_same (a := ⟨w.heap.size + 1, 0, none⟩) (hg9 (w.heap.size + 1) (by omega) (by omega))).trans hqd
   generalize ((W.alloc (.cells (madeCells #[Value.bool false] xs.length) 4)).setCell ⟨w.heap.size, 1, none⟩ (.slice (some ⟨W.heap.size, 0, none⟩) xs.length xs.length)).drew = W9 at *
   clear hqd hpd hpe hpf hg9 HAL hmake hgad hadb
   refine onlyN_n ?_
   gi_wp2
   refine marks_leave (B := w.heap.size) ds W.heap.size W9 hB9.size hM9 (fun V2 hb hc => ?_)
   have hblk2 : ∀ b, (∃ cs t fz, W9.heap[b]? = some (Obj.cells cs t fz)) → V2.heap[b]? = W9.heap[b]? := fun b ⟨cs, t, fz, h⟩ => (hc b _ h rfl).trans h.symm
   refine ⟨_, results_tmp rfl _ _ _, W.heap.size, A, cE, ad, rfl, ?_, by omega, hB9.trans hb⟩
   rw [← HGO.out]
   refine hW9.same (hblk2 _ ⟨_, _, _, hW9.blk⟩) (hblk2 _ ⟨_, _, _, hW9.clr⟩) (fun h0 => hblk2 _ (hcell9 h0))
end Go.Proofs.YtijfddobandcdaaDoor.X
end
section
namespace Go.Proofs.YtijfddobandcdaaDoor.X
open Go.RowKit YtijfddobandcdaaDoorW.PrintWords YtijfddobandcdaaDoorW.PrintLast YtijfddobandcdaaDoorW.PrintMore
attribute [local go_sem] max2_int min2_int max_two min_two max_three min_three max_four min_four
/-! ### slices_Index_bool_bool: function 80 -/
def slices_Index_bool_bool.l0 : Nat → List Bool → Bool → Int → Int → Option (Int)
 | 0, _, _, _, _ => none
 | k + 1, x0, x1, x7, x8 => if x8 < x7 then (if 0 ≤ x8 then (if x8 < (x0.length : Int) then (if (x1 == (rdOf false x0 x8)) = true then (some x8) else (slices_Index_bool_bool.l0 k x0 x1 x7 (wrap64 (x8 + 1)))) else (none)) else (none)) else (some (-1))
def slices_Index_bool_bool.f (k : Nat) (l0 : List Bool) (a1 : Bool) : Option (Int) := slices_Index_bool_bool.l0 k l0 a1 (l0.length : Int) 0
set_option maxHeartbeats 8000000 in
set_option maxRecDepth 100000 in
theorem slices_Index_bool_bool.calls (k : Nat) (A0 : Option Addr) (c0 : Nat) (l0 : List Bool) (a1 : Bool) (r : Int) (w : World) (hr0 : Kd.C Kd.bool w A0 l0.length l0) (hc0 : l0.length ≤ c0) (h : slices_Index_bool_bool.f k l0 a1 = some r) :
  Calls Tryd.prog 80 #[.slice A0 l0.length c0, .bool a1] w fun e w' => e = .returned (.int .i64 r) ∧ Drawn0 w w' := by
 have HR0 := Aside0.mk hr0
 have HC0 := Aside0.mk hc0
 clear hr0 hc0
 have H : (slices_Index_bool_bool.l0 k l0 a1 (l0.length : Int) 0) = some r := h
 clear h
 have H' := Aside0.mk H
 clear H
 go_enter Tryd.func80, Tryd.ntmps80
 go_wp2
 go_loopg [8] k (fun kq v8 w' => ∃ (x8_1 : Int), v8 = .int .i64 x8_1 ∧ Aside0 (slices_Index_bool_bool.l0 kq l0 a1 (l0.length : Int) x8_1 = some r) ∧ Aside0 (kq ≤ k) ∧ Drawn0 w w')
 case atStart => exact ⟨(0), (by first | rfl | (simp; done) | (simp [*]; done)), H', ⟨Nat.le_refl _⟩, by repeat (first | exact Drawn0.refl _ | apply Drawn0.step)⟩
 case round =>
  clear H'
  try clear p2
  obtain ⟨x8_1, rfl, HA, HK1, ⟨m1, rfl⟩⟩ := hrel
  cases gk with
  | zero => exact absurd HA.out (by simp [slices_Index_bool_bool.l0])
  | succ k1 =>
   have H := HA.out
   clear HA
   simp only [slices_Index_bool_bool.l0] at H
   by_cases c3 : x8_1 < (l0.length : Int)
   ·rw [if_pos c3] at H
    have c3b0 : decide (x8_1 < (l0.length : Int)) = true := decide_eq_true c3
    clear c3
    by_cases c4 : 0 ≤ x8_1
    ·rw [if_pos c4] at H
     have c4b0 : decide (0 ≤ x8_1) = true := decide_eq_true c4
     clear c4
     by_cases c5 : x8_1 < (l0.length : Int)
     ·rw [if_pos c5] at H
      have c5b0 : decide (x8_1 < (l0.length : Int)) = true := decide_eq_true c5
      clear c5
      by_cases c6 : (a1 == (rdOf false l0 x8_1)) = true
      ·rw [if_pos c6] at H
       have c6b0 : (a1 == (rdOf false l0 x8_1)) = true := c6
       (try (have c6b1 : decide (a1 = (rdOf false l0 x8_1)) = true := by simpa using c6))
       (try (have c6b2 : (a1 == (rdOf false l0 x8_1)) = true := by simpa using c6))
       clear c6
       obtain rfl := Option.some.inj H
       have p405 : 0 ≤ (x8_1 : Int) := of_decide_eq_true (by first | (with_reducible assumption) | assumption)
       have q405 : x8_1 < (l0.length : Int) := of_decide_eq_true (by first | (with_reducible assumption) | assumption)
       obtain ⟨ad405, e405, hx405_0⟩ := Kd.at_bool HR0.out x8_1 p405 q405
       cases e405
       replace p405 := eq_true p405
       replace q405 := eq_true q405
       go_wp2
       go_ret
       exact ⟨by first | rfl | (simp; done) | (simp [*]; done), by repeat (first | exact Drawn0.refl _ | apply Drawn0.step)⟩
      ·rw [if_neg c6] at H
       have c6b0 : (a1 == (rdOf false l0 x8_1)) = false := by simpa using c6
       (try (have c6b1 : decide (a1 = (rdOf false l0 x8_1)) = false := by simpa using c6))
       (try (have c6b2 : (a1 == (rdOf false l0 x8_1)) = false := by simpa using c6))
       (try (have c6b3 : ¬ (a1 = (rdOf false l0 x8_1)) := by simpa using c6))
       clear c6
       have H' := Aside0.mk H
       clear H
       have p405 : 0 ≤ (x8_1 : Int) := of_decide_eq_true (by first | (with_reducible assumption) | assumption)
       have q405 : x8_1 < (l0.length : Int) := of_decide_eq_true (by first | (with_reducible assumption) | assumption)
       obtain ⟨ad405, e405, hx405_0⟩ := Kd.at_bool HR0.out x8_1 p405 q405
       cases e405
       replace p405 := eq_true p405
       replace q405 := eq_true q405
       go_wp2
       go_roundg k1
       case measure => have := HK1.out; omega
       case rel => exact ⟨(wrap64 (x8_1 + 1)), (by first | rfl | (simp; done) | (simp [*]; done)), H', ⟨by have := HK1.out; omega⟩, by repeat (first | exact Drawn0.refl _ | apply Drawn0.step)⟩
     ·rw [if_neg c5] at H
      exact absurd H (by simp)
    ·rw [if_neg c4] at H
     exact absurd H (by simp)
   ·rw [if_neg c3] at H
    have c3b0 : decide (x8_1 < (l0.length : Int)) = false := decide_eq_false c3
    clear c3
    obtain rfl := Option.some.inj H
    go_wp2
    go_ret
    exact ⟨by first | rfl | (simp; done) | (simp [*]; done), by repeat (first | exact Drawn0.refl _ | apply Drawn0.step)⟩
end Go.Proofs.YtijfddobandcdaaDoor.X
end
section
namespace Go.Proofs.YtijfddobandcdaaDoor.X
open Go.RowKit YtijfddobandcdaaDoorW.PrintWords YtijfddobandcdaaDoorW.PrintLast YtijfddobandcdaaDoorW.PrintMore
attribute [local go_sem] max2_int min2_int max_two min_two max_three min_three max_four min_four
/-! ### slices_Contains_bool_bool: function 66 -/
def slices_Contains_bool_bool.f (k : Nat) (l0 : List Bool) (a1 : Bool) : Option (Bool) := (slices_Index_bool_bool.f k l0 a1).bind fun t406 => (some (decide (t406 ≥ 0)))
set_option maxHeartbeats 8000000 in
set_option maxRecDepth 100000 in
theorem slices_Contains_bool_bool.calls (k : Nat) (A0 : Option Addr) (c0 : Nat) (l0 : List Bool) (a1 : Bool) (r : Bool) (w : World) (hr0 : Kd.C Kd.bool w A0 l0.length l0) (hc0 : l0.length ≤ c0) (h : slices_Contains_bool_bool.f k l0 a1 = some r) :
  Calls Tryd.prog 66 #[.slice A0 l0.length c0, .bool a1] w fun e w' => e = .returned (.bool r) ∧ Drawn0 w w' := by
 have HR0 := Aside0.mk hr0
 have HC0 := Aside0.mk hc0
 clear hr0 hc0
 have H : ((slices_Index_bool_bool.f k l0 a1).bind fun t406 => (some (decide (t406 ≥ 0)))) = some r := h
 clear h
 replace H := Option.bind_eq_some_iff.mp H
 obtain ⟨t406, A30, H⟩ := H
 replace H : (some (decide (t406 ≥ 0))) = some r := H
 have A3 := Aside0.mk A30
 clear A30
 obtain rfl := Option.some.inj H
 go_enter Tryd.func66, Tryd.ntmps66
 go_wp2_with (first | ((with_reducible refine gate_callee (f := 80) rfl ?_); refine goesL_ (some 7) rfl rfl Tryd.func80 (by kernel_rfl) rfl #[.slice A0 l0.length c0, .bool a1] rfl (Qls) ?_; (with_reducible refine (slices_Index_bool_bool.calls k _ _ l0 a1 t406 _ ?side1 ?side2 A3.out).mono ?_); (case side1 => exact Qsc HR0.out); (case side2 => exact HC0.out); rintro e w' ⟨rfl, ⟨nd, rfl⟩⟩; refine ⟨_, rfl, ?_⟩))
 go_ret
 exact ⟨by first | rfl | (simp; done) | (simp [*]; done), by repeat (first | exact Drawn0.refl _ | apply Drawn0.step)⟩
end Go.Proofs.YtijfddobandcdaaDoor.X
end
section
/- sweep.Play, by hand. -/
namespace Go.Proofs.YtijfddobandcdaaDoor.X
open Go.RowKit YtijfddobandcdaaDoorW.PrintWords YtijfddobandcdaaDoorW.PrintLast YtijfddobandcdaaDoorW.PrintMore YtijfddobandcdaaDoor.T
attribute [local go_sem] max2_int min2_int max_two min_two max_three min_three max_four min_four
theorem results_tmp4 {fn : Func} {t u v x : Tmp} (h : fn.results = #[.tmp t, .tmp u, .tmp v, .tmp x]) (tmps : Array Value) (P : Program) (w : World) :
  (results fn tmps).run P w = .ok (.tuple #[tmps.getD t undef, tmps.getD u undef, tmps.getD v undef, tmps.getD x undef]) w := by
 simp [results, h]
def sweep_Play.f (g : List Int) (l : List S85) : Option (Int × Bool × Bool × Int) := if g.length < 2 ^ 60 then (if chk 7 g = true then some ((ownPlay (g.map Int.toNat) l).1, (ownPlay (g.map Int.toNat) l).2.1, (ownPlay (g.map Int.toNat) l).2.2, 0) else some (0, false, false, 2)) else none
theorem index_l0 (C : List Bool) (hC : C.length ≤ 1000) : ∀ (d i : Nat), i + d = C.length → ∃ r, slices_Index_bool_bool.l0 (d + 1) C false (C.length : Int) (i : Int) = some r ∧ (decide (r ≥ 0) = (C.drop i).contains false)
 | 0, i, hi => by
  refine ⟨-1, ?_, ?_⟩
  ·rw [slices_Index_bool_bool.l0, if_neg (by omega)]
  ·rw [List.drop_eq_nil_of_le (by omega)]; rfl
 | d + 1, i, hi => by
  have hil : i < C.length := by omega
  rw [slices_Index_bool_bool.l0, if_pos (by omega), if_pos (by omega), if_pos (by omega), List.drop_eq_getElem_cons hil]
  have e : rdOf false C (i : Int) = C[i] := by
   unfold rdOf
   rw [Int.toNat_natCast, List.getD_eq_getElem?_getD, List.getElem?_eq_getElem hil]; rfl
  rw [e]
  cases hc : C[i]
  ·rw [if_pos (by rfl)]
   exact ⟨_, rfl, by simp⟩
  ·rw [if_neg (by simp), wrap_succ i (by omega)]
   obtain ⟨r, h1, h2⟩ := index_l0 C hC d (i + 1) (by omega)
   exact ⟨r, h1, by rw [h2]; simp⟩
theorem contains_f (C : List Bool) (hC : C.length ≤ 1000) : slices_Contains_bool_bool.f (C.length + 1) C false = some (C.contains false) := by
 obtain ⟨r, h1, h2⟩ := index_l0 C hC C.length 0 (by omega)
 unfold slices_Contains_bool_bool.f slices_Index_bool_bool.f
 have h1' : slices_Index_bool_bool.l0 (C.length + 1) C false (C.length : Int) 0 = some r := h1
 rw [h1', Option.bind_some, h2]
 rfl
theorem HRow.C {W : World} {g : Nat} {C : List Bool} (h : HRow W g C) (hC : C.length ≤ 1000) : Kd.C Kd.bool W (some ⟨g, 0, none⟩) C.length C := by
 refine ⟨rfl, by omega, fun h0 => ⟨_, rfl, fun j p hj => ⟨[.bool p], rfl, rfl, fun i u hu => ?_⟩⟩⟩
 obtain ⟨h1, h2⟩ := List.getElem?_eq_some_iff.1 hj
 match i, hu with
 | 0, hu =>
  have hu' : Value.bool p = u := by simpa using hu
  subst hu'
  have e1 : 0 + (j * Kd.bool.sz + 0) = j := by show 0 + (j * 1 + 0) = j; omega
  rw [Addr.add_lit, e1]
  have := h.cell j h1
  rw [List.getD_eq_getElem?_getD, List.getElem?_eq_getElem h1, h2] at this
  exact this
theorem WAt.drewN {W : World} {p gc cc : Nat} {A : Option Addr} {cE : Nat} {ad : Addr} {E : List (Nat × Nat)} {s : OS} (h : WAt W p gc cc A cE ad E s) (n : Nat) : WAt (W.drewN n) p gc cc A cE ad E s := ⟨h.blk, h.hA, h.e0, h.e1, h.clr, h.len, h.n1, h.n2⟩
theorem doO_lt {E : List (Nat × Nat)} {s s2 : OS} {pl : Bool} {v : Nat} (h : doO E s ⟨pl, (v : Int)⟩ = some s2) (hv : v < 7) (h1 : s.gd < 128) (h2 : s.had < 128) : s2.gd < 128 ∧ s2.had < 128 := by
 unfold doO at h
 dsimp only at h
 split at h
 ·cases h
 ·cases h
  have hp : 2 ^ v < 2 ^ 7 := Nat.pow_lt_pow_right (by omega) hv
  have hg : s.gd ^^^ 2 ^ v < 2 ^ 7 := Nat.xor_lt_two_pow h1 hp
  rw [Int.toNat_natCast]
  exact ⟨hg, Nat.or_lt_two_pow (n := 7) h2 hg⟩
set_option maxHeartbeats 8000000 in
set_option maxRecDepth 100000 in
theorem sweep_Play.calls (A0 : Option Addr) (c0 : Nat) (l0 : List Int) (A1 : Option Addr) (c1 : Nat) (l1 : List S85) (r1 : Int) (r2 : Bool) (r3 : Bool) (r4 : Int) (w : World) (hGL : GL w) (hr0 : Kd.C (Kd.int .i64) w A0 l0.length l0) (hc0 : l0.length ≤ c0) (hr1 : Kd.C k85 w A1 l1.length l1) (hc1 : l1.length ≤ c1) (h : sweep_Play.f l0 l1 = some (r1, r2, r3, r4)) :
  Calls Tryd.prog 38 #[.slice A0 l0.length c0, .slice A1 l1.length c1] w fun e w' => e = .returned (.tuple #[.int .i64 r1, .bool r2, .bool r3, .int .i64 r4]) ∧ Below w.heap.size w w' := by
 unfold sweep_Play.f at h
 by_cases hlen : l0.length < 2 ^ 60
 ·rw [if_pos hlen] at h
  by_cases hchk : chk 7 l0 = true
  ·rw [if_pos hchk] at h
   obtain ⟨G, rfl, hG⟩ := (chk_iff 7 (by omega) _).1 hchk
   rw [gi_toNat] at h
   have hn := hG.most
   rw [gi_length] at hc0
   have HRD := Aside0.mk (read_yes hG A0 c0 w hr0 hc0)
   rw [gi_length]
   injection h with h
   simp only [Prod.mk.injEq] at h
   obtain ⟨h1, h2, h3, h4⟩ := h
   subst h4
   have H : Aside0 (ownPlay G l1 = (r1, r2, r3)) := ⟨by rw [← h1, ← h2, ← h3]⟩
   have HG := Aside0.mk hG
   have HGL := Aside0.mk hGL
   have HR1 := Aside0.mk hr1
   have HL := Aside0.mk (gi_length G)
   clear h1 h2 h3 hr0 hr1 hG hGL hlen hchk hc0
   by_cases hl : l1.length ≤ 100
   ·have hl2 : decide ((l1.length : Int) > 100) = false := decide_eq_false (by omega)
    have hl3 : ((l1.length : Int) > 100) = False := eq_false (by omega)
    obtain ⟨E, hE⟩ : ∃ E, streets G = E := ⟨_, rfl⟩
    have hEl : E.length ≤ 896 := by rw [← hE]; exact streets_len HG.out
    have HE2 : Aside0 (∀ i, i < E.length → (E.getD i (0, 0)).1 < 7 ∧ (E.getD i (0, 0)).2 < 7) := ⟨fun i hi => by
     rw [← hE] at hi ⊢
     obtain ⟨q1, q2⟩ := streets_at HG.out hi
     have := HG.out.adj_lt q2
     omega⟩
    obtain ⟨RES, hRES⟩ : ∃ R, ownTo G.length E l1 (o0 E) 0 = R := ⟨_, rfl⟩
    have HRES : Aside0 (ownTo G.length E (l1.drop 0) (o0 E) 0 = RES) := ⟨hRES⟩
    have HEND : Aside0 (finO G RES = (r1, r2, r3)) := ⟨by
     have := H.out
     unfold ownPlay at this
     rwa [if_neg (by omega), hE, hRES] at this⟩
    have HE := Aside0.mk hE
    have HALL := Aside0.mk (all_f HG.out)
    have HN7 := Aside0.mk (p7 hn)
    clear H hRES hE
    go_enter Tryd.func38, Tryd.ntmps38
    go_wp2_with (first
     | (go_at_call 49; refine HRD.out.mono ?_; rintro e w1 ⟨A2, c2, rfl, hc2, hC2, hb1⟩; have HWT := Aside0.mk (watch_calls A2 c2 G HG.out hc2 w1 (GL_below HGL.out hb1) hC2); have HB1 := Aside0.mk hb1; have HC2 := Aside0.mk hC2; clear hb1 hC2)
     | (go_at_call 64; refine HWT.out.mono ?_; rintro e w2 ⟨gc, AE, cE, ad, rfl, hw2, hgc, hb2⟩; rw [HE.out] at hw2; have HW2 := Aside0.mk hw2; have HB2 := Aside0.mk hb2; have HGC := Aside0.mk hgc; clear hw2 hgc hb2))
    have hH1 : w.heap.size ≤ w1.heap.size := HB1.out.size
    have hgcl := HGC.out
    go_loopg [4, 27] l1.length (fun kq v4 v27 w' => ∃ (i : Nat) (s : OS) (M : Int) (m : Nat), v4 = .int .i64 M ∧ v27 = .int .i64 (i : Int) ∧ i + kq = l1.length ∧ Aside0 (M = (m : Int)) ∧ Aside0 (ownTo G.length E (l1.drop i) s m = RES) ∧ Aside0 (s.gd < 128 ∧ s.had < 128) ∧ Aside0 (WAt w' w1.heap.size gc E.length AE cE ad E s) ∧ Aside0 (Below w1.heap.size w1 w'))
    case atStart => exact ⟨0, o0 E, 0, 0, rfl, rfl, by omega, ⟨rfl⟩, HRES, ⟨show (0 : Nat) < 128 by decide, show (0 : Nat) < 128 by decide⟩, HW2, HB2⟩
    case round =>
     clear HRES HW2 HB2
     obtain ⟨i, s, M, m, rfl, rfl, hi, HM, HP, HS, HW, HB⟩ := hrel
     have HBW0 : Aside0 (Below w.heap.size w wr) := ⟨below_then HB1.out HB1.out.size HB.out⟩
     by_cases hil : i < l1.length
     ·have hi1 : ((i : Int) < (l1.length : Int)) = True := eq_true (by omega)
      have hi2 : decide ((i : Int) < (l1.length : Int)) = true := decide_eq_true (by omega)
      cases gk with
      | zero => omega
      | succ gi =>
      obtain ⟨ad1, e1, hc0, hc1'⟩ := at_T85 HR1.out (i : Int) (by omega) (by omega)
      subst e1
      have hp := HP.out
      rw [List.drop_eq_getElem_cons hil] at hp
      have hra : rd_T85 l1 (i : Int) = l1[i] := by unfold rd_T85; rw [Int.toNat_natCast, List.getD_eq_getElem?_getD, List.getElem?_eq_getElem hil]; rfl
      rw [hra, Int.toNat_natCast] at hc0 hc1'
      replace hc0 := (HBW0.out.cell (World.block_lt_of_cell? w _ hc0)).trans hc0
      replace hc1' := (HBW0.out.cell (World.block_lt_of_cell? w _ hc1')).trans hc1'
      simp only [ownTo] at hp
      generalize l1[i] = a at *
      obtain ⟨pl, nd⟩ := a
      clear HP hra
      dsimp only at hp hc0 hc1'
      by_cases hneg : nd < 0
      ·rw [if_pos hneg] at hp
       have hd1 : decide (nd < 0) = true := decide_eq_true hneg
       have HP := Aside0.mk hp
       clear hp hneg
       go_wp2_with (first
          | ((with_reducible refine gate_dst (N := 12) rfl ?_); refine box_event ?hg (N := 12) ?hd (cs := #[.bool false, .int .i64 0]) (t := 85) ?hr ?_; (case hd => rfl); (case hg => rfl); (case hr => first | (go_simp; done) | (go_simp; rfl)); intro ga hga w7 hbox hb7; have HGA := Aside0.mk (show wr.heap.size ≤ ga by rw [hga]; exact Nat.le_refl _); clear hga; have hz0 : w7.cell? ⟨ga, 0, none⟩ = some (.bool false) := (blk_cell hbox 0).trans rfl; have hz1 : w7.cell? ⟨ga, 1, none⟩ = some (.int .i64 0) := (blk_cell hbox 1).trans rfl; have hf0 := blk_frozen hbox 0; have hf1 := blk_frozen hbox 1; have hq0 : ∀ x y : Value, ((w7.setCell ⟨ga, 0, none⟩ x).setCell ⟨ga, 1, none⟩ y).cell? ⟨ga, 1, none⟩ = some y := (fun x y => (blk_cell (blk_set (blk_set hbox 0 x) 1 y) 1).trans rfl); have hq1 : ∀ x y : Value, ((w7.setCell ⟨ga, 0, none⟩ x).setCell ⟨ga, 1, none⟩ y).cell? ⟨ga, 0, none⟩ = some x := (fun x y => (blk_cell (blk_set (blk_set hbox 0 x) 1 y) 0).trans rfl); have HBOX := Aside0.mk hbox; have HB7 := Aside0.mk hb7; clear hbox hb7))
       ((try simp only [Exit.inBlock, Exit.then]); refine bodyPost_ret (results_tmp4 rfl _ _ _) rfl ?_)
       have hq := HEND.out
       rw [← HP.out] at hq
       simp only [finO, Prod.mk.injEq] at hq
       obtain ⟨rfl, rfl, rfl⟩ := hq
       exact ⟨rfl, below_set (below_set (below_step HBW0.out HB7.out) (by have := HGA.out; have := HB.out.size; omega)) (by have := HGA.out; have := HB.out.size; omega)⟩
      ·rw [if_neg hneg] at hp
       have hd1 : decide (nd < 0) = false := decide_eq_false hneg
       by_cases hge : (G.length : Int) ≤ nd
       ·rw [if_pos hge] at hp
        have hd2 : decide (nd ≥ (G.length : Int)) = true := decide_eq_true hge
        have hd3 : decide ((G.length : Int) ≤ nd) = true := decide_eq_true hge
        have HP := Aside0.mk hp
        clear hp hneg hge
        go_wp2_with (first
          | ((with_reducible refine gate_dst (N := 12) rfl ?_); refine box_event ?hg (N := 12) ?hd (cs := #[.bool false, .int .i64 0]) (t := 85) ?hr ?_; (case hd => rfl); (case hg => rfl); (case hr => first | (go_simp; done) | (go_simp; rfl)); intro ga hga w7 hbox hb7; have HGA := Aside0.mk (show wr.heap.size ≤ ga by rw [hga]; exact Nat.le_refl _); clear hga; have hz0 : w7.cell? ⟨ga, 0, none⟩ = some (.bool false) := (blk_cell hbox 0).trans rfl; have hz1 : w7.cell? ⟨ga, 1, none⟩ = some (.int .i64 0) := (blk_cell hbox 1).trans rfl; have hf0 := blk_frozen hbox 0; have hf1 := blk_frozen hbox 1; have hq0 : ∀ x y : Value, ((w7.setCell ⟨ga, 0, none⟩ x).setCell ⟨ga, 1, none⟩ y).cell? ⟨ga, 1, none⟩ = some y := (fun x y => (blk_cell (blk_set (blk_set hbox 0 x) 1 y) 1).trans rfl); have hq1 : ∀ x y : Value, ((w7.setCell ⟨ga, 0, none⟩ x).setCell ⟨ga, 1, none⟩ y).cell? ⟨ga, 0, none⟩ = some x := (fun x y => (blk_cell (blk_set (blk_set hbox 0 x) 1 y) 0).trans rfl); have HBOX := Aside0.mk hbox; have HB7 := Aside0.mk hb7; clear hbox hb7))
        ((try simp only [Exit.inBlock, Exit.then]); refine bodyPost_ret (results_tmp4 rfl _ _ _) rfl ?_)
        have hq := HEND.out
        rw [← HP.out] at hq
        simp only [finO, Prod.mk.injEq] at hq
        obtain ⟨rfl, rfl, rfl⟩ := hq
        exact ⟨rfl, below_set (below_set (below_step HBW0.out HB7.out) (by have := HGA.out; have := HB.out.size; omega)) (by have := HGA.out; have := HB.out.size; omega)⟩
       ·rw [if_neg hge] at hp
        have hd2 : decide (nd ≥ (G.length : Int)) = false := decide_eq_false hge
        have hd3 : decide ((G.length : Int) ≤ nd) = false := decide_eq_false hge
        obtain ⟨v, rfl⟩ := Int.eq_ofNat_of_zero_le (show 0 ≤ nd by omega)
        have hv7 : v < 7 := by omega
        have hd4 : decide (G.length ≤ v) = false := decide_eq_false (by omega)
        have hd5 : decide ((v : Int) < 0) = false := decide_eq_false (by omega)
        obtain ⟨DR, hDR⟩ : ∃ r, doO E s ⟨pl, (v : Int)⟩ = r := ⟨_, rfl⟩
        rw [hDR] at hp
        have HDO : Aside0 (∀ b, DR.isSome = b → ∀ W, Below wr.heap.size wr W → Calls Tryd.prog 65 #[.pointer (some ⟨w1.heap.size, 0, none⟩), .agg #[.bool pl, .int .i64 (v : Int)]] W fun e w' => e = .returned (.bool b) ∧ DoS w' w1.heap.size gc E.length AE cE ad E DR ∧ Below w1.heap.size W w') := ⟨fun b hb W hW => by subst hb; exact do_calls w1.heap.size gc E.length AE cE ad E s hEl HE2.out HS.out.1 HS.out.2 w1.heap.size (Nat.le_refl _) HGC.out pl v hv7 DR hDR W (by have := hW.size; have := HB.out.size; omega) (HW.out.below hW)⟩
        have HDR := Aside0.mk hDR
        clear hneg hge hDR
        cases DR with
        | none =>
         have HP := Aside0.mk hp
         clear hp
         go_wp2_with (first
          | ((with_reducible refine gate_dst (N := 12) rfl ?_); refine box_event ?hg (N := 12) ?hd (cs := #[.bool false, .int .i64 0]) (t := 85) ?hr ?_; (case hd => rfl); (case hg => rfl); (case hr => first | (go_simp; done) | (go_simp; rfl)); intro ga hga w7 hbox hb7; have HGA := Aside0.mk (show wr.heap.size ≤ ga by rw [hga]; exact Nat.le_refl _); clear hga; have hz0 : w7.cell? ⟨ga, 0, none⟩ = some (.bool false) := (blk_cell hbox 0).trans rfl; have hz1 : w7.cell? ⟨ga, 1, none⟩ = some (.int .i64 0) := (blk_cell hbox 1).trans rfl; have hf0 := blk_frozen hbox 0; have hf1 := blk_frozen hbox 1; have hq0 : ∀ x y : Value, ((w7.setCell ⟨ga, 0, none⟩ x).setCell ⟨ga, 1, none⟩ y).cell? ⟨ga, 1, none⟩ = some y := (fun x y => (blk_cell (blk_set (blk_set hbox 0 x) 1 y) 1).trans rfl); have hq1 : ∀ x y : Value, ((w7.setCell ⟨ga, 0, none⟩ x).setCell ⟨ga, 1, none⟩ y).cell? ⟨ga, 0, none⟩ = some x := (fun x y => (blk_cell (blk_set (blk_set hbox 0 x) 1 y) 0).trans rfl); have HBOX := Aside0.mk hbox; have HB7 := Aside0.mk hb7; clear hbox hb7)
          | (go_at_call 65; (with_reducible refine (HDO.out false rfl _ ?hbw).mono ?_); (case hbw => exact below_set (below_set HB7.out HGA.out) HGA.out); rintro e w3 ⟨rfl, hd3', hb3⟩; have HD3 := Aside0.mk hd3'; have HB3 := Aside0.mk ((below_then HB.out HB.out.size (below_set (w := wr) (below_set HB7.out HGA.out) HGA.out)).trans hb3); clear hd3' hb3))
         ((try simp only [Exit.inBlock, Exit.then]); refine bodyPost_ret (results_tmp4 rfl _ _ _) rfl ?_)
         have hq := HEND.out
         rw [← HP.out] at hq
         simp only [Option.bind_none, finO, Prod.mk.injEq] at hq
         obtain ⟨rfl, rfl, rfl⟩ := hq
         exact ⟨rfl, below_then HB1.out HB1.out.size HB3.out⟩
        | some s2 =>
         have hlt := doO_lt HDR.out hv7 HS.out.1 HS.out.2
         have HCN := Aside0.mk (count_eq s2.gd (by omega))
         have HLT := Aside0.mk hlt
         rw [Option.bind_some] at hp
         obtain ⟨pq, hpq⟩ : ∃ pq, pc s2.gd 9 = pq := ⟨_, rfl⟩
         rw [hpq] at HCN hp
         obtain ⟨M2, hmx⟩ : ∃ M2 : Int, (if M < (pq : Int) then (pq : Int) else M) = M2 := ⟨_, rfl⟩
         have HMX : Aside0 (M2 = ((max m pq : Nat) : Int)) := ⟨by
          rw [← hmx, HM.out]
          by_cases h : m < pq
          ·rw [if_pos (by omega), Nat.max_eq_right (by omega)]
          ·rw [if_neg (by omega), Nat.max_eq_left (by omega)]⟩
         have HP := Aside0.mk hp
         clear hp hpq hlt
         go_wp2_with (first
          | ((with_reducible refine gate_dst (N := 12) rfl ?_); refine box_event ?hg (N := 12) ?hd (cs := #[.bool false, .int .i64 0]) (t := 85) ?hr ?_; (case hd => rfl); (case hg => rfl); (case hr => first | (go_simp; done) | (go_simp; rfl)); intro ga hga w7 hbox hb7; have HGA := Aside0.mk (show wr.heap.size ≤ ga by rw [hga]; exact Nat.le_refl _); clear hga; have hz0 : w7.cell? ⟨ga, 0, none⟩ = some (.bool false) := (blk_cell hbox 0).trans rfl; have hz1 : w7.cell? ⟨ga, 1, none⟩ = some (.int .i64 0) := (blk_cell hbox 1).trans rfl; have hf0 := blk_frozen hbox 0; have hf1 := blk_frozen hbox 1; have hq0 : ∀ x y : Value, ((w7.setCell ⟨ga, 0, none⟩ x).setCell ⟨ga, 1, none⟩ y).cell? ⟨ga, 1, none⟩ = some y := (fun x y => (blk_cell (blk_set (blk_set hbox 0 x) 1 y) 1).trans rfl); have hq1 : ∀ x y : Value, ((w7.setCell ⟨ga, 0, none⟩ x).setCell ⟨ga, 1, none⟩ y).cell? ⟨ga, 0, none⟩ = some x := (fun x y => (blk_cell (blk_set (blk_set hbox 0 x) 1 y) 0).trans rfl); have HBOX := Aside0.mk hbox; have HB7 := Aside0.mk hb7; clear hbox hb7)
          | (go_at_call 65; (with_reducible refine (HDO.out true rfl _ ?hbw).mono ?_); (case hbw => exact below_set (below_set HB7.out HGA.out) HGA.out); rintro e w3 ⟨rfl, hd3', hb3⟩; have HD3 := Aside0.mk hd3'; have HB3 := Aside0.mk ((below_then HB.out HB.out.size (below_set (w := wr) (below_set HB7.out HGA.out) HGA.out)).trans hb3); have hg3 : w3.cell? ⟨w1.heap.size, 2, none⟩ = some (.int .i64 (s2.gd : Int)) := (blk_cell hd3'.blk 2).trans rfl; clear hd3' hb3)
          | (go_at_call 63; (with_reducible refine (sweep_count.calls _ _ _ HCN.out).mono ?_); rintro e w' ⟨rfl, m1, rfl⟩))
         go_roundg gi
         case measure => omega
         case rel => exact ⟨i + 1, s2, M2, max m pq, rfl, by go_num, by omega, HMX, HP, ⟨HLT.out.1, HLT.out.2⟩, ⟨WAt.drewN HD3.out m1⟩, ⟨pw_below_drewN HB3.out _⟩⟩
     ·have hi1 : ((i : Int) < (l1.length : Int)) = False := eq_false (by omega)
      have hi2 : decide ((i : Int) < (l1.length : Int)) = false := decide_eq_false (by omega)
      obtain rfl : gk = 0 := by omega
      have hp := HP.out
      rw [List.drop_eq_nil_of_le (by omega)] at hp
      simp only [ownTo] at hp
      subst hp
      have hp3 : s.C.length = E.length := HW.out.len
      have HCF := Aside0.mk (contains_f s.C (by omega))
      have KEEP : Aside0 (∀ W, Below wr.heap.size wr W → W.cell? ⟨w1.heap.size, 1, none⟩ = some (.slice (some ⟨gc, 0, none⟩) E.length E.length) ∧ W.cell? ⟨w1.heap.size, 3, none⟩ = some (.int .i64 (s.had : Int)) ∧ Below wr.heap.size wr W) := ⟨fun W hW => ⟨(blk_cell (HW.out.below hW).blk 1).trans rfl, (blk_cell (HW.out.below hW).blk 3).trans rfl, hW⟩⟩
      have hbd : Below wr.heap.size wr wr.drew := below_drew (Below.refl _ _)
      obtain ⟨f1d, f3d, fbd⟩ := KEEP.out _ hbd
      obtain ⟨cn, hcn⟩ : ∃ b, s.C.contains false = b := ⟨_, rfl⟩
      have CCN : Aside0 (∀ W, (W.cell? ⟨w1.heap.size, 1, none⟩ = some (.slice (some ⟨gc, 0, none⟩) E.length E.length) ∧ W.cell? ⟨w1.heap.size, 3, none⟩ = some (.int .i64 (s.had : Int)) ∧ Below wr.heap.size wr W) → Calls Tryd.prog 66 #[.slice (some ⟨gc, 0, none⟩) E.length E.length, .bool false] W fun e w' => e = .returned (.bool cn) ∧ w'.cell? ⟨w1.heap.size, 1, none⟩ = some (.slice (some ⟨gc, 0, none⟩) E.length E.length) ∧ w'.cell? ⟨w1.heap.size, 3, none⟩ = some (.int .i64 (s.had : Int)) ∧ Below wr.heap.size wr w') := ⟨fun W hW => by
       have := slices_Contains_bool_bool.calls _ (some ⟨gc, 0, none⟩) E.length s.C false cn W ((HW.out.below hW.2.2).clr.C (by omega)) (by omega) (by rw [← hcn]; exact HCF.out)
       rw [hp3] at this
       exact this.mono fun e w' ⟨h, m, hm⟩ => ⟨h, KEEP.out w' (by rw [hm]; exact pw_below_drewN hW.2.2 m)⟩⟩
      have CAL : Aside0 (∀ W, (W.cell? ⟨w1.heap.size, 1, none⟩ = some (.slice (some ⟨gc, 0, none⟩) E.length E.length) ∧ W.cell? ⟨w1.heap.size, 3, none⟩ = some (.int .i64 (s.had : Int)) ∧ Below wr.heap.size wr W) → Calls Tryd.prog 61 #[.slice A2 G.length c2] W fun e w' => e = .returned (.int .i64 ((2 ^ G.length - 1 : Nat) : Int)) ∧ w'.cell? ⟨w1.heap.size, 1, none⟩ = some (.slice (some ⟨gc, 0, none⟩) E.length E.length) ∧ w'.cell? ⟨w1.heap.size, 3, none⟩ = some (.int .i64 (s.had : Int)) ∧ Below wr.heap.size wr w') := ⟨fun W hW => by
       have := sweep_town_all.calls A2 c2 (gi G) _ W (Kd.C_below HC2.out (below_then HB.out HB.out.size hW.2.2)) (by rw [HL.out]; exact hc2) HALL.out
       rw [HL.out] at this
       exact this.mono fun e w' ⟨h, m, hm⟩ => ⟨h, KEEP.out w' (by rw [hm]; exact pw_below_drewN hW.2.2 m)⟩⟩
      have HEQ := HEND.out
      simp only [finO] at HEQ
      rw [hcn] at HEQ
      have HBW := HB
      have HWW := HW
      obtain ⟨PA, hPA⟩ : ∃ x, 2 ^ G.length - 1 = x := ⟨_, rfl⟩
      rw [hPA] at HEQ CAL
      clear hcn HCF hbd hPA hp3
      cases cn
      ·by_cases hall : s.had = PA
       ·have t2 : ((s.had : Int) != (PA : Int)) = false := by simp [hall]
        have t3 : ((s.had : Int) == (PA : Int)) = true := by simp [hall]
        rw [if_neg (by simp), if_pos hall] at HEQ
        simp only [Prod.mk.injEq] at HEQ
        obtain ⟨e1, e2, e3⟩ := HEQ
        have E1 := Aside0.mk e1
        subst e2 e3
        clear hall e1
        go_wp2_with (fail)
        refine start_ (n := 14) (S := fun w' => w'.cell? ⟨w1.heap.size, 1, none⟩ = some (.slice (some ⟨gc, 0, none⟩) E.length E.length) ∧ w'.cell? ⟨w1.heap.size, 3, none⟩ = some (.int .i64 (s.had : Int)) ∧ Below wr.heap.size wr w') (ds := []) (Qbz 14 0) (by kernel_rfl) rfl rfl ⟨f1d, f3d, fbd⟩ (fun hHeld => ?_)
        refine pure_ (i := 0) (N := some 55) (v := ?_) (a' := ?_) (Qbz 14 1) rfl rfl (by kernel_rfl) (fun _ _ _ h => h) (Or.inl ⟨by rfl, ?_⟩) ?_ ?_
        rotate_left
        ·intro w'
         go_simp
         with_reducible rfl
        rotate_left
        ·simp only [Act.put, Qp1, Qp2, Qp3, i64_w, i32_w]
         rfl
        refine pure_ (i := 1) (N := some 56) (v := ?_) (a' := ?_) (Qbz 14 3) rfl rfl (by kernel_rfl) (fun _ _ _ h => h) (Or.inl ⟨by rfl, ?_⟩) ?_ ?_
        rotate_left
        ·intro w'
         go_simp
         with_reducible rfl
        rotate_left
        ·simp only [Act.put, Qp1, Qp2, Qp3, i64_w, i32_w]
         rfl
        refine pure_ (i := 2) (N := some 57) (v := ?_) (a' := ?_) (Qbz 14 7) rfl rfl (by kernel_rfl) (fun _ _ _ h => h) (Or.inl ⟨by rfl, ?_⟩) ?_ ?_
        rotate_left
        ·intro w'
         go_simp
         with_reducible rfl
        rotate_left
        ·simp only [Act.put, Qp1, Qp2, Qp3, i64_w, i32_w]
         rfl
        refine take_ (i := 3) (N := some 58) (v := ?_) (a' := ?_) (Qbz 14 15) rfl rfl (by kernel_rfl) (fun _ _ _ h => h) (Or.inl ⟨by rfl, ?_⟩) hHeld ?_ ?_
        rotate_left
        ·rintro w' ⟨s0, s1, s2⟩
         go_simp
         with_reducible rfl
        rotate_left
        ·simp only [Act.put, Qp1, Qp2, Qp3, i64_w, i32_w]
         rfl
        refine one_ (i := 4) (N := some 59) (Qbz 14 31) rfl rfl (by kernel_rfl) (by decide) (fun K hK => ?_)
        refine goes_ Tryd.func66 (by kernel_rfl) rfl #[.slice (some ⟨gc, 0, none⟩) E.length E.length, .bool false] (by rfl) rfl rfl (by simp only [List.map_toArray, List.map_cons, List.map_nil]; rfl) ?_
        with_reducible refine (CCN.out _ hHeld).mono ?_
        rintro e w3 ⟨rfl, g1, g3, gB⟩
        refine ⟨_, rfl, ?_⟩
        refine hK.out _ _ ⟨g1, g3, gB⟩ (fun hHeld => ?_)
        clear hK K
        refine norm_ (a' := ?_) ?_ ?_
        rotate_left
        ·show Act.put _ (some 59) _ = _
         simp only [Act.put, Qp1, Qp2, Qp3, i64_w, i32_w]
         rfl
        refine pure_ (i := 5) (N := some 60) (v := ?_) (a' := ?_) (Qbz 14 63) rfl rfl (by kernel_rfl) (fun _ _ _ h => h) (Or.inl ⟨by rfl, ?_⟩) ?_ ?_
        rotate_left
        ·intro w'
         go_simp
         with_reducible rfl
        rotate_left
        ·simp only [Act.put, Qp1, Qp2, Qp3, i64_w, i32_w]
         rfl
        refine pure_ (i := 6) (N := some 61) (v := ?_) (a' := ?_) (Qbz 14 127) rfl rfl (by kernel_rfl) (fun _ _ _ h => h) (Or.inl ⟨by rfl, ?_⟩) ?_ ?_
        rotate_left
        ·intro w'
         go_simp
         with_reducible rfl
        rotate_left
        ·simp only [Act.put, Qp1, Qp2, Qp3, i64_w, i32_w]
         rfl
        refine pure_ (i := 7) (N := some 62) (v := ?_) (a' := ?_) (Qbz 14 255) rfl rfl (by kernel_rfl) (fun _ _ _ h => h) (Or.inl ⟨by rfl, ?_⟩) ?_ ?_
        rotate_left
        ·intro w'
         go_simp
         with_reducible rfl
        rotate_left
        ·simp only [Act.put, Qp1, Qp2, Qp3, i64_w, i32_w]
         rfl
        refine pure_ (i := 8) (N := some 63) (v := ?_) (a' := ?_) (Qbz 14 511) rfl rfl (by kernel_rfl) (fun _ _ _ h => h) (Or.inl ⟨by rfl, ?_⟩) ?_ ?_
        rotate_left
        ·intro w'
         go_simp
         with_reducible rfl
        rotate_left
        ·simp only [Act.put, Qp1, Qp2, Qp3, i64_w, i32_w]
         rfl
        refine pure_ (i := 10) (N := some 65) (v := ?_) (a' := ?_) (Qbz 14 1535) rfl rfl (by kernel_rfl) (fun _ _ _ h => h) (Or.inl ⟨by rfl, ?_⟩) ?_ ?_
        rotate_left
        ·intro w'
         go_simp
         with_reducible rfl
        rotate_left
        ·simp only [Act.put, Qp1, Qp2, Qp3, i64_w, i32_w]
         rfl
        refine take_ (i := 9) (N := some 64) (v := ?_) (a' := ?_) (Qbz 14 2047) rfl rfl (by kernel_rfl) (fun _ _ _ h => h) (Or.inl ⟨by rfl, ?_⟩) hHeld ?_ ?_
        rotate_left
        ·rintro w' ⟨s0, s1, s2⟩
         go_simp
         with_reducible rfl
        rotate_left
        ·simp only [Act.put, Qp1, Qp2, Qp3, i64_w, i32_w]
         rfl
        refine one_ (i := 11) (N := some 66) (Qbz 14 4095) rfl rfl (by kernel_rfl) (by decide) (fun K hK => ?_)
        refine goes_ Tryd.func61 (by kernel_rfl) rfl #[.slice A2 G.length c2] (by rfl) rfl rfl (by simp only [List.map_toArray, List.map_cons, List.map_nil]; rfl) ?_
        with_reducible refine (CAL.out _ hHeld).mono ?_
        rintro e w3 ⟨rfl, g1, g3, gB⟩
        refine ⟨_, rfl, ?_⟩
        refine hK.out _ _ ⟨g1, g3, gB⟩ (fun hHeld => ?_)
        clear hK K
        refine norm_ (a' := ?_) ?_ ?_
        rotate_left
        ·show Act.put _ (some 66) _ = _
         simp only [Act.put, Qp1, Qp2, Qp3, i64_w, i32_w]
         rfl
        refine pure_ (i := 12) (N := some 67) (v := ?_) (a' := ?_) (Qbz 14 8191) rfl rfl (by kernel_rfl) (fun _ _ _ h => h) (Or.inl ⟨by rfl, ?_⟩) ?_ ?_
        rotate_left
        ·intro w'
         go_simp
         with_reducible rfl
        rotate_left
        ·simp only [Act.put, Qp1, Qp2, Qp3, i64_w, i32_w]
         rfl
        refine pure_ (i := 13) (N := some 68) (v := ?_) (a' := ?_) (Qbz 14 16383) rfl rfl (by kernel_rfl) (fun _ _ _ h => h) (Or.inl ⟨by rfl, ?_⟩) ?_ ?_
        rotate_left
        ·intro w'
         go_simp
         with_reducible rfl
        rotate_left
        ·simp only [Act.put, Qp1, Qp2, Qp3, i64_w, i32_w]
         rfl
        refine done_ (by kernel_rfl) ?_
        go_wp2
        have f4d : w3.drew.cell? ⟨w1.heap.size, 4, none⟩ = some (.bool s.bk) := (blk_cell (HW.out.below gB).blk 4).trans rfl
        refine start_ (n := 9) (S := fun w' => w'.cell? ⟨w1.heap.size, 4, none⟩ = some (.bool s.bk)) (ds := []) (Qbz 9 0) (by kernel_rfl) rfl rfl (f4d) (fun hHeld => ?_)
        refine pure_ (i := 0) (N := some 69) (v := ?_) (a' := ?_) (Qbz 9 1) rfl rfl (by kernel_rfl) (fun _ _ _ h => h) (Or.inl ⟨by rfl, ?_⟩) ?_ ?_
        rotate_left
        ·intro w'
         go_simp
         with_reducible rfl
        rotate_left
        ·simp only [Act.put, Qp1, Qp2, Qp3, i64_w, i32_w]
         rfl
        refine pure_ (i := 1) (N := some 70) (v := ?_) (a' := ?_) (Qbz 9 3) rfl rfl (by kernel_rfl) (fun _ _ _ h => h) (Or.inl ⟨by rfl, ?_⟩) ?_ ?_
        rotate_left
        ·intro w'
         go_simp
         with_reducible rfl
        rotate_left
        ·simp only [Act.put, Qp1, Qp2, Qp3, i64_w, i32_w]
         rfl
        refine pure_ (i := 2) (N := some 71) (v := ?_) (a' := ?_) (Qbz 9 7) rfl rfl (by kernel_rfl) (fun _ _ _ h => h) (Or.inl ⟨by rfl, ?_⟩) ?_ ?_
        rotate_left
        ·intro w'
         go_simp
         with_reducible rfl
        rotate_left
        ·simp only [Act.put, Qp1, Qp2, Qp3, i64_w, i32_w]
         rfl
        refine pure_ (i := 3) (N := some 72) (v := ?_) (a' := ?_) (Qbz 9 15) rfl rfl (by kernel_rfl) (fun _ _ _ h => h) (Or.inl ⟨by rfl, ?_⟩) ?_ ?_
        rotate_left
        ·intro w'
         go_simp
         with_reducible rfl
        rotate_left
        ·simp only [Act.put, Qp1, Qp2, Qp3, i64_w, i32_w]
         rfl
        refine pure_ (i := 5) (N := some 4) (v := ?_) (a' := ?_) (Qbz 9 47) rfl rfl (by kernel_rfl) (fun _ _ _ h => h) (Or.inl ⟨by rfl, ?_⟩) ?_ ?_
        rotate_left
        ·intro w'
         go_simp
         with_reducible rfl
        rotate_left
        ·simp only [Act.put, Qp1, Qp2, Qp3, i64_w, i32_w]
         rfl
        refine take_ (i := 4) (N := some 73) (v := ?_) (a' := ?_) (Qbz 9 63) rfl rfl (by kernel_rfl) (fun _ _ _ h => h) (Or.inl ⟨by rfl, ?_⟩) hHeld ?_ ?_
        rotate_left
        ·intro w' s0
         go_simp
         with_reducible rfl
        rotate_left
        ·simp only [Act.put, Qp1, Qp2, Qp3, i64_w, i32_w]
         rfl
        refine pure_ (i := 6) (N := some 5) (v := ?_) (a' := ?_) (Qbz 9 127) rfl rfl (by kernel_rfl) (fun _ _ _ h => h) (Or.inl ⟨by rfl, ?_⟩) ?_ ?_
        rotate_left
        ·intro w'
         go_simp
         with_reducible rfl
        rotate_left
        ·simp only [Act.put, Qp1, Qp2, Qp3, i64_w, i32_w]
         rfl
        refine pure_ (i := 7) (N := some 6) (v := ?_) (a' := ?_) (Qbz 9 255) rfl rfl (by kernel_rfl) (fun _ _ _ h => h) (Or.inl ⟨by rfl, ?_⟩) ?_ ?_
        rotate_left
        ·intro w'
         go_simp
         with_reducible rfl
        rotate_left
        ·simp only [Act.put, Qp1, Qp2, Qp3, i64_w, i32_w]
         rfl
        refine pure_ (i := 8) (N := some 7) (v := ?_) (a' := ?_) (Qbz 9 511) rfl rfl (by kernel_rfl) (fun _ _ _ h => h) (Or.inl ⟨by rfl, ?_⟩) ?_ ?_
        rotate_left
        ·intro w'
         go_simp
         with_reducible rfl
        rotate_left
        ·simp only [Act.put, Qp1, Qp2, Qp3, i64_w, i32_w]
         rfl
        refine done_ (by kernel_rfl) ?_
        go_wp2
        ((try simp only [Exit.inBlock, Exit.then]); refine bodyPost_ret (results_tmp4 rfl _ _ _) rfl ?_)
        refine ⟨?_, below_drew (below_then HBW0.out HBW0.out.size gB)⟩
        rw [← E1.out, ← HM.out]
        rfl
       ·have t2 : ((s.had : Int) != (PA : Int)) = true := by simp; omega
        have t3 : ((s.had : Int) == (PA : Int)) = false := by simp; omega
        rw [if_neg (by simp), if_neg hall] at HEQ
        simp only [Prod.mk.injEq] at HEQ
        obtain ⟨rfl, rfl, rfl⟩ := HEQ
        clear hall
        go_wp2_with (fail)
        refine start_ (n := 14) (S := fun w' => w'.cell? ⟨w1.heap.size, 1, none⟩ = some (.slice (some ⟨gc, 0, none⟩) E.length E.length) ∧ w'.cell? ⟨w1.heap.size, 3, none⟩ = some (.int .i64 (s.had : Int)) ∧ Below wr.heap.size wr w') (ds := []) (Qbz 14 0) (by kernel_rfl) rfl rfl ⟨f1d, f3d, fbd⟩ (fun hHeld => ?_)
        refine pure_ (i := 0) (N := some 55) (v := ?_) (a' := ?_) (Qbz 14 1) rfl rfl (by kernel_rfl) (fun _ _ _ h => h) (Or.inl ⟨by rfl, ?_⟩) ?_ ?_
        rotate_left
        ·intro w'
         go_simp
         with_reducible rfl
        rotate_left
        ·simp only [Act.put, Qp1, Qp2, Qp3, i64_w, i32_w]
         rfl
        refine pure_ (i := 1) (N := some 56) (v := ?_) (a' := ?_) (Qbz 14 3) rfl rfl (by kernel_rfl) (fun _ _ _ h => h) (Or.inl ⟨by rfl, ?_⟩) ?_ ?_
        rotate_left
        ·intro w'
         go_simp
         with_reducible rfl
        rotate_left
        ·simp only [Act.put, Qp1, Qp2, Qp3, i64_w, i32_w]
         rfl
        refine pure_ (i := 2) (N := some 57) (v := ?_) (a' := ?_) (Qbz 14 7) rfl rfl (by kernel_rfl) (fun _ _ _ h => h) (Or.inl ⟨by rfl, ?_⟩) ?_ ?_
        rotate_left
        ·intro w'
         go_simp
         with_reducible rfl
        rotate_left
        ·simp only [Act.put, Qp1, Qp2, Qp3, i64_w, i32_w]
         rfl
        refine take_ (i := 3) (N := some 58) (v := ?_) (a' := ?_) (Qbz 14 15) rfl rfl (by kernel_rfl) (fun _ _ _ h => h) (Or.inl ⟨by rfl, ?_⟩) hHeld ?_ ?_
        rotate_left
        ·rintro w' ⟨s0, s1, s2⟩
         go_simp
         with_reducible rfl
        rotate_left
        ·simp only [Act.put, Qp1, Qp2, Qp3, i64_w, i32_w]
         rfl
        refine one_ (i := 4) (N := some 59) (Qbz 14 31) rfl rfl (by kernel_rfl) (by decide) (fun K hK => ?_)
        refine goes_ Tryd.func66 (by kernel_rfl) rfl #[.slice (some ⟨gc, 0, none⟩) E.length E.length, .bool false] (by rfl) rfl rfl (by simp only [List.map_toArray, List.map_cons, List.map_nil]; rfl) ?_
        with_reducible refine (CCN.out _ hHeld).mono ?_
        rintro e w3 ⟨rfl, g1, g3, gB⟩
        refine ⟨_, rfl, ?_⟩
        refine hK.out _ _ ⟨g1, g3, gB⟩ (fun hHeld => ?_)
        clear hK K
        refine norm_ (a' := ?_) ?_ ?_
        rotate_left
        ·show Act.put _ (some 59) _ = _
         simp only [Act.put, Qp1, Qp2, Qp3, i64_w, i32_w]
         rfl
        refine pure_ (i := 5) (N := some 60) (v := ?_) (a' := ?_) (Qbz 14 63) rfl rfl (by kernel_rfl) (fun _ _ _ h => h) (Or.inl ⟨by rfl, ?_⟩) ?_ ?_
        rotate_left
        ·intro w'
         go_simp
         with_reducible rfl
        rotate_left
        ·simp only [Act.put, Qp1, Qp2, Qp3, i64_w, i32_w]
         rfl
        refine pure_ (i := 6) (N := some 61) (v := ?_) (a' := ?_) (Qbz 14 127) rfl rfl (by kernel_rfl) (fun _ _ _ h => h) (Or.inl ⟨by rfl, ?_⟩) ?_ ?_
        rotate_left
        ·intro w'
         go_simp
         with_reducible rfl
        rotate_left
        ·simp only [Act.put, Qp1, Qp2, Qp3, i64_w, i32_w]
         rfl
        refine pure_ (i := 7) (N := some 62) (v := ?_) (a' := ?_) (Qbz 14 255) rfl rfl (by kernel_rfl) (fun _ _ _ h => h) (Or.inl ⟨by rfl, ?_⟩) ?_ ?_
        rotate_left
        ·intro w'
         go_simp
         with_reducible rfl
        rotate_left
        ·simp only [Act.put, Qp1, Qp2, Qp3, i64_w, i32_w]
         rfl
        refine pure_ (i := 8) (N := some 63) (v := ?_) (a' := ?_) (Qbz 14 511) rfl rfl (by kernel_rfl) (fun _ _ _ h => h) (Or.inl ⟨by rfl, ?_⟩) ?_ ?_
        rotate_left
        ·intro w'
         go_simp
         with_reducible rfl
        rotate_left
        ·simp only [Act.put, Qp1, Qp2, Qp3, i64_w, i32_w]
         rfl
        refine pure_ (i := 10) (N := some 65) (v := ?_) (a' := ?_) (Qbz 14 1535) rfl rfl (by kernel_rfl) (fun _ _ _ h => h) (Or.inl ⟨by rfl, ?_⟩) ?_ ?_
        rotate_left
        ·intro w'
         go_simp
         with_reducible rfl
        rotate_left
        ·simp only [Act.put, Qp1, Qp2, Qp3, i64_w, i32_w]
         rfl
        refine take_ (i := 9) (N := some 64) (v := ?_) (a' := ?_) (Qbz 14 2047) rfl rfl (by kernel_rfl) (fun _ _ _ h => h) (Or.inl ⟨by rfl, ?_⟩) hHeld ?_ ?_
        rotate_left
        ·rintro w' ⟨s0, s1, s2⟩
         go_simp
         with_reducible rfl
        rotate_left
        ·simp only [Act.put, Qp1, Qp2, Qp3, i64_w, i32_w]
         rfl
        refine one_ (i := 11) (N := some 66) (Qbz 14 4095) rfl rfl (by kernel_rfl) (by decide) (fun K hK => ?_)
        refine goes_ Tryd.func61 (by kernel_rfl) rfl #[.slice A2 G.length c2] (by rfl) rfl rfl (by simp only [List.map_toArray, List.map_cons, List.map_nil]; rfl) ?_
        with_reducible refine (CAL.out _ hHeld).mono ?_
        rintro e w3 ⟨rfl, g1, g3, gB⟩
        refine ⟨_, rfl, ?_⟩
        refine hK.out _ _ ⟨g1, g3, gB⟩ (fun hHeld => ?_)
        clear hK K
        refine norm_ (a' := ?_) ?_ ?_
        rotate_left
        ·show Act.put _ (some 66) _ = _
         simp only [Act.put, Qp1, Qp2, Qp3, i64_w, i32_w]
         rfl
        refine pure_ (i := 12) (N := some 67) (v := ?_) (a' := ?_) (Qbz 14 8191) rfl rfl (by kernel_rfl) (fun _ _ _ h => h) (Or.inl ⟨by rfl, ?_⟩) ?_ ?_
        rotate_left
        ·intro w'
         go_simp
         with_reducible rfl
        rotate_left
        ·simp only [Act.put, Qp1, Qp2, Qp3, i64_w, i32_w]
         rfl
        refine pure_ (i := 13) (N := some 68) (v := ?_) (a' := ?_) (Qbz 14 16383) rfl rfl (by kernel_rfl) (fun _ _ _ h => h) (Or.inl ⟨by rfl, ?_⟩) ?_ ?_
        rotate_left
        ·intro w'
         go_simp
         with_reducible rfl
        rotate_left
        ·simp only [Act.put, Qp1, Qp2, Qp3, i64_w, i32_w]
         rfl
        refine done_ (by kernel_rfl) ?_
        go_wp2
        ((try simp only [Exit.inBlock, Exit.then]); refine bodyPost_ret (results_tmp4 rfl _ _ _) rfl ?_)
        exact ⟨rfl, below_then HBW0.out HBW0.out.size gB⟩
      ·rw [if_pos rfl] at HEQ
       simp only [Prod.mk.injEq] at HEQ
       obtain ⟨rfl, rfl, rfl⟩ := HEQ
       go_wp2_with (fail)
       refine start_ (n := 14) (S := fun w' => w'.cell? ⟨w1.heap.size, 1, none⟩ = some (.slice (some ⟨gc, 0, none⟩) E.length E.length) ∧ w'.cell? ⟨w1.heap.size, 3, none⟩ = some (.int .i64 (s.had : Int)) ∧ Below wr.heap.size wr w') (ds := []) (Qbz 14 0) (by kernel_rfl) rfl rfl ⟨f1d, f3d, fbd⟩ (fun hHeld => ?_)
       refine pure_ (i := 0) (N := some 55) (v := ?_) (a' := ?_) (Qbz 14 1) rfl rfl (by kernel_rfl) (fun _ _ _ h => h) (Or.inl ⟨by rfl, ?_⟩) ?_ ?_
       rotate_left
       ·intro w'
        go_simp
        with_reducible rfl
       rotate_left
       ·simp only [Act.put, Qp1, Qp2, Qp3, i64_w, i32_w]
        rfl
       refine pure_ (i := 1) (N := some 56) (v := ?_) (a' := ?_) (Qbz 14 3) rfl rfl (by kernel_rfl) (fun _ _ _ h => h) (Or.inl ⟨by rfl, ?_⟩) ?_ ?_
       rotate_left
       ·intro w'
        go_simp
        with_reducible rfl
       rotate_left
       ·simp only [Act.put, Qp1, Qp2, Qp3, i64_w, i32_w]
        rfl
       refine pure_ (i := 2) (N := some 57) (v := ?_) (a' := ?_) (Qbz 14 7) rfl rfl (by kernel_rfl) (fun _ _ _ h => h) (Or.inl ⟨by rfl, ?_⟩) ?_ ?_
       rotate_left
       ·intro w'
        go_simp
        with_reducible rfl
       rotate_left
       ·simp only [Act.put, Qp1, Qp2, Qp3, i64_w, i32_w]
        rfl
       refine take_ (i := 3) (N := some 58) (v := ?_) (a' := ?_) (Qbz 14 15) rfl rfl (by kernel_rfl) (fun _ _ _ h => h) (Or.inl ⟨by rfl, ?_⟩) hHeld ?_ ?_
       rotate_left
       ·rintro w' ⟨s0, s1, s2⟩
        go_simp
        with_reducible rfl
       rotate_left
       ·simp only [Act.put, Qp1, Qp2, Qp3, i64_w, i32_w]
        rfl
       refine one_ (i := 4) (N := some 59) (Qbz 14 31) rfl rfl (by kernel_rfl) (by decide) (fun K hK => ?_)
       refine goes_ Tryd.func66 (by kernel_rfl) rfl #[.slice (some ⟨gc, 0, none⟩) E.length E.length, .bool false] (by rfl) rfl rfl (by simp only [List.map_toArray, List.map_cons, List.map_nil]; rfl) ?_
       with_reducible refine (CCN.out _ hHeld).mono ?_
       rintro e w3 ⟨rfl, g1, g3, gB⟩
       refine ⟨_, rfl, ?_⟩
       refine hK.out _ _ ⟨g1, g3, gB⟩ (fun hHeld => ?_)
       clear hK K
       refine norm_ (a' := ?_) ?_ ?_
       rotate_left
       ·show Act.put _ (some 59) _ = _
        simp only [Act.put, Qp1, Qp2, Qp3, i64_w, i32_w]
        rfl
       refine pure_ (i := 5) (N := some 60) (v := ?_) (a' := ?_) (Qbz 14 63) rfl rfl (by kernel_rfl) (fun _ _ _ h => h) (Or.inl ⟨by rfl, ?_⟩) ?_ ?_
       rotate_left
       ·intro w'
        go_simp
        with_reducible rfl
       rotate_left
       ·simp only [Act.put, Qp1, Qp2, Qp3, i64_w, i32_w]
        rfl
       refine pure_ (i := 6) (N := some 61) (v := undef) (a' := ?_) (Qbz 14 127) rfl rfl (by kernel_rfl) (fun _ _ _ h => h) (Or.inr ⟨by rfl, rfl⟩) ?_ ?_
       rotate_left
       ·simp only [Act.put, Qp1, Qp2, Qp3, i64_w, i32_w]
        rfl
       refine pure_ (i := 7) (N := some 62) (v := undef) (a' := ?_) (Qbz 14 255) rfl rfl (by kernel_rfl) (fun _ _ _ h => h) (Or.inr ⟨by rfl, rfl⟩) ?_ ?_
       rotate_left
       ·simp only [Act.put, Qp1, Qp2, Qp3, i64_w, i32_w]
        rfl
       refine pure_ (i := 8) (N := some 63) (v := undef) (a' := ?_) (Qbz 14 511) rfl rfl (by kernel_rfl) (fun _ _ _ h => h) (Or.inr ⟨by rfl, rfl⟩) ?_ ?_
       rotate_left
       ·simp only [Act.put, Qp1, Qp2, Qp3, i64_w, i32_w]
        rfl
       refine pure_ (i := 9) (N := some 64) (v := undef) (a' := ?_) (Qbz 14 1023) rfl rfl (by kernel_rfl) (fun _ _ _ h => h) (Or.inr ⟨by rfl, rfl⟩) ?_ ?_
       rotate_left
       ·simp only [Act.put, Qp1, Qp2, Qp3, i64_w, i32_w]
        rfl
       refine pure_ (i := 10) (N := some 65) (v := undef) (a' := ?_) (Qbz 14 2047) rfl rfl (by kernel_rfl) (fun _ _ _ h => h) (Or.inr ⟨by rfl, rfl⟩) ?_ ?_
       rotate_left
       ·simp only [Act.put, Qp1, Qp2, Qp3, i64_w, i32_w]
        rfl
       refine pure_ (i := 11) (N := some 66) (v := undef) (a' := ?_) (Qbz 14 4095) rfl rfl (by kernel_rfl) (fun _ _ _ h => h) (Or.inr ⟨by rfl, rfl⟩) ?_ ?_
       rotate_left
       ·simp only [Act.put, Qp1, Qp2, Qp3, i64_w, i32_w]
        rfl
       refine pure_ (i := 12) (N := some 67) (v := undef) (a' := ?_) (Qbz 14 8191) rfl rfl (by kernel_rfl) (fun _ _ _ h => h) (Or.inr ⟨by rfl, rfl⟩) ?_ ?_
       rotate_left
       ·simp only [Act.put, Qp1, Qp2, Qp3, i64_w, i32_w]
        rfl
       refine pure_ (i := 13) (N := some 68) (v := ?_) (a' := ?_) (Qbz 14 16383) rfl rfl (by kernel_rfl) (fun _ _ _ h => h) (Or.inl ⟨by rfl, ?_⟩) ?_ ?_
       rotate_left
       ·intro w'
        go_simp
        with_reducible rfl
       rotate_left
       ·simp only [Act.put, Qp1, Qp2, Qp3, i64_w, i32_w]
        rfl
       refine done_ (by kernel_rfl) ?_
       go_wp2
       ((try simp only [Exit.inBlock, Exit.then]); refine bodyPost_ret (results_tmp4 rfl _ _ _) rfl ?_)
       exact ⟨rfl, below_then HBW0.out HBW0.out.size gB⟩
   ·have hl2 : decide ((l1.length : Int) > 100) = true := decide_eq_true (by omega)
    have hl3 : ((l1.length : Int) > 100) = True := eq_true (by omega)
    have hh := H.out
    unfold ownPlay at hh
    rw [if_pos (by omega)] at hh
    simp only [Prod.mk.injEq] at hh
    obtain ⟨rfl, rfl, rfl⟩ := hh
    go_enter Tryd.func38, Tryd.ntmps38
    go_wp2_with (go_at_call 49; refine HRD.out.mono ?_; rintro e w1 ⟨A2, c2, rfl, hc2, hC2, hb1⟩)
    ((try simp only [Exit.inBlock, Exit.then]); refine bodyPost_ret (results_tmp4 rfl _ _ _) rfl ?_)
    exact ⟨rfl, hb1⟩
  ·rw [if_neg hchk] at h
   injection h with h
   simp only [Prod.mk.injEq] at h
   obtain ⟨rfl, rfl, rfl, rfl⟩ := h
   have HRD := Aside0.mk (read_no hlen (by simpa using hchk) A0 c0 w hr0 hc0)
   clear hchk hr0 hc0
   go_enter Tryd.func38, Tryd.ntmps38
   go_wp2_with (go_at_call 49; refine HRD.out.mono ?_; rintro e w1 ⟨v, rfl, hb1⟩)
   ((try simp only [Exit.inBlock, Exit.then]); refine bodyPost_ret (results_tmp4 rfl _ _ _) rfl ?_)
   exact ⟨rfl, hb1⟩
 ·rw [if_neg hlen] at h
  cases h
end Go.Proofs.YtijfddobandcdaaDoor.X
end
