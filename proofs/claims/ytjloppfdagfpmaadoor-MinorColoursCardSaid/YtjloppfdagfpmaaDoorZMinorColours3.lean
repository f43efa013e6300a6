/- Part 3 of what MinorColours rests on: contracts of the functions that it reaches, and what they compute, in plain words. -/
import Derived.Test.YtjloppfdagfpmaaDoorZMinorColours2
import Derived.Test.YtjloppfdagfpmaaDoorZMinorColours1
import Derived.Test.YtjloppfdagfpmaaDoorZMinorColours0
import Derived.WalkSpells
set_option linter.unusedVariables false
set_option linter.unusedSimpArgs false
section
namespace Go.Proofs.YtjloppfdagfpmaaDoor.X
open Go.RowKit YtjloppfdagfpmaaDoorW.PrintWords YtjloppfdagfpmaaDoorW.PrintLast YtjloppfdagfpmaaDoorW.PrintMore YtjloppfdagfpmaaDoor.T
attribute [local go_sem] max2_int min2_int max_two min_two max_three min_three max_four min_four run_makeMap
def numG (G : List Nat) (K : Nat) : Nat := num G K 0 0 (els (2 ^ G.length - 1) 9)
def width_Count.f (g B P : List Int) (K : Int) : Option (Int × Int) :=
 if chk 9 g = true then (if treeB (g.map Int.toNat) B P = true ∧ 0 ≤ K ∧ K ≤ 6 then some ((numG (g.map Int.toNat) K.toNat : Int), 0) else some (0, 2)) else if g.length < 1000 then some (0, 2) else none
theorem idx_l0 (l : List Int) (x : Int) (hl : l.length ≤ 1000) : ∀ d i, i + d = l.length → (∃ k : Nat, i ≤ k ∧ k < l.length ∧ x = rd l (k : Int)) → ∃ z : Nat, z < l.length ∧ x = rd l (z : Int) ∧ Ev (fun k => slices_Index_int_int.l0 k l x (l.length : Int) (i : Int)) (z : Int) := by
 intro d
 induction d with
 | zero =>
  rintro i hi ⟨k, h1, h2, _⟩
  omega
 | succ d ih =>
  rintro i hi ⟨k, h1, h2, h3⟩
  by_cases e : x = rd l (i : Int)
  ·exact ⟨i, by omega, e, Ev.step (f := fun _ => some (i : Int)) (fun m => by rw [slices_Index_int_int.l0, if_pos (by omega), if_pos (by omega), if_pos (by omega), if_pos e]) (Ev.some rfl)⟩
  ·obtain ⟨z, hz, hz2, hE⟩ := ih (i + 1) (by omega) ⟨k, by
    by_cases e2 : k = i
    ·subst e2; exact absurd h3 e
    ·omega, h2, h3⟩
   exact ⟨z, hz, hz2, Ev.step (fun m => by rw [slices_Index_int_int.l0, if_pos (by omega), if_pos (by omega), if_pos (by omega), if_neg e, wrap_succ i (by omega)]) hE⟩
theorem idx_calls (A : Option Addr) (c : Nat) (l : List Int) (x : Int) (hl : l.length ≤ 1000) (hx : ∃ k : Nat, k < l.length ∧ x = rd l (k : Int)) (w : World) (hr : Kd.C (Kd.int .i64) w A l.length l) (hc : l.length ≤ c) :
  ∃ z : Nat, z < l.length ∧ x = rd l (z : Int) ∧ Calls Tryd.prog 91 #[.slice A l.length c, .int .i64 x] w fun e w' => e = .returned (.int .i64 (z : Int)) ∧ Below w.heap.size w w' := by
 obtain ⟨k, k1, k2⟩ := hx
 obtain ⟨z, z1, z2, K, hK⟩ := idx_l0 l x hl l.length 0 (by omega) ⟨k, by omega, k1, k2⟩
 refine ⟨z, z1, z2, (slices_Index_int_int.calls K A c l x _ w hr hc (hK K (Nat.le_refl _))).mono ?_⟩
 rintro e w' ⟨rfl, hb⟩
 exact ⟨rfl, hb.below⟩
set_option maxHeartbeats 8000000 in
set_option maxRecDepth 100000 in
theorem count_no1 (Ag : Option Addr) (cg : Nat) (g : List Int) (A0 : Option Addr) (n0 c0 : Nat) (A1 : Option Addr) (n1 c1 : Nat) (K : Int) (w : World) (hrg : Kd.C (Kd.int .i64) w Ag g.length g) (hcg : g.length ≤ cg) (hl : g.length < 1000) (hchk : chk 9 g = false) :
  Calls Tryd.prog 60 #[.slice Ag g.length cg, .agg #[.slice A0 n0 c0, .slice A1 n1 c1], .int .i64 K] w fun e w' => e = .returned (.tuple #[.int .i64 0, .int .i64 2]) ∧ Below w.heap.size w w' := by
 have HRD : Aside0 (∀ W, Below w.heap.size w W → Calls Tryd.prog 86 #[.slice Ag g.length cg] W fun e w' => ∃ v, e = .returned (.tuple #[v, .bool false]) ∧ Below W.heap.size W w') := ⟨fun W hW => readN_no (by omega) hchk Ag cg W (Kd.C_below hrg hW) hcg⟩
 have hu53 := Tryd.underlying75
 clear hrg hcg hl hchk
 go_enter Tryd.func60, Tryd.ntmps60
 go_wp2_with (first | ((with_reducible refine gate_dst (N := 4) rfl ?_); refine box_event ?hg (N := 4) ?hd (cs := #[.slice A0 n0 c0, .slice A1 n1 c1]) (t := 75) ?hr ?_; (case hd => rfl); (case hg => rfl); (case hr => first | (go_simp; done) | (go_simp; rfl)); intro xB hxB w1 hbox hb1; have HB1 := Aside0.mk hb1; clear hbox hb1 hxB) | (go_at_call 86; refine (HRD.out _ HB1.out).mono ?_; rintro e w3 ⟨v, rfl, hb3⟩; have HB3 := Aside0.mk (below_step HB1.out hb3); clear hb3))
 go_ret2
 exact ⟨rfl, HB3.out⟩
set_option maxHeartbeats 8000000 in
set_option maxRecDepth 100000 in
theorem count_no2 {G : List Nat} (hG : Gr 9 G) (Ag : Option Addr) (cg : Nat) (A0 : Option Addr) (c0 : Nat) (B : List Int) (A1 : Option Addr) (c1 : Nat) (P : List Int) (K : Int) (w : World) (hGL : GL w) (hrg : Kd.C (Kd.int .i64) w Ag (gi G).length (gi G)) (hcg : (gi G).length ≤ cg) (hr0 : Kd.C (Kd.int .i64) w A0 B.length B) (hc0 : B.length ≤ c0) (hr1 : Kd.C (Kd.int .i64) w A1 P.length P) (hc1 : P.length ≤ c1) (bt : Bool) (hbt : treeB G B P = bt) (hno : bt = false ∨ K < 0 ∨ 6 < K) :
  Calls Tryd.prog 60 #[.slice Ag (gi G).length cg, .agg #[.slice A0 B.length c0, .slice A1 P.length c1], .int .i64 K] w fun e w' => e = .returned (.tuple #[.int .i64 0, .int .i64 2]) ∧ Below w.heap.size w w' := by
 have HRD : Aside0 (∀ W, Below w.heap.size w W → Calls Tryd.prog 86 #[.slice Ag (gi G).length cg] W fun e w' => ∃ A1 c1, e = .returned (.tuple #[.slice A1 (gi G).length c1, .bool true]) ∧ (gi G).length ≤ c1 ∧ Kd.C (Kd.int .i64) w' A1 (gi G).length (gi G) ∧ Below W.heap.size W w') := ⟨fun W hW => readN_yes hG Ag cg W (Kd.C_below hrg hW) hcg⟩
 have HTR : Aside0 (∀ W A2 c2, Below w.heap.size w W → (gi G).length ≤ c2 → Kd.C (Kd.int .i64) W A2 (gi G).length (gi G) → Calls Tryd.prog 89 #[.slice A2 (gi G).length c2, .agg #[.slice A0 B.length c0, .slice A1 P.length c1]] W fun e w' => e = .returned (.bool bt) ∧ Below W.heap.size W w') := ⟨fun W A2 c2 hW hc hC => width_town_tree.calls A2 c2 (gi G) A0 c0 B A1 c1 P bt W (GL_below hGL hW) hC hc (Kd.C_below hr0 hW) hc0 (Kd.C_below hr1 hW) hc1 (by unfold width_town_tree.f; rw [if_pos ((chk_iff 9 (by omega) _).2 ⟨G, rfl, hG⟩), gi_toNatN, hbt])⟩
 have hu53 := Tryd.underlying75
 have HNO := Aside0.mk hno
 clear hrg hcg hr0 hr1 hbt hGL hno
 generalize (gi G).length = n at *
 generalize gi G = g at *
 cases bt
 ·clear HNO
  go_enter Tryd.func60, Tryd.ntmps60
  go_wp2_with (first | ((with_reducible refine gate_dst (N := 4) rfl ?_); refine box_event ?hg (N := 4) ?hd (cs := #[.slice A0 B.length c0, .slice A1 P.length c1]) (t := 75) ?hr ?_; (case hd => rfl); (case hg => rfl); (case hr => first | (go_simp; done) | (go_simp; rfl)); intro xB hxB w1 hbox hb1; have HX1 := Aside0.mk hbox; have HB1 := Aside0.mk hb1; clear hbox hb1 hxB) | (go_at_call 86; refine (HRD.out _ HB1.out).mono ?_; rintro e w3 ⟨A2, c2, rfl, hc2, hC2, hb3⟩; have HX3 := Aside0.mk (blk_below HX1.out hb3); have HB3 := Aside0.mk (below_step HB1.out hb3); have HT3 := Aside0.mk (HTR.out w3 A2 c2 HB3.out hc2 hC2); have x0 : w3.cell? ⟨xB, 0, none⟩ = some (.slice A0 B.length c0) := (blk_cell HX3.out 0).trans rfl; have x1 : w3.cell? ⟨xB, 1, none⟩ = some (.slice A1 P.length c1) := (blk_cell HX3.out 1).trans rfl; clear hb3 hc2 hC2) | (go_at_call 89; refine HT3.out.mono ?_; rintro e w4 ⟨rfl, hb4⟩; have HB4 := Aside0.mk (below_step HB3.out hb4); clear hb4))
  go_ret2
  exact ⟨rfl, HB4.out⟩
 ·by_cases hK : K < 0
  ·have k1 : (K < 0) = True := eq_true hK
   have k2 : decide (K < 0) = true := decide_eq_true hK
   clear HNO hK
   go_enter Tryd.func60, Tryd.ntmps60
   go_wp2_with (first | ((with_reducible refine gate_dst (N := 4) rfl ?_); refine box_event ?hg (N := 4) ?hd (cs := #[.slice A0 B.length c0, .slice A1 P.length c1]) (t := 75) ?hr ?_; (case hd => rfl); (case hg => rfl); (case hr => first | (go_simp; done) | (go_simp; rfl)); intro xB hxB w1 hbox hb1; have HX1 := Aside0.mk hbox; have HB1 := Aside0.mk hb1; clear hbox hb1 hxB) | (go_at_call 86; refine (HRD.out _ HB1.out).mono ?_; rintro e w3 ⟨A2, c2, rfl, hc2, hC2, hb3⟩; have HX3 := Aside0.mk (blk_below HX1.out hb3); have HB3 := Aside0.mk (below_step HB1.out hb3); have HT3 := Aside0.mk (HTR.out w3 A2 c2 HB3.out hc2 hC2); have x0 : w3.cell? ⟨xB, 0, none⟩ = some (.slice A0 B.length c0) := (blk_cell HX3.out 0).trans rfl; have x1 : w3.cell? ⟨xB, 1, none⟩ = some (.slice A1 P.length c1) := (blk_cell HX3.out 1).trans rfl; clear hb3 hc2 hC2) | (go_at_call 89; refine HT3.out.mono ?_; rintro e w4 ⟨rfl, hb4⟩; have HB4 := Aside0.mk (below_step HB3.out hb4); clear hb4))
   go_ret2
   exact ⟨rfl, HB4.out⟩
  ·have h6 : 6 < K := by
    rcases HNO.out with h | h | h
    ·cases h
    ·exact absurd h hK
    ·exact h
   have k1 : (K < 0) = False := eq_false hK
   have k2 : decide (K < 0) = false := decide_eq_false hK
   have k3 : (6 < K) = True := eq_true h6
   have k4 : decide (6 < K) = true := decide_eq_true h6
   have k5 : decide (K > 6) = true := decide_eq_true h6
   clear HNO hK h6
   go_enter Tryd.func60, Tryd.ntmps60
   go_wp2_with (first | ((with_reducible refine gate_dst (N := 4) rfl ?_); refine box_event ?hg (N := 4) ?hd (cs := #[.slice A0 B.length c0, .slice A1 P.length c1]) (t := 75) ?hr ?_; (case hd => rfl); (case hg => rfl); (case hr => first | (go_simp; done) | (go_simp; rfl)); intro xB hxB w1 hbox hb1; have HX1 := Aside0.mk hbox; have HB1 := Aside0.mk hb1; clear hbox hb1 hxB) | (go_at_call 86; refine (HRD.out _ HB1.out).mono ?_; rintro e w3 ⟨A2, c2, rfl, hc2, hC2, hb3⟩; have HX3 := Aside0.mk (blk_below HX1.out hb3); have HB3 := Aside0.mk (below_step HB1.out hb3); have HT3 := Aside0.mk (HTR.out w3 A2 c2 HB3.out hc2 hC2); have x0 : w3.cell? ⟨xB, 0, none⟩ = some (.slice A0 B.length c0) := (blk_cell HX3.out 0).trans rfl; have x1 : w3.cell? ⟨xB, 1, none⟩ = some (.slice A1 P.length c1) := (blk_cell HX3.out 1).trans rfl; clear hb3 hc2 hC2) | (go_at_call 89; refine HT3.out.mono ?_; rintro e w4 ⟨rfl, hb4⟩; have HB4 := Aside0.mk (below_step HB3.out hb4); clear hb4))
   go_ret2
   exact ⟨rfl, HB4.out⟩
theorem decomp_callsC {G : List Nat} (hG : Gr 9 G) (W : World) (A : Option Addr) (c : Nat) (hc : G.length ≤ c) (hGL : GL W) (hr : Kd.C (Kd.int .i64) W A G.length (gi G)) :
  ∃ B P, TDV G B P ∧ Calls Tryd.prog 88 #[.slice A G.length c] W fun e w' => ∃ A0 c0 A1 c1, e = .returned (.agg #[.slice A0 B.length c0, .slice A1 P.length c1]) ∧ B.length ≤ c0 ∧ P.length ≤ c1 ∧ Kd.C (Kd.int .i64) w' A0 B.length B ∧ Kd.C (Kd.int .i64) w' A1 P.length P ∧ Below W.heap.size W w' := by
 obtain ⟨Wd, hW, _⟩ := width_exists hG
 obtain ⟨o1, o2, o3, o4⟩ := ordL_isV hG hW
 have hO : OrdLV G (ordL G Wd) := ⟨o1, o2, o3⟩
 have hn := hG.most
 obtain ⟨K, hK⟩ := decompose_evV hG hW o2 (by omega)
 refine ⟨_, _, decomp_tdV hG hO, ?_⟩
 have := width_town_decompose.calls K A c (gi G) _ _ W hGL (by rw [gi_length]; exact hr) (by rw [gi_length]; exact hc) (hK K (Nat.le_refl _))
 rw [gi_length] at this
 refine this.mono ?_
 rintro e w' ⟨v0, v1, rfl, h0, h1, hb⟩
 obtain ⟨A0, c0, e0, p0, q0⟩ := Kd.R_reads h0
 obtain ⟨A1, c1, e1, p1, q1⟩ := Kd.R_reads h1
 subst e0 e1
 exact ⟨A0, c0, A1, c1, rfl, p0, p1, q0, q1, hb⟩
theorem root_is {G : List Nat} {B P : List Int} (hG : Gr 9 G) (h : TDV G B P) : ∃ r : Nat, r < P.length ∧ (-1 : Int) = rd P (r : Int) ∧ r < B.length := by
 obtain ⟨r, r1, r2, _⟩ := (td_toV hG h).root
 have r1 : r < B.length := r1
 refine ⟨r, by rw [h.len]; exact r1, ?_, r1⟩
 have h1 := (h.inn r r1).1
 unfold parOV at r2
 by_cases hx : rd P (r : Int) < 0
 ·omega
 ·rw [if_neg hx] at r2; cases r2
set_option maxHeartbeats 8000000 in
set_option maxRecDepth 100000 in
theorem count_yes {G : List Nat} (hG : Gr 9 G) (Ag : Option Addr) (cg : Nat) (A0 : Option Addr) (c0 : Nat) (B : List Int) (A1 : Option Addr) (c1 : Nat) (P : List Int) (K : Nat) (hK : K ≤ 6) (w : World) (hGL : GL w) (hrg : Kd.C (Kd.int .i64) w Ag (gi G).length (gi G)) (hcg : (gi G).length ≤ cg) (hr0 : Kd.C (Kd.int .i64) w A0 B.length B) (hc0 : B.length ≤ c0) (hr1 : Kd.C (Kd.int .i64) w A1 P.length P) (hc1 : P.length ≤ c1) (hbt : treeB G B P = true) :
  Calls Tryd.prog 60 #[.slice Ag (gi G).length cg, .agg #[.slice A0 B.length c0, .slice A1 P.length c1], .int .i64 (K : Int)] w fun e w' => e = .returned (.tuple #[.int .i64 (numG G K : Int), .int .i64 0]) ∧ Below w.heap.size w w' := by
 have HRD : Aside0 (∀ W, Below w.heap.size w W → Calls Tryd.prog 86 #[.slice Ag (gi G).length cg] W fun e w' => ∃ A1 c1, e = .returned (.tuple #[.slice A1 (gi G).length c1, .bool true]) ∧ (gi G).length ≤ c1 ∧ Kd.C (Kd.int .i64) w' A1 (gi G).length (gi G) ∧ Below W.heap.size W w') := ⟨fun W hW => readN_yes hG Ag cg W (Kd.C_below hrg hW) hcg⟩
 have HTR : Aside0 (∀ W A2 c2, Below w.heap.size w W → (gi G).length ≤ c2 → Kd.C (Kd.int .i64) W A2 (gi G).length (gi G) → Calls Tryd.prog 89 #[.slice A2 (gi G).length c2, .agg #[.slice A0 B.length c0, .slice A1 P.length c1]] W fun e w' => e = .returned (.bool true) ∧ Below W.heap.size W w') := ⟨fun W A2 c2 hW hc hC => width_town_tree.calls A2 c2 (gi G) A0 c0 B A1 c1 P true W (GL_below hGL hW) hC hc (Kd.C_below hr0 hW) hc0 (Kd.C_below hr1 hW) hc1 (by unfold width_town_tree.f; rw [if_pos ((chk_iff 9 (by omega) _).2 ⟨G, rfl, hG⟩), gi_toNatN, hbt])⟩
 have hu53 := Tryd.underlying75
 have hgl : (gi G).length = G.length := gi_length G
 rw [hgl] at HRD HTR ⊢
 have HGL := Aside0.mk hGL
 have HG := Aside0.mk hG
 have k1 : ((K : Int) < 0) = False := eq_false (by omega)
 have k2 : decide ((K : Int) < 0) = false := decide_eq_false (by omega)
 have k3 : (6 < (K : Int)) = False := eq_false (by omega)
 have k4 : decide (6 < (K : Int)) = false := decide_eq_false (by omega)
 have k5 : decide ((K : Int) > 6) = false := decide_eq_false (by omega)
 have HKN := Aside0.mk hK
 clear hrg hcg hr0 hr1 hbt hGL hG hgl hK
 go_enter Tryd.func60, Tryd.ntmps60
 go_wp2_with (first | ((with_reducible refine gate_dst (N := 4) rfl ?_); refine box_event ?hg (N := 4) ?hd (cs := #[.slice A0 B.length c0, .slice A1 P.length c1]) (t := 75) ?hr ?_; (case hd => rfl); (case hg => rfl); (case hr => first | (go_simp; done) | (go_simp; rfl)); intro xB hxB w1 hbox hb1; have HX1 := Aside0.mk hbox; have HB1 := Aside0.mk hb1; clear hbox hb1 hxB) | (go_at_call 86; refine (HRD.out _ HB1.out).mono ?_; rintro e w3 ⟨A2, c2, rfl, hc2, hC2, hb3⟩; have HX3 := Aside0.mk (blk_below HX1.out hb3); have HB3 := Aside0.mk (below_step HB1.out hb3); have HT3 := Aside0.mk (HTR.out w3 A2 c2 HB3.out hc2 hC2); have HC3 := Aside0.mk hC2; have x0 : w3.cell? ⟨xB, 0, none⟩ = some (.slice A0 B.length c0) := (blk_cell HX3.out 0).trans rfl; have x1 : w3.cell? ⟨xB, 1, none⟩ = some (.slice A1 P.length c1) := (blk_cell HX3.out 1).trans rfl; have HC2 := Aside0.mk hc2; clear hb3 hc2 hC2) | (go_at_call 89; refine HT3.out.mono ?_; rintro e w4 ⟨rfl, hb4⟩; have HB4 := Aside0.mk (below_step HB3.out hb4); have HC4 := Aside0.mk (Kd.C_below HC3.out hb4); clear hb4) | (go_at_call 88; obtain ⟨B5, P5, hT5, hcall5⟩ := decomp_callsC HG.out w4 A2 c2 HC2.out (GL_below HGL.out HB4.out) HC4.out; refine hcall5.mono ?_; rintro e w5 ⟨A5, c5, A6, c6, rfl, h5, h6, h7, h8, hb5⟩; have HT5 := Aside0.mk hT5; have H56 := Aside0.mk (And.intro h5 h6); have HC5 := Aside0.mk (And.intro h7 h8); have HB5 := Aside0.mk (below_step HB4.out hb5); have HCg := Aside0.mk (Kd.C_below HC4.out hb5); clear hcall5 hT5 h5 h6 h7 h8 hb5))
 clear HRD HTR HT3 HX1 HX3 x0 x1 HB1 HB3 HC3 HC4
 obtain ⟨w6, hw6⟩ : ∃ W : World, W = w5.alloc (Obj.cells #[.slice A5 B5.length c5, .slice A6 P5.length c6] 75) := ⟨_, rfl⟩
 have hblk : w6.heap[w5.heap.size]? = some (.cells #[.slice A5 B5.length c5, .slice A6 P5.length c6] 75 (0, 0)) := by rw [hw6]; exact Array.getElem?_push_size
 have hB6 : Below w5.heap.size w5 w6 := by rw [hw6]; exact below_alloc (Below.refl _ _) _
 rw [← hw6]
 clear hw6
 have HX6 := Aside0.mk hblk
 have HB6 := Aside0.mk (below_step HB5.out hB6)
 have HC6 := Aside0.mk (And.intro (Kd.C_below HC5.out.1 hB6) (Kd.C_below HC5.out.2 hB6))
 have HC6g := Aside0.mk (Kd.C_below HCg.out hB6)
 clear hB6 hblk
 generalize w5.heap.size = xT at *
 obtain ⟨N, hN, h36⟩ : ∃ N, N < maxLen ∧ 2 ^ 36 ≤ N := ⟨2 ^ 36, by unfold maxLen; omega, Nat.le_refl _⟩
 obtain ⟨M, hM⟩ : ∃ M, ∀ k : Nat, k < B5.length → depFV P5 B5.length (k : Int) ≤ M := by
  have : ∀ m, ∃ M, ∀ k : Nat, k < m → depFV P5 B5.length (k : Int) ≤ M := by
   intro m
   induction m with
   | zero => exact ⟨0, fun k hk => by omega⟩
   | succ m ih =>
    obtain ⟨M, hM⟩ := ih
    refine ⟨M + depFV P5 B5.length (m : Int), fun k hk => ?_⟩
    by_cases e : k = m
    ·rw [e]; omega
    ·have := hM k (by omega); omega
  exact this _
 obtain ⟨r0, r1, r2, r3⟩ := root_is HG.out HT5.out
 have hP30 : P5.length ≤ 30 := by have := HT5.out.most; have := HT5.out.len; omega
 obtain ⟨z, z1, z2, _⟩ := idx_calls A6 c6 P5 (-1) (by omega) ⟨r0, r1, r2⟩ w6 HC6.out.2 H56.out.2
 have HIX : Aside0 (∀ W, (W.cell? ⟨xT, 0, none⟩ = some (.slice A5 B5.length c5) ∧ W.cell? ⟨xT, 1, none⟩ = some (.slice A6 P5.length c6) ∧ Below w6.heap.size w6 W) → Calls Tryd.prog 91 #[.slice A6 P5.length c6, .int .i64 (-1)] W fun e w' => e = .returned (.int .i64 (z : Int)) ∧ w'.cell? ⟨xT, 0, none⟩ = some (.slice A5 B5.length c5) ∧ w'.cell? ⟨xT, 1, none⟩ = some (.slice A6 P5.length c6) ∧ Below w6.heap.size w6 w') := ⟨by
  rintro W ⟨s0, s1, s2⟩
  obtain ⟨K', hK'⟩ : ∃ z' : Nat, z' < P5.length ∧ (-1 : Int) = rd P5 (z' : Int) ∧ Calls Tryd.prog 91 #[.slice A6 P5.length c6, .int .i64 (-1)] W fun e w' => e = .returned (.int .i64 (z' : Int)) ∧ Below W.heap.size W w' := idx_calls A6 c6 P5 (-1) (by omega) ⟨r0, r1, r2⟩ W (Kd.C_below HC6.out.2 s2) H56.out.2
  have ez : K' = z := by
   have e1 := (td_toV HG.out HT5.out).root
   obtain ⟨r, q1, q2, q3⟩ := e1
   have l := HT5.out.len
   rw [q3 K' (by omega) (by unfold parOV; rw [if_pos (by omega)]), q3 z (by omega) (by unfold parOV; rw [if_pos (by omega)])]
  rw [ez] at hK'
  refine hK'.2.2.mono ?_
  rintro e w' ⟨rfl, hb⟩
  exact ⟨rfl, (hb.cell (World.block_lt_of_cell? W _ s0)).trans s0, (hb.cell (World.block_lt_of_cell? W _ s1)).trans s1, below_step s2 hb⟩⟩
 have hzb : z < B5.length := by have := HT5.out.len; omega
 have HWY : Aside0 (∀ W, Below w6.heap.size w6 W → Calls Tryd.prog 90 #[.slice A2 G.length c2, .agg #[.slice A5 B5.length c5, .slice A6 P5.length c6], .int .i64 (z : Int), .int .i64 (K : Int)] W fun e w' => ∃ mB E, e = .returned (.map (some mB)) ∧ W.heap.size ≤ mB ∧ w'.ownsMap Tryd.prog 3 pI mB N E ∧ Tab (fun y => y ∈ clL G K 0 0 (els (bgI B5 z) 9)) (fun c => num G K (bgI B5 z) c (els (dnU (fun k => k < B5.length) (parOV P5) (bgI B5) z) 9)) E ∧ Below W.heap.size W w') := ⟨fun W hW => ways_calls HG.out HKN.out A2 c2 HC2.out A5 c5 B5 H56.out.1 A6 c6 P5 H56.out.2 HT5.out N hN h36 M hM _ z W rfl hzb (GL_below HGL.out (below_step HB6.out hW)) (by rw [gi_length]; exact Kd.C_below HC6g.out hW) (Kd.C_below HC6.out.1 hW) (Kd.C_below HC6.out.2 hW)⟩
 have hb5 : bgI B5 z < 512 := bg_small (bg := bgI B5) (td_toV HG.out HT5.out) HG.out hzb
 obtain ⟨cs, hcs⟩ : ∃ cs, cs = clL G K 0 0 (els (bgI B5 z) 9) := ⟨_, rfl⟩
 obtain ⟨F, hF⟩ : ∃ F : Nat → Nat, F = fun c => num G K (bgI B5 z) c (els (dnU (fun k => k < B5.length) (parOV P5) (bgI B5) z) 9) := ⟨_, rfl⟩
 have HNM : Aside0 (sm cs F = numG G K) := ⟨by
  obtain ⟨r, q1, q2, q3⟩ := (td_toV HG.out HT5.out).root
  have l := HT5.out.len
  have e1 := q3 z hzb (by unfold parOV; rw [if_pos (by omega)])
  rw [hcs, hF]
  exact ways_root (bg := bgI B5) (td_toV HG.out HT5.out) HG.out (by have := HKN.out; omega : K ≤ 16) hzb (fun k hk hp => (q3 k hk hp).trans e1.symm)⟩
 have HND : Aside0 cs.Nodup := ⟨by rw [hcs]; exact nodup_clL HG.out (by have := HKN.out; omega) (els_nodup _ 9) (fun v _ => ⟨zero_bset v, col_zero v⟩)⟩
 have HSL : Aside0 (sm cs F < 2 ^ 60) := ⟨by rw [hcs, hF]; exact Nat.lt_of_le_of_lt (sum6 HG.out HKN.out hb5) (by decide)⟩
 rw [← hcs, ← hF] at HWY
 have H36 := Aside0.mk h36
 have f0d : w6.drew.cell? ⟨xT, 0, none⟩ = some (.slice A5 B5.length c5) := (blk_cell HX6.out 0).trans rfl
 have f1d : w6.drew.cell? ⟨xT, 1, none⟩ = some (.slice A6 P5.length c6) := (blk_cell HX6.out 1).trans rfl
 have f2d : Below w6.heap.size w6 w6.drew := below_drew (Below.refl _ _)
 clear hcs hF hb5 hM h36 r1 r2 r3 z1 z2 hP30 hzb
 obtain ⟨kc, rfl⟩ : ∃ kc, kc = K := ⟨_, rfl⟩
 refine start_ (n := 8) (S := fun w' => w'.cell? ⟨xT, 0, none⟩ = some (.slice A5 B5.length c5) ∧ w'.cell? ⟨xT, 1, none⟩ = some (.slice A6 P5.length c6) ∧ Below w6.heap.size w6 w') (ds := [6, 7]) (Qbz 8 0) (by kernel_rfl) rfl rfl ⟨f0d, f1d, f2d⟩ (fun hHeld => ?_)
 refine Qpu 0 37 ?_ ?_ (Qbz 8 1) (by kernel_rfl) ?_
 refine Qpu 2 39 ?_ ?_ (Qbz 8 5) (by kernel_rfl) ?_
 refine Qpu 5 42 ?_ ?_ (Qbz 8 37) (by kernel_rfl) ?_
 refine take_ (i := 1) (N := some 38) (v := ?_) (a' := ?_) (Qbz 8 39) rfl rfl (by kernel_rfl) (fun _ _ _ h => h) (Or.inl ⟨by rfl, ?_⟩) hHeld ?_ ?_;rotate_left;(·rintro w' ⟨s0, s1, s2⟩;go_simp;with_reducible rfl);rotate_left;(·simp only [Act.put, Qp1, Qp2, Qp3, i64_w, i32_w];rfl)
 refine take_ (i := 3) (N := some 40) (v := ?_) (a' := ?_) (Qbz 8 47) rfl rfl (by kernel_rfl) (fun _ _ _ h => h) (Or.inl ⟨by rfl, ?_⟩) hHeld ?_ ?_;rotate_left;(·rintro w' ⟨s0, s1, s2⟩;go_simp;with_reducible rfl);rotate_left;(·simp only [Act.put, Qp1, Qp2, Qp3, i64_w, i32_w];rfl)
 refine one_ (i := 4) (N := some 41) (Qbz 8 63) rfl rfl (by kernel_rfl) (by decide) (fun K hK => ?_)
 refine goes_ Tryd.func91 (by kernel_rfl) rfl #[.slice A6 P5.length c6, .int .i64 (-1)] (by rfl) rfl rfl (by simp only [List.map_toArray, List.map_cons, List.map_nil]; rfl) ?_
 with_reducible refine (HIX.out _ hHeld).mono ?_
 rintro e w7 ⟨rfl, k0, k1, k2'⟩
 refine ⟨_, rfl, ?_⟩
 refine hK.out _ _ ⟨k0, k1, k2'⟩ (fun hHeld => ?_)
 clear hK K
 refine norm_ (a' := ?_) ?_ ?_
 rotate_left
 ·show Act.put _ (some 41) _ = _
  simp only [Act.put, Qp1, Qp2, Qp3, i64_w, i32_w]
  rfl
 refine last_ (i := 6) (N := some 43) (Qbz 8 127) rfl rfl (by kernel_rfl) (by decide) (fun K hK => ?_)
 refine goes_ Tryd.func90 (by kernel_rfl) rfl #[.slice A2 G.length c2, .agg #[.slice A5 B5.length c5, .slice A6 P5.length c6], .int .i64 (z : Int), .int .i64 (kc : Int)] (by rfl) rfl rfl (by simp only [List.map_toArray, List.map_cons, List.map_nil]; rfl) ?_
 with_reducible refine (HWY.out _ hHeld.2.2).mono ?_
 rintro e w8 ⟨mW, EW, rfl, hmW, hE1, hE2, hb8⟩
 have HE8 := Aside0.mk (And.intro hE1 hE2)
 have HB8 := Aside0.mk (below_step hHeld.2.2 hb8)
 have HMW := Aside0.mk hmW
 clear hE1 hE2 hb8 hmW
 refine ⟨_, rfl, ?_⟩
 refine hK.out _ _ ?_
 clear hK K
 refine norm_ (a' := ?_) ?_ ?_
 rotate_left
 ·show Act.put _ (some 43) _ = _
  simp only [Act.put, Qp1, Qp2, Qp3, i64_w, i32_w]
  rfl
 refine last_ (i := 7) (N := some 44) (Qbz 8 255) rfl rfl (by kernel_rfl) (by decide) (fun K hK => ?_)
 obtain ⟨w9, hrun9, hrg9, hg9, hs9⟩ := World.ownsMap.range HE8.out.1 law3 undT
 have HRG9 := Aside0.mk hrg9
 have HB9 := Aside0.mk (below_step HB8.out (grow_below hg9))
 have HRL : Aside0 (w8.heap.size < w9.heap.size) := ⟨by omega⟩
 clear hrg9 hg9 hs9
 refine value_ (w1 := w9) (v := .pointer (some ⟨w8.heap.size, 0, none⟩)) (by rfl) rfl ?_ ?_
 ·go_simp
 refine hK.out _ _ ?_
 clear hK K
 refine norm_ (a' := ?_) ?_ ?_
 rotate_left
 ·show Act.put _ (some 44) _ = _
  simp only [Act.put, Qp1, Qp2, Qp3, i64_w, i32_w]
  rfl
 refine done_ (by kernel_rfl) ?_
 clear HWY HIX HC6 HC6g HCg HC5 H56 HX6 HT5 f0d f1d f2d
 have HS0 : Aside0 (w9.ranges Tryd.prog 3 pI mW w8.heap.size N EW (Maps.has EW) (Maps.size EW) ∧ Below w.heap.size w w9) := ⟨HRG9.out, below_step HB6.out HB9.out⟩
 have HL0 : Aside0 (sm (cs.filter fun c => !(Maps.has EW) (kI c)) F = 0) := ⟨by
  have : (cs.filter fun c => !(Maps.has EW) (kI c)) = [] := List.filter_eq_nil_iff.2 fun c hc => by
   have := (HE8.out.2.has c).2 hc
   rw [this]; simp
  rw [this]; rfl⟩
 have HRW : Aside0 (w.heap.size ≤ w8.heap.size) := ⟨by
  have q1 := HB6.out.size
  have q2 := HB8.out.size
  omega⟩
 clear HRG9 HB9 HB8 HB6 HB5 HB4 HRL
 generalize w8.heap.size = r at *
 go_wp2
 go_loopg [10, 13] (Maps.size EW) (fun kq v10 v13 w' => ∃ left, v10 = .int .i64 ((sm (cs.filter fun c => !left (kI c)) F : Nat) : Int) ∧ Aside0 (w'.ranges Tryd.prog 3 pI mW r N EW left kq ∧ Below w.heap.size w w'))
 case atStart => exact ⟨_, by rw [HL0.out]; rfl, HS0⟩
 case round =>
  clear HS0 HL0
  obtain ⟨left, rfl, HR⟩ := hrel
  have hrg := HR.out.1
  go_wp2_with (at_next; refine wpList_next_ranges_ii _ rfl _ rfl 3 3 .i64 .i64 law3 und3 und3 mW r N EW left gk rfl hrg ?_ ?_)
  ·intro hc0' hl0
   clear hrg
   have e : left = fun _ => false := funext hl0
   subst e
   clear hl0
   have hall : sm (cs.filter fun c => !(fun _ : Lit => false) (kI c)) F = numG G kc := by
    rw [← HNM.out]
    congr 1
    exact List.filter_eq_self.2 fun _ _ => rfl
   rw [hall]
   clear hall
   go_wp2
   go_ret2
   exact ⟨rfl, HR.out.2⟩
  ·intro x0' cc w10 cnt2 hwx hwc hlx hat hrg10 hlt hg10 hs10 hen
   obtain ⟨g, hgc, rfl, rfl⟩ := HE8.out.2.step hat
   have HST := Aside0.mk (sm_strike HND.out hgc hlx F)
   have hle : sm (cs.filter fun c => !left (kI c)) F + F g ≤ sm cs F := by
    rw [← HST.out]
    exact sm_filter_le _ _ _
   have hadd := addC (Nat.le_trans hle (Nat.le_refl _)) HSL.out
   have HR10 : Aside0 (w10.ranges Tryd.prog 3 pI mW r N EW (fun z => left z && !z.sameKey (kI g)) cnt2 ∧ Below w.heap.size w w10) := ⟨hrg10, below_grow HR.out.2 hg10 HRW.out⟩
   clear hle hrg hrg10 hat hwx hwc hlx hg10 hgc HR
   generalize hsv : sm (cs.filter fun c => !left (kI c)) F = sv at *
   generalize hfg : F g = fg at *
   have HSV := Aside0.mk hsv
   have HFG := Aside0.mk hfg
   clear hsv hfg
   go_wp2
   go_roundg cnt2
   case measure => exact hlt
   case rel => exact ⟨_, by rw [HST.out, hadd], HR10⟩
theorem width_Count.calls (Ag : Option Addr) (cg : Nat) (g : List Int) (A0 : Option Addr) (c0 : Nat) (B : List Int) (A1 : Option Addr) (c1 : Nat) (P : List Int) (K : Int) (r1 r2 : Int) (w : World) (hGL : GL w) (hrg : Kd.C (Kd.int .i64) w Ag g.length g) (hcg : g.length ≤ cg) (hr0 : Kd.C (Kd.int .i64) w A0 B.length B) (hc0 : B.length ≤ c0) (hr1 : Kd.C (Kd.int .i64) w A1 P.length P) (hc1 : P.length ≤ c1) (h : width_Count.f g B P K = some (r1, r2)) :
  Calls Tryd.prog 60 #[.slice Ag g.length cg, .agg #[.slice A0 B.length c0, .slice A1 P.length c1], .int .i64 K] w fun e w' => e = .returned (.tuple #[.int .i64 r1, .int .i64 r2]) ∧ Below w.heap.size w w' := by
 unfold width_Count.f at h
 by_cases hchk : chk 9 g = true
 ·rw [if_pos hchk] at h
  obtain ⟨G, rfl, hG⟩ := (chk_iff 9 (by omega) _).1 hchk
  rw [gi_toNatN] at h
  by_cases hb : treeB G B P = true ∧ 0 ≤ K ∧ K ≤ 6
  ·rw [if_pos hb] at h
   have h1 := Option.some.inj h
   simp only [Prod.mk.injEq] at h1
   obtain ⟨h1, h2⟩ := h1
   subst h1 h2
   obtain ⟨k, rfl⟩ : ∃ k : Nat, K = (k : Int) := ⟨K.toNat, by omega⟩
   rw [Int.toNat_natCast]
   exact count_yes hG Ag cg A0 c0 B A1 c1 P k (by omega) w hGL hrg hcg hr0 hc0 hr1 hc1 hb.1
  ·rw [if_neg hb] at h
   have h1 := Option.some.inj h
   simp only [Prod.mk.injEq] at h1
   obtain ⟨h1, h2⟩ := h1
   subst h1 h2
   refine count_no2 hG Ag cg A0 c0 B A1 c1 P K w hGL hrg hcg hr0 hc0 hr1 hc1 _ rfl ?_
   by_cases hbt : treeB G B P = true
   ·by_cases h0 : K < 0
    ·exact .inr (.inl h0)
    ·exact .inr (.inr (by
      apply Classical.byContradiction
      intro h6
      exact hb ⟨hbt, by omega, by omega⟩))
   ·exact .inl (by simpa using hbt)
 ·rw [if_neg hchk] at h
  by_cases hl : g.length < 1000
  ·rw [if_pos hl] at h
   have h1 := Option.some.inj h
   simp only [Prod.mk.injEq] at h1
   obtain ⟨h1, h2⟩ := h1
   subst h1 h2
   exact count_no1 Ag cg g A0 B.length c0 A1 P.length c1 K w hrg hcg hl (by simpa using hchk)
  ·rw [if_neg hl] at h
   cases h
end Go.Proofs.YtjloppfdagfpmaaDoor.X
end
section
namespace Go.Proofs.YtjloppfdagfpmaaDoor.T
open Go.RowKit YtjloppfdagfpmaaDoorW.PrintWords YtjloppfdagfpmaaDoorW.PrintLast YtjloppfdagfpmaaDoorW.PrintMore
def clo (G : List Nat) (s : Nat) : Nat → Nat → Nat
 | 0, p => p
 | d + 1, p => clo G s d (p ||| (Around G p &&& s))
def lowb (s : Nat) : Nat := (els s 9).headD 9
def conB (G : List Nat) (s : Nat) : Bool := decide (s ≠ 0) && decide (clo G s 9 (2 ^ lowb s) = s)
def fitB (G P M : List Nat) (s k : Nat) : Bool := (els (P.getD k 0 &&& (2 ^ k - 1)) 9).all fun j => decide (M.getD j 0 &&& Around G s ≠ 0)
def okB (G P M : List Nat) (used left d s : Nat) : Bool := decide (s &&& used = 0) && decide (pc s 9 + d ≤ left) && !(decide (d = 0) && decide (pc s 9 ≠ left)) && fitB G P M s M.length
def growN (G P sets : List Nat) : Nat → List Nat → Nat → Nat → Option (List Nat)
 | 0, M, _, _ => some M
 | d + 1, M, used, left => sets.findSome? fun s => if okB G P M used left d s then growN G P sets d (M ++ [s]) (used ||| s) (left - pc s 9) else none
def setsN (G : List Nat) : List Nat := (List.range (2 ^ G.length)).filter (conB G)
def findN (G P : List Nat) : Option (List Nat) := (List.range' P.length (G.length + 1 - P.length)).findSome? fun size => growN G P (setsN G) P.length [] 0 size
def Gd (G P sets : List Nat) : List Nat → Nat → Nat → List Nat → Prop
 | _, _, _, [] => True
 | M, used, left, s :: Q => s ∈ sets ∧ okB G P M used left Q.length s = true ∧ Gd G P sets (M ++ [s]) (used ||| s) (left - pc s 9) Q
theorem growN_some (G P sets : List Nat) : ∀ (d : Nat) (M : List Nat) (used left : Nat) (R : List Nat), growN G P sets d M used left = some R → ∃ Q, Q.length = d ∧ R = M ++ Q ∧ Gd G P sets M used left Q
 | 0, M, used, left, R, h => by
  simp only [growN, Option.some.injEq] at h
  exact ⟨[], rfl, by rw [← h, List.append_nil], trivial⟩
 | d + 1, M, used, left, R, h => by
  simp only [growN] at h
  obtain ⟨s, hs, h⟩ := List.exists_of_findSome?_eq_some h
  split at h
  ·rename_i hok
   obtain ⟨Q, h1, h2, h3⟩ := growN_some G P sets d _ _ _ R h
   exact ⟨s :: Q, by rw [List.length_cons, h1], by rw [h2, List.append_assoc]; rfl, hs, by rw [h1]; exact hok, h3⟩
  ·cases h
theorem growN_none (G P sets : List Nat) : ∀ (d : Nat) (M : List Nat) (used left : Nat), growN G P sets d M used left = none → ∀ Q, Q.length = d → ¬ Gd G P sets M used left Q
 | 0, M, used, left, h, Q, hQ => by simp only [growN] at h; cases h
 | d + 1, M, used, left, h, Q, hQ => by
  simp only [growN] at h
  cases Q with
  | nil => cases hQ
  | cons s Q =>
   rintro ⟨hs, hok, hg⟩
   have hl : Q.length = d := by simpa using hQ
   have h1 := List.findSome?_eq_none_iff.1 h s hs
   rw [hl] at hok
   rw [if_pos hok] at h1
   exact growN_none G P sets d _ _ _ h1 Q hl hg
def total (M : List Nat) : Nat := (M.map fun s => pc s 9).sum
def Fits (G P : List Nat) : List Nat → Nat → List Nat → Prop
 | _, _, [] => True
 | M, used, s :: Q => s &&& used = 0 ∧ fitB G P M s M.length = true ∧ Fits G P (M ++ [s]) (used ||| s) Q
theorem gd_iff (G P sets : List Nat) : ∀ (Q M : List Nat) (used left : Nat), Q ≠ [] → (∀ s ∈ Q, 1 ≤ pc s 9) → (Gd G P sets M used left Q ↔ total Q = left ∧ (∀ s ∈ Q, s ∈ sets) ∧ Fits G P M used Q)
 | [], M, used, left, h, _ => (h rfl).elim
 | [s], M, used, left, _, hp => by
  simp only [Gd, total, Fits, List.map_cons, List.map_nil, List.sum_cons, List.sum_nil, List.mem_singleton, forall_eq, and_true, List.length_nil, okB, Bool.and_eq_true, decide_eq_true_eq, Bool.not_eq_true', Bool.and_eq_false_imp, decide_eq_false_iff_not]
  constructor
  ·rintro ⟨h1, ⟨⟨h2, h3⟩, h4⟩, h5⟩
   have := h4 trivial
   exact ⟨by omega, h1, h2, h5⟩
  ·rintro ⟨h1, h2, h3, h4⟩
   exact ⟨h2, ⟨⟨h3, by omega⟩, fun _ h => h (by omega)⟩, h4⟩
 | s :: q :: Q, M, used, left, _, hp => by
  have ih := gd_iff G P sets (q :: Q) (M ++ [s]) (used ||| s) (left - pc s 9) (by simp) (fun x hx => hp x (List.mem_cons_of_mem _ hx))
  have ht : ∀ L : List Nat, (∀ s ∈ L, 1 ≤ pc s 9) → L.length ≤ total L := by
   intro L
   induction L with
   | nil => intro _; exact Nat.zero_le _
   | cons a L ihL =>
    intro h
    have h1 := ihL fun x hx => h x (List.mem_cons_of_mem _ hx)
    have h2 := h a (List.mem_cons_self ..)
    simp only [total, List.map_cons, List.sum_cons, List.length_cons] at *
    omega
  have ht1 := ht (q :: Q) fun x hx => hp x (List.mem_cons_of_mem _ hx)
  have et : total (s :: q :: Q) = pc s 9 + total (q :: Q) := by simp [total]
  rw [Gd, ih, Fits, et]
  simp only [okB, Bool.and_eq_true, decide_eq_true_eq, Bool.not_eq_true', Bool.and_eq_false_imp, decide_eq_false_iff_not]
  constructor
  ·rintro ⟨h1, ⟨⟨⟨h2, h3⟩, h4⟩, h5⟩, h6, h7, h8⟩
   refine ⟨by omega, fun x hx => ?_, h2, h5, h8⟩
   rcases List.mem_cons.1 hx with rfl | hx
   ·exact h1
   ·exact h7 x hx
  ·rintro ⟨h1, h2, h3, h4, h5⟩
   exact ⟨h2 s (List.mem_cons_self ..), ⟨⟨⟨h3, by omega⟩, fun h => by simp at h⟩, h4⟩, by omega, fun x hx => h2 x (List.mem_cons_of_mem _ hx), h5⟩
def IsMod (G P M : List Nat) : Prop := M.length = P.length ∧ (∀ s ∈ M, s ∈ setsN G) ∧ Fits G P [] 0 M
theorem sets_pos {G : List Nat} (hn : G.length ≤ 9) {s : Nat} (h : s ∈ setsN G) : 1 ≤ pc s 9 := by
 unfold setsN at h
 rw [List.mem_filter, List.mem_range] at h
 unfold conB at h
 rw [Bool.and_eq_true, decide_eq_true_eq, decide_eq_true_eq] at h
 obtain ⟨v, hv⟩ := some_bit h.2.1
 have hl := bit_lt h.1 hv
 have := pc_lt (x := 0) (y := s) v 9 (fun j _ hj => by simp at hj) (by omega) (by simp) hv
 omega
theorem fits_total {G P : List Nat} (hn : G.length ≤ 9) : ∀ (Q M : List Nat) (used : Nat), used < 2 ^ G.length → (∀ s ∈ Q, s < 2 ^ G.length) → Fits G P M used Q → pc used 9 + total Q ≤ G.length
 | [], M, used, hu, _, _ => by
  have h1 := pc_nine hu hn
  have h2 := pc_le used G.length
  simp only [total, List.map_nil, List.sum_nil]
  omega
 | s :: Q, M, used, hu, hs, h => by
  have hsl := hs s (List.mem_cons_self ..)
  have ih := fits_total hn Q (M ++ [s]) (used ||| s) (or_lt hu hsl) (fun x hx => hs x (List.mem_cons_of_mem _ hx)) h.2.2
  have key : ∀ n, pc (used ||| s) n = pc used n + pc s n := by
   intro n
   induction n with
   | zero => rfl
   | succ n ihn =>
    simp only [pc, Nat.testBit_or]
    have hz : (s &&& used).testBit n = false := by rw [h.1]; simp
    rw [Nat.testBit_and] at hz
    cases h1 : used.testBit n <;> cases h2 : s.testBit n <;> simp_all <;> omega
  rw [key] at ih
  simp only [total, List.map_cons, List.sum_cons] at *
  omega
theorem total_len {G : List Nat} (hn : G.length ≤ 9) {L : List Nat} (h : ∀ s ∈ L, s ∈ setsN G) : L.length ≤ total L := by
 induction L with
 | nil => exact Nat.zero_le _
 | cons a L ih =>
  have h1 := ih fun x hx => h x (List.mem_cons_of_mem _ hx)
  have h2 := sets_pos hn (h a (List.mem_cons_self ..))
  simp only [total, List.map_cons, List.sum_cons, List.length_cons] at *
  omega
theorem find_some {G P R : List Nat} (hn : G.length ≤ 9) (hP : 1 ≤ P.length) (h : findN G P = some R) : IsMod G P R ∧ ∀ M, IsMod G P M → total R ≤ total M := by
 unfold findN at h
 rw [List.findSome?_eq_some_iff] at h
 obtain ⟨A, size, B, hl, hg, hno⟩ := h
 obtain ⟨Q, h1, h2, h3⟩ := growN_some _ _ _ _ _ _ _ _ hg
 have hQ : Q ≠ [] := fun e => by rw [e] at h1; simp at h1; omega
 rw [List.nil_append] at h2
 subst h2
 have hsets : ∀ s ∈ R, s ∈ setsN G := by
  have : ∀ (Q M : List Nat) (used left : Nat), Gd G P (setsN G) M used left Q → ∀ s ∈ Q, s ∈ setsN G := by
   intro Q
   induction Q with
   | nil => intro _ _ _ _ s hs; simp at hs
   | cons a Q ih =>
    intro M used left hg s hs
    rcases List.mem_cons.1 hs with rfl | hs
    ·exact hg.1
    ·exact ih _ _ _ hg.2.2 s hs
  exact this _ _ _ _ h3
 have hg2 := (gd_iff G P _ R _ _ _ hQ fun s hs => sets_pos hn (hsets s hs)).1 h3
 refine ⟨⟨h1, hsets, hg2.2.2⟩, fun M hM => ?_⟩
 apply Classical.byContradiction
 intro hlt
 have hM0 : M ≠ [] := fun e => by have := hM.1; rw [e] at this; simp at this; omega
 have hlen := total_len hn hM.2.1
 rw [hM.1] at hlen
 have hmem : total M ∈ A := by
  have hall : total M ∈ List.range' P.length (G.length + 1 - P.length) := by
   have := fits_total hn M [] 0 (Nat.two_pow_pos _) (fun s hs => by
    have := hM.2.1 s hs
    unfold setsN at this
    exact List.mem_range.1 (List.mem_filter.1 this).1) hM.2.2
   rw [List.mem_range'_1]
   omega
  rw [hl, List.mem_append, List.mem_cons] at hall
  rcases hall with h | h | h
  ·exact h
  ·omega
  ·have hs := List.pairwise_lt_range' (s := P.length) (n := G.length + 1 - P.length)
   rw [hl, List.pairwise_append] at hs
   have := (List.pairwise_cons.1 hs.2.1).1 _ h
   omega
 exact growN_none _ _ _ _ _ _ _ (hno _ hmem) M hM.1 ((gd_iff G P _ M _ _ _ hM0 fun s hs => sets_pos hn (hM.2.1 s hs)).2 ⟨rfl, hM.2.1, hM.2.2⟩)
theorem find_none {G P : List Nat} (hn : G.length ≤ 9) (hP : 1 ≤ P.length) (h : findN G P = none) (M : List Nat) : ¬ IsMod G P M := by
 intro hM
 unfold findN at h
 have hM0 : M ≠ [] := fun e => by have := hM.1; rw [e] at this; simp at this; omega
 have hlen := total_len hn hM.2.1
 rw [hM.1] at hlen
 have hall : total M ∈ List.range' P.length (G.length + 1 - P.length) := by
  have := fits_total hn M [] 0 (Nat.two_pow_pos _) (fun s hs => by
   have := hM.2.1 s hs
   unfold setsN at this
   exact List.mem_range.1 (List.mem_filter.1 this).1) hM.2.2
  rw [List.mem_range'_1]
  omega
 exact growN_none _ _ _ _ _ _ _ (List.findSome?_eq_none_iff.1 h _ hall) M hM.1 ((gd_iff G P _ M _ _ _ hM0 fun s hs => sets_pos hn (hM.2.1 s hs)).2 ⟨rfl, hM.2.1, hM.2.2⟩)
theorem clo_in {m : Nat} {G : List Nat} (hG : Gr m G) (s : Nat) : ∀ (d p j : Nat), bset (clo G s d p) j → Con (Adj G) (bset s) (bset p) j
 | 0, p, j, h => .base h
 | d + 1, p, j, h => by
  have key : ∀ y, Con (Adj G) (bset s) (bset (p ||| (Around G p &&& s))) y → Con (Adj G) (bset s) (bset p) y := by
   intro y hc
   induction hc with
   | base h =>
    rw [or_bset, and_bset] at h
    rcases h with h | ⟨h1, h2⟩
    ·exact .base h
    ·obtain ⟨i, h3, h4⟩ := (Around_bit hG p _).1 h1
     exact .step (.base h3) h4 h2
   | step _ a w ih => exact .step ih a w
  exact key j (clo_in hG s d _ j h)
theorem clo_fix {G : List Nat} {s p : Nat} (h : p ||| (Around G p &&& s) = p) : ∀ d, clo G s d p = p
 | 0 => rfl
 | d + 1 => by rw [clo, h]; exact clo_fix h d
theorem clo_sub (G : List Nat) (s : Nat) : ∀ (d p j : Nat), bset p j → bset (clo G s d p) j
 | 0, _, _, h => h
 | d + 1, p, j, h => clo_sub G s d _ j ((or_bset _ _ _).2 (.inl h))
theorem clo_closed {m : Nat} {G : List Nat} (hG : Gr m G) {s : Nat} : ∀ (d p : Nat), p < 2 ^ G.length → G.length ≤ pc p G.length + d → ∀ x u, bset (clo G s d p) x → Adj G x u → bset s u → bset (clo G s d p) u
 | 0, p, hp, h, x, u, hx, ha, hu => by
  have hul := hG.adj_lt ha
  apply Classical.byContradiction
  intro hc
  have hc' : ¬ bset p u := hc
  have := pc_lt (x := p) (y := 2 ^ G.length - 1) u G.length (fun j hj _ => (all_bit G.length j).2 hj) hul (by simpa [bset] using hc') ((all_bit _ _).2 hul)
  have h2 := pc_le (2 ^ G.length - 1) G.length
  omega
 | d + 1, p, hp, h, x, u, hx, ha, hu => by
  by_cases hf : p ||| (Around G p &&& s) = p
  ·rw [clo_fix hf] at hx ⊢
   rw [← hf, or_bset, and_bset]
   exact .inr ⟨(Around_bit hG p u).2 ⟨x, hx, ha⟩, hu⟩
  ·have hlt : p ||| (Around G p &&& s) < 2 ^ G.length := or_lt hp (Nat.lt_of_le_of_lt Nat.and_le_left (Around_lt hG p))
   have hnew : ∃ v, bset (p ||| (Around G p &&& s)) v ∧ ¬ bset p v := by
    apply Classical.byContradiction
    intro hn
    exact hf (eq_of_bits fun j => ⟨fun hj => Classical.byContradiction fun hc => hn ⟨j, hj, hc⟩, fun hj => (or_bset _ _ _).2 (.inl hj)⟩)
   obtain ⟨v, hv1, hv2⟩ := hnew
   have := pc_lt (x := p) (y := p ||| (Around G p &&& s)) v G.length (fun j _ hj => (or_bset _ _ _).2 (.inl hj)) (bit_lt hlt hv1) (by simpa [bset] using hv2) hv1
   exact clo_closed hG d _ hlt (by omega) x u hx ha hu
theorem lowb_bit {m : Nat} {G : List Nat} (hG : Gr m G) (hm : m ≤ 9) {s : Nat} (hs : s < 2 ^ G.length) (h0 : s ≠ 0) : bset s (lowb s) ∧ lowb s < G.length := by
 have hn := hG.most
 obtain ⟨v, hv⟩ := some_bit h0
 have hvl := bit_lt hs hv
 unfold lowb
 cases he : els s 9 with
 | nil =>
  have : v ∈ els s 9 := mem_els.2 ⟨by omega, hv⟩
  rw [he] at this
  simp at this
 | cons a L =>
  have : a ∈ els s 9 := by rw [he]; exact List.mem_cons_self ..
  have h1 := (mem_els.1 this).2
  exact ⟨h1, bit_lt hs h1⟩
theorem conB_iff {m : Nat} {G : List Nat} (hG : Gr m G) (hm : m ≤ 9) {s : Nat} (hs : s < 2 ^ G.length) : conB G s = true ↔ Conn (Adj G) (bset s) := by
 have hn := hG.most
 unfold conB
 rw [Bool.and_eq_true, decide_eq_true_eq, decide_eq_true_eq]
 constructor
 ·rintro ⟨h0, hc⟩
  obtain ⟨h1, h2⟩ := lowb_bit hG hm hs h0
  have e : bset (2 ^ lowb s) = fun x => x = lowb s := funext fun x => propext (two_pow_bit _ x)
  have key : ∀ j, bset s j → Con (Adj G) (bset s) (fun x => x = lowb s) j := fun j hj => by
   rw [← e]
   exact clo_in hG s 9 _ j (by rw [hc]; exact hj)
  exact ⟨⟨_, h1⟩, fun a b ha hb => con_trans (con_symm hG h1 (key a ha)) (key b hb)⟩
 ·rintro ⟨⟨v, hv⟩, hc⟩
  have h0 : s ≠ 0 := fun e => by rw [e] at hv; simp [bset] at hv
  obtain ⟨h1, h2⟩ := lowb_bit hG hm hs h0
  refine ⟨h0, eq_of_bits fun j => ⟨fun hj => ?_, fun hj => ?_⟩⟩
  ·rcases (clo_in hG s 9 _ j hj).inside with h | h
   ·rw [(two_pow_bit _ _).1 h]; exact h1
   ·exact h
  ·have hp : 2 ^ lowb s < 2 ^ G.length := Nat.pow_lt_pow_right (by omega) h2
   have hcl := clo_closed hG (s := s) 9 (2 ^ lowb s) hp (by omega)
   have := hc (lowb s) j h1 hj
   induction this with
   | base h => rw [h]; exact clo_sub G s 9 _ _ ((two_pow_bit _ _).2 rfl)
   | @step y z hy ha hz ih =>
    have hys : bset s y := by
     rcases hy.inside with h | h
     ·rw [h]; exact h1
     ·exact h
    exact hcl y z (ih hys) ha hz
theorem fit_iff {m m' : Nat} {G P : List Nat} (hG : Gr m G) (hP : Gr m' P) (hm : m' ≤ 9) (M : List Nat) (s k : Nat) (hk : k < P.length) : fitB G P M s k = true ↔ ∀ j, j < k → Adj P k j → ∃ x y, bset s x ∧ bset (M.getD j 0) y ∧ Adj G x y := by
 have hn := hP.most
 unfold fitB
 rw [List.all_eq_true]
 have hbit : ∀ j, j ∈ els (P.getD k 0 &&& (2 ^ k - 1)) 9 ↔ j < k ∧ Adj P k j := by
  intro j
  rw [mem_els, Nat.testBit_and, Bool.and_eq_true]
  constructor
  ·rintro ⟨_, h1, h2⟩
   exact ⟨(all_bit k j).1 h2, h1⟩
  ·rintro ⟨h1, h2⟩
   exact ⟨by omega, h2, (all_bit k j).2 h1⟩
 constructor
 ·intro h j hj ha
  have := h j ((hbit j).2 ⟨hj, ha⟩)
  rw [decide_eq_true_eq] at this
  obtain ⟨y, hy⟩ := some_bit this
  rw [and_bset] at hy
  obtain ⟨x, hx, hxy⟩ := (Around_bit hG s y).1 hy.2
  exact ⟨x, y, hx, hy.1, hxy⟩
 ·intro h j hj
  obtain ⟨h1, h2⟩ := (hbit j).1 hj
  obtain ⟨x, y, hx, hy, hxy⟩ := h j h1 h2
  rw [decide_eq_true_eq]
  intro h0
  have : bset (M.getD j 0 &&& Around G s) y := (and_bset _ _ _).2 ⟨hy, (Around_bit hG s y).2 ⟨x, hx, hxy⟩⟩
  rw [h0] at this
  simp [bset] at this
theorem getD_take {L : List Nat} {k j : Nat} (h : j < k) : (L.take k).getD j 0 = L.getD j 0 := by
 rw [List.getD_eq_getElem?_getD, List.getD_eq_getElem?_getD, List.getElem?_take, if_pos h]
theorem fits_iff {m m' : Nat} {G P : List Nat} (hG : Gr m G) (hP : Gr m' P) (hm : m' ≤ 9) (L : List Nat) (hL : L.length = P.length) : ∀ (d i used : Nat), i + d = L.length → (∀ x, bset used x ↔ ∃ e, e < i ∧ bset (L.getD e 0) x) →
  (Fits G P (L.take i) used (L.drop i) ↔ ∀ k, i ≤ k → k < L.length → (∀ j x, j < k → bset (L.getD j 0) x → ¬ bset (L.getD k 0) x) ∧ ∀ j, j < k → Adj P k j → ∃ x y, bset (L.getD k 0) x ∧ bset (L.getD j 0) y ∧ Adj G x y)
 | 0, i, used, hi, hu => by
  rw [List.drop_eq_nil_of_le (by omega)]
  simp only [Fits, true_iff]
  intro k h1 h2
  omega
 | d + 1, i, used, hi, hu => by
  have hil : i < L.length := by omega
  have hg : L.getD i 0 = L[i] := by rw [List.getD_eq_getElem?_getD, List.getElem?_eq_getElem hil]; rfl
  have ht : L.take i ++ [L[i]] = L.take (i + 1) := by rw [List.take_add_one, List.getElem?_eq_getElem hil]; rfl
  have ih := fits_iff hG hP hm L hL d (i + 1) (used ||| L[i]) (by omega) (fun x => by
   rw [or_bset, hu]
   constructor
   ·rintro (⟨e, h1, h2⟩ | h)
    ·exact ⟨e, by omega, h2⟩
    ·exact ⟨i, by omega, by rw [hg]; exact h⟩
   ·rintro ⟨e, h1, h2⟩
    by_cases he : e = i
    ·rw [he, hg] at h2; exact .inr h2
    ·exact .inl ⟨e, by omega, h2⟩)
  have hll : (L.take i).length = i := by rw [List.length_take]; omega
  rw [List.drop_eq_getElem_cons hil, Fits, ht, ih, hll, fit_iff hG hP hm _ _ _ (by omega)]
  have hz : L[i] &&& used = 0 ↔ ∀ j x, j < i → bset (L.getD j 0) x → ¬ bset (L.getD i 0) x := by
   constructor
   ·intro h j x hj hx hc
    have : bset (L[i] &&& used) x := (and_bset _ _ _).2 ⟨by rw [← hg]; exact hc, (hu x).2 ⟨j, hj, hx⟩⟩
    rw [h] at this
    simp [bset] at this
   ·intro h
    apply Classical.byContradiction
    intro h0
    obtain ⟨x, hx⟩ := some_bit h0
    rw [and_bset] at hx
    obtain ⟨e, he, hx2⟩ := (hu x).1 hx.2
    exact h e x he hx2 (by rw [hg]; exact hx.1)
  rw [hz]
  constructor
  ·rintro ⟨h1, h2, h3⟩ k hk hkl
   by_cases e : k = i
   ·subst e
    refine ⟨h1, fun j hj ha => ?_⟩
    obtain ⟨x, y, hx, hy, hxy⟩ := h2 j hj ha
    rw [getD_take hj] at hy
    exact ⟨x, y, by rw [hg]; exact hx, hy, hxy⟩
   ·exact h3 k (by omega) hkl
  ·intro h
   refine ⟨(h i (Nat.le_refl _) hil).1, fun j hj ha => ?_, fun k hk hkl => h k (by omega) hkl⟩
   obtain ⟨x, y, hx, hy, hxy⟩ := (h i (Nat.le_refl _) hil).2 j hj ha
   exact ⟨x, y, by rw [← hg]; exact hx, by rw [getD_take hj]; exact hy, hxy⟩
theorem mod_iff {m m' : Nat} {G P : List Nat} (hG : Gr m G) (hm : m ≤ 9) (hP : Gr m' P) (hm' : m' ≤ 9) : (∃ M, IsMod G P M) ↔ Mnr (fun x => x < G.length) (Adj G) P.length (Adj P) := by
 constructor
 ·rintro ⟨L, hl, hs, hf⟩
  have hf' := (fits_iff hG hP hm' L hl L.length 0 0 (by omega) (fun x => ⟨fun h => by simp [bset] at h, fun ⟨e, h, _⟩ => by omega⟩)).1 (by rw [List.take_zero, List.drop_zero]; exact hf)
  have hin : ∀ i, i < P.length → conB G (L.getD i 0) = true ∧ L.getD i 0 < 2 ^ G.length := fun i hi => by
   have : L.getD i 0 ∈ setsN G := by
    rw [List.getD_eq_getElem?_getD, List.getElem?_eq_getElem (by omega)]
    exact hs _ (List.getElem_mem _)
   unfold setsN at this
   rw [List.mem_filter, List.mem_range] at this
   exact ⟨this.2, this.1⟩
  refine ⟨fun i x => bset (L.getD i 0) x, fun i hi => ⟨(conB_iff hG hm (hin i hi).2).1 (hin i hi).1, fun x hx => bit_lt (hin i hi).2 hx⟩, ?_, ?_⟩
  ·intro i j x hi hj hx hy
   apply Classical.byContradiction
   intro hne
   by_cases h : i < j
   ·exact (hf' j (Nat.zero_le _) (by omega)).1 i x h hx hy
   ·exact (hf' i (Nat.zero_le _) (by omega)).1 j x (by omega) hy hx
  ·intro i j hi hj ha
   have hne : i ≠ j := fun e => hP.adj_irr (e ▸ ha)
   by_cases h : j < i
   ·exact (hf' i (Nat.zero_le _) (by omega)).2 j h ha
   ·obtain ⟨x, y, hx, hy, hxy⟩ := (hf' j (Nat.zero_le _) (by omega)).2 i (by omega) (hP.adj_symm ha)
    exact ⟨y, x, hy, hx, hG.adj_symm hxy⟩
 ·rintro ⟨M, h1, h2, h3⟩
  let L := (List.range P.length).map fun i => ofSet (M i) G.length
  have hl : L.length = P.length := by simp [L]
  have hg : ∀ i, i < P.length → L.getD i 0 = ofSet (M i) G.length := fun i hi => by
   rw [List.getD_eq_getElem?_getD, List.getElem?_map, List.getElem?_range hi]
   rfl
  have hb : ∀ i x, i < P.length → (bset (L.getD i 0) x ↔ M i x) := fun i x hi => by
   rw [hg i hi, ofSet_bit]
   exact ⟨fun h => h.2, fun h => ⟨(h1 i hi).2 x h, h⟩⟩
  refine ⟨L, hl, fun s hs => ?_, ?_⟩
  ·obtain ⟨i, hi, rfl⟩ := List.mem_map.1 hs
   have hi := List.mem_range.1 hi
   have e : bset (ofSet (M i) G.length) = M i := funext fun x => propext (by rw [← hg i hi]; exact hb i x hi)
   unfold setsN
   rw [List.mem_filter, List.mem_range]
   refine ⟨ofSet_lt _ _, (conB_iff hG hm (ofSet_lt _ _)).2 ?_⟩
   rw [e]
   exact (h1 i hi).1
  ·have := (fits_iff hG hP hm' L hl L.length 0 0 (by omega) (fun x => ⟨fun h => by simp [bset] at h, fun ⟨e, h, _⟩ => by omega⟩)).2 fun k _ hk => by
    refine ⟨fun j x hj hx hy => ?_, fun j hj ha => ?_⟩
    ·have := h2 j k x (by omega) (by omega) ((hb j x (by omega)).1 hx) ((hb k x (by omega)).1 hy)
     omega
    ·obtain ⟨x, y, hx, hy, hxy⟩ := h3 k j (by omega) (by omega) ha
     exact ⟨x, y, (hb k x (by omega)).2 hx, (hb j y (by omega)).2 hy, hxy⟩
   rw [List.take_zero, List.drop_zero] at this
   exact this
end Go.Proofs.YtjloppfdagfpmaaDoor.T
end
section
namespace Go.Proofs.YtjloppfdagfpmaaDoor.X
open Go.RowKit YtjloppfdagfpmaaDoorW.PrintWords YtjloppfdagfpmaaDoorW.PrintLast YtjloppfdagfpmaaDoorW.PrintMore
attribute [local go_sem] max2_int min2_int max_two min_two max_three min_three max_four min_four
noncomputable section
def minor_town_all.f (l0 : List Int) : Option (Int) := some (wrap64 ((shl .i64 1 (l0.length : Int)) - 1))
set_option maxHeartbeats 8000000 in
set_option maxRecDepth 100000 in
theorem minor_town_all.calls (A0 : Option Addr) (c0 : Nat) (l0 : List Int) (r : Int) (w : World) (hr0 : Kd.C (Kd.int .i64) w A0 l0.length l0) (hc0 : l0.length ≤ c0) (h : minor_town_all.f l0 = some r) :
  Calls Tryd.prog 66 #[.slice A0 l0.length c0] w fun e w' => e = .returned (.int .i64 r) ∧ Drawn0 w w' := by
 have HR0 := Aside0.mk hr0
 have HC0 := Aside0.mk hc0
 clear hr0 hc0
 have H : (some (wrap64 ((shl .i64 1 (l0.length : Int)) - 1))) = some r := h
 clear h
 obtain ⟨ji2, hji2⟩ : ∃ j_ : Int, (shl .i64 1 (l0.length : Int)) = j_ := ⟨_, rfl⟩
 replace H : (some (wrap64 ((ji2) - 1))) = some r := by first | (rw [hji2] at H; exact H) | (simp only [hji2] at H ⊢; exact H)
 have hji2_ : (IntKind.i64.wrap (1 * 2 ^ min (l0.length : Int).toNat 64)) = ji2 := hji2
 have hji2z : (l0.length : Int) ≤ 64 → (IntKind.i64.wrap (1 * 2 ^ (l0.length : Int).toNat)) = ji2 := shl_small hji2
 have hji2p : (IntKind.i64.wrap (1 * 2 ^ min l0.length 64)) = ji2 := hji2_
 have hji2q : (l0.length : Int) ≤ 64 → (IntKind.i64.wrap (1 * 2 ^ l0.length)) = ji2 := hji2z
 have hji2r : (IntKind.i64.wrap (2 ^ min l0.length 64)) = ji2 := by have h_ := hji2p; rw [Int.one_mul] at h_; exact h_
 have hji2s : (l0.length : Int) ≤ 64 → (IntKind.i64.wrap (2 ^ l0.length)) = ji2 := fun hle_ => by have h_ := hji2q hle_; rw [Int.one_mul] at h_; exact h_
 have hji2u : (IntKind.i64.wrap (2 ^ min (l0.length : Int).toNat 64)) = ji2 := by have h_ := hji2_; rw [Int.one_mul] at h_; exact h_
 have hji2v : (l0.length : Int) ≤ 64 → (IntKind.i64.wrap (2 ^ (l0.length : Int).toNat)) = ji2 := fun hle_ => by have h_ := hji2z hle_; rw [Int.one_mul] at h_; exact h_
 have hji2y : (wrap64 (1 * 2 ^ min (l0.length : Int).toNat 64)) = ji2 := (i64_w _).symm.trans hji2_
 have hji2x : (l0.length : Int) ≤ 64 → (wrap64 (1 * 2 ^ (l0.length : Int).toNat)) = ji2 := fun h_ => (i64_w _).symm.trans (hji2z h_)
 obtain rfl := Option.some.inj H
 go_enter Tryd.func66, Tryd.ntmps66
 go_wp2
 go_ret
 exact ⟨by first | rfl | (simp; done) | (simp only [← hji2] <;> (first | rfl | simp)) | (simp [*]; done), by repeat (first | exact Drawn0.refl _ | apply Drawn0.step)⟩
end
noncomputable section
def minor_nodes.l0 : Nat → Int → List Int → Option (List Int)
 | 0, _, _ => none
 | k + 1, x0, x3 => if x0 = 0 then (some x3) else ((bits_TrailingZeros.f (IntKind.u64.wrap (x0))).bind fun t106 => (if x3.length < 17592186044416 then (minor_nodes.l0 k (Go.bits .and .i64 x0 (wrap64 (x0 - 1))) (x3 ++ [t106])) else (none)))
def minor_nodes.f (k : Nat) (a0 : Int) : Option (List Int) := minor_nodes.l0 k a0 ([] : List Int)
theorem minor_nodes.mono_l : ∀ k, (∀ y0 y1, LeO (minor_nodes.l0 k y0 y1) (minor_nodes.l0 (k + 1) y0 y1))
 | 0 => fun _ _ r h => by simp [minor_nodes.l0] at h
 | k + 1 => by
  have ih0 := minor_nodes.mono_l k
  ·intro y0 y1
   unfold minor_nodes.l0
   repeat' first
   | (with_reducible exact ih0 _ _)
   | (with_reducible exact LeO.refl _)
   | (with_reducible exact LeO.none _)
   | (with_reducible refine LeO.ite ?_ ?_)
   | (with_reducible refine LeO.bind ?_ (fun _ => ?_))
   | exact ih0 _ _
   | exact LeO.none _
   | refine LeO.ite ?_ ?_
   | refine LeO.bind ?_ (fun _ => ?_)
theorem minor_nodes.mono : ∀ a0 k, LeO (minor_nodes.f k a0) (minor_nodes.f (k + 1) a0) := by
 intro a0 k
 have ih0 := minor_nodes.mono_l k
 unfold minor_nodes.f
 repeat' first
   | (with_reducible exact ih0 _ _)
   | (with_reducible exact LeO.refl _)
   | (with_reducible exact LeO.none _)
   | (with_reducible refine LeO.ite ?_ ?_)
   | (with_reducible refine LeO.bind ?_ (fun _ => ?_))
   | exact ih0 _ _
   | exact LeO.none _
   | refine LeO.ite ?_ ?_
   | refine LeO.bind ?_ (fun _ => ?_)
set_option maxHeartbeats 8000000 in
set_option maxRecDepth 100000 in
theorem minor_nodes.calls (k : Nat) (a0 : Int) (r : List Int) (w : World) (hGL : GL w) (h : minor_nodes.f k a0 = some r) :
  Calls Tryd.prog 69 #[.int .i64 a0] w fun e w' => ∃ v0_ : Value, e = .returned (v0_) ∧ Kd.R (Kd.int .i64) 3 w' w.heap.size (fun _ => True) v0_ r ∧ Below w.heap.size w w' := by
 have HGL := Aside0.mk hGL
 clear hGL
 have HB := Aside0.mk (Below.refl w.heap.size w)
 have H : (minor_nodes.l0 k a0 ([] : List Int)) = some r := h
 clear h
 have H' := Aside0.mk H
 clear H
 go_enter Tryd.func69, Tryd.ntmps69
 go_wp2
 go_loopg [0, 3] k (fun kq v0 v3 w' => ∃ (x0_1 : Int) (x3_1 : List Int), v0 = .int .i64 x0_1 ∧ Aside0 (minor_nodes.l0 kq x0_1 x3_1 = some r) ∧ Aside0 (kq ≤ k) ∧ Aside0 (Kd.R (Kd.int .i64) 3 w' w.heap.size (fun _ => True) v3 x3_1) ∧ Aside0 (Below w.heap.size w w'))
 case atStart => exact ⟨(a0), (([] : List Int)), (Qrs), H', ⟨Nat.le_refl _⟩, ⟨by first | exact Kd.R_nil _ _ _ _ _ | exact Kd.N_nil _ _ _ _ _ | exact Kd.V_nil _ _ _ _ _ | exact Kd.Q_nil _ _ _ _ _ | exact Kd.S_nil _ _ _ _ _⟩, ⟨by repeat (first | (with_reducible first | exact HB.out | apply below_alloc | apply pw_below_drewN | apply below_drew1) | exact HB.out)⟩⟩
 case round =>
  clear H'
  obtain ⟨x0_1, x3_1, rfl, HA, HK1, HO_3, HB⟩ := hrel
  cases gk with
  | zero => exact absurd HA.out (by simp [minor_nodes.l0])
  | succ k1 =>
   have H := HA.out
   clear HA
   simp only [minor_nodes.l0] at H
   by_cases c2 : x0_1 = 0
   ·rw [if_pos c2] at H
    have c2b0 : (x0_1 == 0) = true := beq_iff_eq.mpr c2
    have c2b1 : (x0_1 != 0) = false := bne_eq_false_iff_eq.mpr c2
    clear c2
    obtain rfl := Option.some.inj H
    go_wp2
    go_ret
    exact ⟨_, by first | rfl | (simp [errW_none, errW_some] <;> rfl) | (simp [*, errW_none, errW_some] <;> rfl), by (with_reducible repeat (first | apply Kd.R_alloc | apply Kd.R_drewN | apply Kd.R_drew)); exact HO_3.out, by repeat (first | (with_reducible first | exact HB.out | apply below_alloc | apply pw_below_drewN | apply below_drew1) | exact HB.out)⟩
   ·rw [if_neg c2] at H
    have c2b0 : (x0_1 == 0) = false := beq_eq_false_iff_ne.mpr c2
    have c2b1 : (x0_1 != 0) = true := bne_iff_ne.mpr c2
    replace H := Option.bind_eq_some_iff.mp H
    obtain ⟨t106, A30, H⟩ := H
    replace H : (if x3_1.length < 17592186044416 then (minor_nodes.l0 k1 (Go.bits .and .i64 x0_1 (wrap64 (x0_1 - 1))) (x3_1 ++ [t106])) else (none)) = some r := H
    have A3 := Aside0.mk A30
    clear A30
    by_cases c4 : x3_1.length < 17592186044416
    ·rw [if_pos c4] at H
     have LMc4 := Aside0.mk c4
     clear c4
     obtain ⟨y107, hy107⟩ : ∃ y_ : List Int, y_ = (x3_1 ++ [t106]) := ⟨_, rfl⟩
     replace H : (minor_nodes.l0 k1 (Go.bits .and .i64 x0_1 (wrap64 (x0_1 - 1))) y107) = some r := by first | (rw [hy107]; with_reducible exact H) | (have H2_ := (Option.bind_some _ _).symm.trans H; rw [hy107]; with_reducible exact H2_) | (have H2_ := (Option.bind_some _ _).symm.trans H; with_reducible exact H2_) | with_reducible exact H | (rw [hy107]; exact H) | exact H
     have Ny107 := Aside0.mk hy107
     clear hy107
     have H' := Aside0.mk H
     clear H
     go_wp2_with (first | ((with_reducible refine gate_callee (f := 94) rfl ?_); refine goesL_ (some 13) rfl rfl Tryd.func94 (by kernel_rfl) rfl #[.int .u64 (IntKind.u64.wrap (x0_1))] rfl (Qls) ?_; (with_reducible refine (bits_TrailingZeros.calls (hGL := (Qlg)) (IntKind.u64.wrap (x0_1)) t106 _ A3.out).mono ?_); rintro e w' ⟨rfl, ⟨nd, rfl⟩⟩; refine ⟨_, rfl, ?_⟩) | ((with_reducible refine gate_builtin (b := .append) (xs := #[.tmp 10, .tmp 14]) rfl ?_); at_builtin; refine Kd.R_append (Kd.int .i64) (w0 := w) w.heap.size rfl (.tmp 10) (.tmp 14) 22 3 (.int .i64 0) 8 rfl Tryd.underlying22 info3 rfl (by decide) (by omega) u3 x3_1 t106 [.int .i64 t106] (fun _ => True) (fun _ => False) rfl rfl ?aP (fun _ hk => hk.elim) ?aF ?aO ?aB ?aS ?aL ?_; (case aP => exact rfl); (case aB => exact (Qaw)); (case aF => exact (fun _ _ => trivial)); (case aO => exact (Qro HO_3.out)); (case aS => exact (below_size (Qaw))); (case aL => have := LMc4.out; omega); intro v108 w5 ho hb hg hat; rw [← Ny107.out] at ho; have n0_ := Aside0.mk (hb); have n1_ := Aside0.mk (ho); clear HB; clear HO_3; have HB := n0_; have HO109 := n1_; clear n0_ n1_; clear ho hb hg hat))
     go_roundg k1
     case measure => have := HK1.out; omega
     case rel => exact ⟨(Go.bits .and .i64 x0_1 (wrap64 (x0_1 - 1))), (y107), (Qrs), H', ⟨by have := HK1.out; omega⟩, ⟨by (with_reducible repeat (first | apply Kd.R_alloc | apply Kd.R_drewN | apply Kd.R_drew)); exact HO109.out⟩, ⟨by repeat (first | (with_reducible first | exact HB.out | apply below_alloc | apply pw_below_drewN | apply below_drew1) | exact HB.out)⟩⟩
    ·rw [if_neg c4] at H
     exact absurd H (by simp)
end
noncomputable section
def minor_town_around.l0 : Nat → List Int → Int → List Int → Int → Int → Option (Int)
 | 0, _, _, _, _, _ => none
 | k + 1, x0, x5, x9, x10, x11 => if x11 < x10 then (if 0 ≤ x11 then (if x11 < (x9.length : Int) then (if 0 ≤ (rd x9 x11) then (if (rd x9 x11) < (x0.length : Int) then (minor_town_around.l0 k x0 (Go.bits .or .i64 x5 (rd x0 (rd x9 x11))) x9 x10 (wrap64 (x11 + 1))) else (none)) else (none)) else (none)) else (none)) else (some x5)
def minor_town_around.f (k : Nat) (l0 : List Int) (a1 : Int) : Option (Int) := (minor_nodes.f k a1).bind fun t110 => (minor_town_around.l0 k l0 0 t110 (t110.length : Int) 0)
set_option maxHeartbeats 8000000 in
set_option maxRecDepth 100000 in
theorem minor_town_around.calls (k : Nat) (A0 : Option Addr) (c0 : Nat) (l0 : List Int) (a1 : Int) (r : Int) (w : World) (hGL : GL w) (hr0 : Kd.C (Kd.int .i64) w A0 l0.length l0) (hc0 : l0.length ≤ c0) (h : minor_town_around.f k l0 a1 = some r) :
  Calls Tryd.prog 71 #[.slice A0 l0.length c0, .int .i64 a1] w fun e w' => e = .returned (.int .i64 r) ∧ Below w.heap.size w w' := by
 have HGL := Aside0.mk hGL
 clear hGL
 have HR0 := Aside0.mk hr0
 have HC0 := Aside0.mk hc0
 clear hr0 hc0
 have HB := Aside0.mk (Below.refl w.heap.size w)
 have H : ((minor_nodes.f k a1).bind fun t110 => (minor_town_around.l0 k l0 0 t110 (t110.length : Int) 0)) = some r := h
 clear h
 replace H := Option.bind_eq_some_iff.mp H
 obtain ⟨t110, A30, H⟩ := H
 replace H : (minor_town_around.l0 k l0 0 t110 (t110.length : Int) 0) = some r := H
 have A3 := Aside0.mk A30
 clear A30
 have H' := Aside0.mk H
 clear H
 go_enter Tryd.func71, Tryd.ntmps71
 go_wp2_with (first | ((with_reducible refine gate_callee (f := 69) rfl ?_); refine goesL_ (some 9) rfl rfl Tryd.func69 (by kernel_rfl) rfl #[.int .i64 a1] rfl (Qls) ?_; (with_reducible refine (minor_nodes.calls (hGL := (Qlg)) k a1 t110 _ A3.out).mono ?_); rintro e w4 ⟨v111, rfl, ho0, hb⟩; refine ⟨_, rfl, ?_⟩; have n0_ := Aside0.mk (Kd.R_lower ho0 (below_size (Qaw))); have n1_ := Aside0.mk (below_step (Qaw) hb); clear HB; have HO112 := n0_; have HB := n1_; clear n0_ n1_; (try clear hb); (try clear hb2); (try clear hk); (try clear hi); (try clear ho0); obtain ⟨Ao5, co5, eo5⟩ := Kd.R_slice HO112.out; subst eo5))
 go_loopg [5, 11] k (fun kq v5 v11 w' => ∃ (x5_1 : Int) (x11_1 : Int), v5 = .int .i64 x5_1 ∧ v11 = .int .i64 x11_1 ∧ Aside0 (minor_town_around.l0 kq l0 x5_1 t110 (t110.length : Int) x11_1 = some r) ∧ Aside0 (kq ≤ k) ∧ Aside0 (Kd.R (Kd.int .i64) 3 w' w.heap.size (fun _ => True) (.slice Ao5 t110.length co5) t110) ∧ Aside0 (Below w.heap.size w w'))
 case atStart => exact ⟨(0), (0), (Qrs), (Qrs), H', ⟨Nat.le_refl _⟩, ⟨by (with_reducible repeat (first | apply Kd.R_alloc | apply Kd.R_drewN | apply Kd.R_drew)); exact HO112.out⟩, ⟨by repeat (first | (with_reducible first | exact HB.out | apply below_alloc | apply pw_below_drewN | apply below_drew1) | exact HB.out)⟩⟩
 case round =>
  clear H'
  try clear p2
  obtain ⟨x5_1, x11_1, rfl, rfl, HA, HK1, HO_9, HB⟩ := hrel
  cases gk with
  | zero => exact absurd HA.out (by simp [minor_town_around.l0])
  | succ k1 =>
   have H := HA.out
   clear HA
   simp only [minor_town_around.l0] at H
   by_cases c6 : x11_1 < (t110.length : Int)
   ·rw [if_pos c6] at H
    have c6b0 : decide (x11_1 < (t110.length : Int)) = true := decide_eq_true c6
    clear c6
    by_cases c7 : 0 ≤ x11_1
    ·rw [if_pos c7] at H
     have c7b0 : decide (0 ≤ x11_1) = true := decide_eq_true c7
     clear c7
     by_cases c8 : x11_1 < (t110.length : Int)
     ·rw [if_pos c8] at H
      have c8b0 : decide (x11_1 < (t110.length : Int)) = true := decide_eq_true c8
      clear c8
      by_cases c9 : 0 ≤ (rd t110 x11_1)
      ·rw [if_pos c9] at H
       have c9b0 : decide (0 ≤ (rd t110 x11_1)) = true := decide_eq_true c9
       clear c9
       by_cases c10 : (rd t110 x11_1) < (l0.length : Int)
       ·rw [if_pos c10] at H
        have c10b0 : decide ((rd t110 x11_1) < (l0.length : Int)) = true := decide_eq_true c10
        clear c10
        have H' := Aside0.mk H
        clear H
        have p113 : 0 ≤ (x11_1 : Int) := of_decide_eq_true (Qas)
        have q113 : x11_1 < (t110.length : Int) := of_decide_eq_true (Qas)
        obtain ⟨ad113, e113, hx113_0⟩ := Kd.at_int (Kd.R_reads' HO_9.out).2.2 x11_1 p113 q113
        cases e113
        replace p113 := eq_true p113
        replace q113 := eq_true q113
        have p114 : 0 ≤ ((rd t110 x11_1) : Int) := of_decide_eq_true (Qas)
        have q114 : (rd t110 x11_1) < (l0.length : Int) := of_decide_eq_true (Qas)
        obtain ⟨ad114, e114, hx114_0⟩ := Kd.at_int HR0.out (rd t110 x11_1) p114 q114
        cases e114
        replace hx114_0 := (HB.out.cell (World.block_lt_of_cell? w _ hx114_0)).trans hx114_0
        replace p114 := eq_true p114
        replace q114 := eq_true q114
        go_wp2
        go_roundg k1
        case measure => have := HK1.out; omega
        case rel => exact ⟨(Go.bits .or .i64 x5_1 (rd l0 (rd t110 x11_1))), (wrap64 (x11_1 + 1)), (Qrs), (Qrs), H', ⟨by have := HK1.out; omega⟩, ⟨by (with_reducible repeat (first | apply Kd.R_alloc | apply Kd.R_drewN | apply Kd.R_drew)); exact HO_9.out⟩, ⟨by repeat (first | (with_reducible first | exact HB.out | apply below_alloc | apply pw_below_drewN | apply below_drew1) | exact HB.out)⟩⟩
       ·rw [if_neg c10] at H
        exact absurd H (by simp)
      ·rw [if_neg c9] at H
       exact absurd H (by simp)
     ·rw [if_neg c8] at H
      exact absurd H (by simp)
    ·rw [if_neg c7] at H
     exact absurd H (by simp)
   ·rw [if_neg c6] at H
    have c6b0 : decide (x11_1 < (t110.length : Int)) = false := decide_eq_false c6
    clear c6
    obtain rfl := Option.some.inj H
    go_wp2
    go_ret
    exact ⟨by first | rfl | (simp [errW_none, errW_some] <;> rfl) | (simp [*, errW_none, errW_some] <;> rfl), by repeat (first | (with_reducible first | exact HB.out | apply below_alloc | apply pw_below_drewN | apply below_drew1) | exact HB.out)⟩
end
noncomputable section
def minor_town_connected.l0 : Nat → List Int → Int → Int → Option (Bool)
 | 0, _, _, _ => none
 | k + 1, x0, x1, x5 => (minor_town_around.f k x0 x5).bind fun t115 => (if (Go.bits .or .i64 x5 (Go.bits .and .i64 t115 x1)) = x5 then (some (x5 == x1)) else (minor_town_connected.l0 k x0 x1 (Go.bits .or .i64 x5 (Go.bits .and .i64 t115 x1))))
def minor_town_connected.f (k : Nat) (l0 : List Int) (a1 : Int) : Option (Bool) := if a1 = 0 then (some false) else (minor_town_connected.l0 k l0 a1 (Go.bits .and .i64 a1 (wrap64 (-a1))))
set_option maxHeartbeats 8000000 in
set_option maxRecDepth 100000 in
theorem minor_town_connected.calls (k : Nat) (A0 : Option Addr) (c0 : Nat) (l0 : List Int) (a1 : Int) (r : Bool) (w : World) (hGL : GL w) (hr0 : Kd.C (Kd.int .i64) w A0 l0.length l0) (hc0 : l0.length ≤ c0) (h : minor_town_connected.f k l0 a1 = some r) :
  Calls Tryd.prog 67 #[.slice A0 l0.length c0, .int .i64 a1] w fun e w' => e = .returned (.bool r) ∧ Below w.heap.size w w' := by
 have HGL := Aside0.mk hGL
 clear hGL
 have HR0 := Aside0.mk hr0
 have HC0 := Aside0.mk hc0
 clear hr0 hc0
 have HB := Aside0.mk (Below.refl w.heap.size w)
 have H : (if a1 = 0 then (some false) else (minor_town_connected.l0 k l0 a1 (Go.bits .and .i64 a1 (wrap64 (-a1))))) = some r := h
 clear h
 by_cases c3 : a1 = 0
 ·rw [if_pos c3] at H
  have c3b0 : (a1 == 0) = true := beq_iff_eq.mpr c3
  have c3b1 : (a1 != 0) = false := bne_eq_false_iff_eq.mpr c3
  clear c3
  obtain rfl := Option.some.inj H
  go_enter Tryd.func67, Tryd.ntmps67
  go_wp2
  go_ret
  exact ⟨by first | rfl | (simp [errW_none, errW_some] <;> rfl) | (simp [*, errW_none, errW_some] <;> rfl), by repeat (first | (with_reducible first | exact HB.out | apply below_alloc | apply pw_below_drewN | apply below_drew1) | exact HB.out)⟩
 ·rw [if_neg c3] at H
  have c3b0 : (a1 == 0) = false := beq_eq_false_iff_ne.mpr c3
  have c3b1 : (a1 != 0) = true := bne_iff_ne.mpr c3
  have H' := Aside0.mk H
  clear H
  go_enter Tryd.func67, Tryd.ntmps67
  go_wp2
  go_loopg [5] k (fun kq v5 w' => ∃ (x5_1 : Int), v5 = .int .i64 x5_1 ∧ Aside0 (minor_town_connected.l0 kq l0 a1 x5_1 = some r) ∧ Aside0 (kq ≤ k) ∧ Aside0 (Below w.heap.size w w'))
  case atStart => exact ⟨(Go.bits .and .i64 a1 (wrap64 (-a1))), (Qrs), H', ⟨Nat.le_refl _⟩, ⟨by repeat (first | (with_reducible first | exact HB.out | apply below_alloc | apply pw_below_drewN | apply below_drew1) | exact HB.out)⟩⟩
  case round =>
   clear H'
   try clear p2
   try clear c3
   try clear c3b0
   try clear c3b1
   obtain ⟨x5_1, rfl, HA, HK1, HB⟩ := hrel
   cases gk with
   | zero => exact absurd HA.out (by simp [minor_town_connected.l0])
   | succ k1 =>
    have H := HA.out
    clear HA
    simp only [minor_town_connected.l0] at H
    replace H := Option.bind_eq_some_iff.mp H
    obtain ⟨t115, A40, H⟩ := H
    replace H : (if (Go.bits .or .i64 x5_1 (Go.bits .and .i64 t115 a1)) = x5_1 then (some (x5_1 == a1)) else (minor_town_connected.l0 k1 l0 a1 (Go.bits .or .i64 x5_1 (Go.bits .and .i64 t115 a1)))) = some r := H
    have A4 := Aside0.mk A40
    clear A40
    by_cases c5 : (Go.bits .or .i64 x5_1 (Go.bits .and .i64 t115 a1)) = x5_1
    ·rw [if_pos c5] at H
     have c5b0 : ((Go.bits .or .i64 x5_1 (Go.bits .and .i64 t115 a1)) == x5_1) = true := beq_iff_eq.mpr c5
     have c5b1 : ((Go.bits .or .i64 x5_1 (Go.bits .and .i64 t115 a1)) != x5_1) = false := bne_eq_false_iff_eq.mpr c5
     clear c5
     obtain rfl := Option.some.inj H
     go_wp2_with (first | ((with_reducible refine gate_callee (f := 71) rfl ?_); refine goesL_ (some 18) rfl rfl Tryd.func71 (by kernel_rfl) rfl #[.slice A0 l0.length c0, .int .i64 x5_1] rfl (Qls) ?_; (with_reducible refine (minor_town_around.calls (hGL := (Qlg)) k1 _ _ l0 x5_1 t115 _ ?side1 ?side2 A4.out).mono ?_); (case side1 => exact Qsc (Kd.C_below HR0.out HB.out)); (case side2 => exact HC0.out); rintro e w6 ⟨rfl, hb⟩; refine ⟨_, rfl, ?_⟩; have n0_ := Aside0.mk (below_step (Qaw) hb); clear HB; have HB := n0_; clear n0_; (try clear hb); (try clear hb2); (try clear hk); (try clear hi)))
     go_ret
     exact ⟨by first | rfl | (simp [errW_none, errW_some] <;> rfl) | (simp [*, errW_none, errW_some] <;> rfl), by repeat (first | (with_reducible first | exact HB.out | apply below_alloc | apply pw_below_drewN | apply below_drew1) | exact HB.out)⟩
    ·rw [if_neg c5] at H
     have c5b0 : ((Go.bits .or .i64 x5_1 (Go.bits .and .i64 t115 a1)) == x5_1) = false := beq_eq_false_iff_ne.mpr c5
     have c5b1 : ((Go.bits .or .i64 x5_1 (Go.bits .and .i64 t115 a1)) != x5_1) = true := bne_iff_ne.mpr c5
     have H' := Aside0.mk H
     clear H
     go_wp2_with (first | ((with_reducible refine gate_callee (f := 71) rfl ?_); refine goesL_ (some 18) rfl rfl Tryd.func71 (by kernel_rfl) rfl #[.slice A0 l0.length c0, .int .i64 x5_1] rfl (Qls) ?_; (with_reducible refine (minor_town_around.calls (hGL := (Qlg)) k1 _ _ l0 x5_1 t115 _ ?side1 ?side2 A4.out).mono ?_); (case side1 => exact Qsc (Kd.C_below HR0.out HB.out)); (case side2 => exact HC0.out); rintro e w7 ⟨rfl, hb⟩; refine ⟨_, rfl, ?_⟩; have n0_ := Aside0.mk (below_step (Qaw) hb); clear HB; have HB := n0_; clear n0_; (try clear hb); (try clear hb2); (try clear hk); (try clear hi)))
     go_roundg k1
     case measure => have := HK1.out; omega
     case rel => exact ⟨(Go.bits .or .i64 x5_1 (Go.bits .and .i64 t115 a1)), (Qrs), H', ⟨by have := HK1.out; omega⟩, ⟨by repeat (first | (with_reducible first | exact HB.out | apply below_alloc | apply pw_below_drewN | apply below_drew1) | exact HB.out)⟩⟩
end
noncomputable section
def minor_count.f (a0 : Int) : Option (Int) := (bits_OnesCount.f (IntKind.u64.wrap (a0))).bind fun t117 => (some t117)
set_option maxHeartbeats 8000000 in
set_option maxRecDepth 100000 in
theorem minor_count.calls (a0 : Int) (r : Int) (w : World) (h : minor_count.f a0 = some r) :
  Calls Tryd.prog 109 #[.int .i64 a0] w fun e w' => e = .returned (.int .i64 r) ∧ Drawn0 w w' := by
 have H : ((bits_OnesCount.f (IntKind.u64.wrap (a0))).bind fun t117 => (some t117)) = some r := h
 clear h
 replace H := Option.bind_eq_some_iff.mp H
 obtain ⟨t117, A20, H⟩ := H
 replace H : (some t117) = some r := H
 have A2 := Aside0.mk A20
 clear A20
 obtain rfl := Option.some.inj H
 go_enter Tryd.func109, Tryd.ntmps109
 go_wp2_with (first | ((with_reducible refine gate_callee (f := 118) rfl ?_); refine goesL_ (some 5) rfl rfl Tryd.func118 (by kernel_rfl) rfl #[.int .u64 (IntKind.u64.wrap (a0))] rfl (Qls) ?_; (with_reducible refine (bits_OnesCount.calls (IntKind.u64.wrap (a0)) t117 _ A2.out).mono ?_); rintro e w' ⟨rfl, ⟨nd, rfl⟩⟩; refine ⟨_, rfl, ?_⟩))
 go_ret
 exact ⟨by first | rfl | (simp; done) | (simp [*]; done), by repeat (first | exact Drawn0.refl _ | apply Drawn0.step)⟩
end
end Go.Proofs.YtjloppfdagfpmaaDoor.X
end
section
namespace Go.Proofs.YtjloppfdagfpmaaDoor.X
open Go.RowKit YtjloppfdagfpmaaDoorW.PrintWords YtjloppfdagfpmaaDoorW.PrintLast YtjloppfdagfpmaaDoorW.PrintMore YtjloppfdagfpmaaDoor.T
theorem nodes_all : ∀ x : Fin 512, minor_nodes.f 12 (x.val : Int) = some (gi (els x.val 9)) := by decide +kernel
theorem nodes_ev (x : Nat) (hx : x < 512) : Ev (fun k => minor_nodes.f k (x : Int)) (gi (els x 9)) :=
 Ev.of (minor_nodes.mono _) (nodes_all ⟨x, hx⟩)
theorem count_all : ∀ x : Fin 512, minor_count.f (x.val : Int) = some (pc x.val 9 : Int) := by decide +kernel
theorem count_eq (x : Nat) (hx : x < 512) : minor_count.f (x : Int) = some (pc x 9 : Int) := count_all ⟨x, hx⟩
theorem small (G : List Nat) (h : G.length ≤ 9) {x : Nat} (hx : x < 2 ^ G.length) : x < 512 := Nat.lt_of_lt_of_le hx (show 2 ^ G.length ≤ 2 ^ 9 from Nat.pow_le_pow_right (by omega) h)
theorem big {x : Nat} (h : x < 512) : x < 2 ^ 62 := by omega
theorem around_l0 (G : List Nat) (hG : Gr 9 G) (L : List Nat) (hL : ∀ x ∈ L, x < G.length) (hLl : L.length ≤ 100) : ∀ d i (o : Nat), i + d = L.length → o < 2 ^ G.length →
  ∃ r : Nat, Ev (fun k => minor_town_around.l0 k (gi G) (o : Int) (gi L) (L.length : Int) (i : Int)) (r : Int) ∧ r < 2 ^ G.length ∧ ∀ j, bset r j ↔ bset o j ∨ ∃ x, x ∈ L.drop i ∧ Adj G x j := by
 intro d
 induction d with
 | zero =>
  intro i o hi ho
  refine ⟨o, Ev.step (f := fun _ => some (o : Int)) (fun k => ?_) (Ev.some rfl), ho, fun j => ?_⟩
  ·rw [minor_town_around.l0, if_neg (by omega)]
  ·rw [List.drop_eq_nil_of_le (by omega)]; simp
 | succ d ih =>
  intro i o hi ho
  have hi' : i < L.length := by omega
  have hm := hL _ (List.getElem_mem hi')
  have hr : rd (gi L) (i : Int) = ((L[i] : Nat) : Int) := by rw [rd_gi, List.getD_eq_getElem?_getD, List.getElem?_eq_getElem hi']; rfl
  have hrow := hG.row L[i]
  have ho2 : o ||| G.getD L[i] 0 < 2 ^ G.length := or_lt ho hrow
  obtain ⟨r, h1, h2, h3⟩ := ih (i + 1) (o ||| G.getD L[i] 0) (by omega) ho2
  refine ⟨r, Ev.step (fun k => ?_) h1, h2, fun j => ?_⟩
  ·rw [minor_town_around.l0, if_pos (by omega), if_pos (by omega), if_pos (by rw [gi_length]; omega), hr, if_pos (by omega), if_pos (by rw [gi_length]; omega), rd_gi,
    b_or _ _ (big (small G hG.most ho)) (big (small G hG.most hrow)), wrap_succ i (by omega)]
  ·rw [h3, or_bset, List.drop_eq_getElem_cons hi']
   constructor
   ·rintro ((h | h) | ⟨x, hx, ha⟩)
    ·exact .inl h
    ·exact .inr ⟨_, List.mem_cons_self, h⟩
    ·exact .inr ⟨x, List.mem_cons_of_mem _ hx, ha⟩
   ·rintro (h | ⟨x, hx, ha⟩)
    ·exact .inl (.inl h)
    ·rcases List.mem_cons.1 hx with h | h
     ·subst h; exact .inl (.inr ha)
     ·exact .inr ⟨x, h, ha⟩
theorem around_ev (G : List Nat) (hG : Gr 9 G) (s : Nat) (hs : s < 2 ^ G.length) : Ev (fun k => minor_town_around.f k (gi G) (s : Int)) ((Around G s : Nat) : Int) := by
 have hs5 := small G hG.most hs
 obtain ⟨r, h1, h2, h3⟩ := around_l0 G hG (els s 9) (fun x hx => bit_lt hs (mem_els.1 hx).2) (by rw [els_length]; have := pc_le s 9; omega) (els s 9).length 0 0 (by omega) (Nat.two_pow_pos _)
 have e : r = Around G s := eq_of_bits fun j => by
  have hh := h3 j
  rw [Around_bit hG]
  unfold bset at hh
  rw [hh]
  constructor
  ·rintro (h | ⟨x, hx, ha⟩)
   ·simp at h
   ·exact ⟨x, (mem_els.1 hx).2, ha⟩
  ·rintro ⟨x, hx, ha⟩
   exact .inr ⟨x, mem_els.2 ⟨Nat.lt_of_lt_of_le (bit_lt hs hx) hG.most, hx⟩, ha⟩
 subst e
 refine Ev.bind (nodes_ev s hs5) ?_
 rw [gi_length]
 exact h1
theorem all_eq (G : List Nat) (h : G.length ≤ 9) : minor_town_all.f (gi G) = some ((2 ^ G.length - 1 : Nat) : Int) := by
 unfold minor_town_all.f
 have h1 : 2 ^ G.length ≤ 2 ^ 9 := Nat.pow_le_pow_right (by omega) h
 have h2 := Nat.two_pow_pos G.length
 rw [gi_length, s_one _ (by omega), w64_small _ (by omega) (by omega)]
 congr 1
 omega
theorem lowb_all : ∀ x : Fin 512, x.val ≠ 0 → Go.bits .and .i64 (x.val : Int) (wrap64 (-(x.val : Int))) = ((2 ^ lowb x.val : Nat) : Int) := by decide +kernel
theorem conn_l0 (G : List Nat) (hG : Gr 9 G) (s : Nat) (hs : s < 2 ^ G.length) : ∀ (d p : Nat), (∀ j, bset p j → bset s j) → pc s 9 ≤ pc p 9 + d → Ev (fun k => minor_town_connected.l0 k (gi G) (s : Int) (p : Int)) (decide (clo G s d p = s)) := by
 intro d
 induction d with
 | zero =>
  intro p hp hc
  have hp2 : p < 2 ^ G.length := lt_of_bits fun j hj => bit_lt hs (hp j hj)
  have he : p = s := by
   apply eq_of_bits
   intro j
   refine ⟨hp j, fun hj => ?_⟩
   apply Classical.byContradiction
   intro hn
   have := pc_lt (x := p) (y := s) j 9 (fun i _ hi => hp i hi) (Nat.lt_of_lt_of_le (bit_lt hs hj) hG.most) (by simpa using hn) hj
   omega
  have hA := Nat.lt_of_le_of_lt (Nat.and_le_left (m := s)) (Around_lt hG p)
  refine Ev.step (f := fun k => (minor_town_around.f k (gi G) (p : Int)).bind fun t115 => (if (Go.bits .or .i64 (p : Int) (Go.bits .and .i64 t115 (s : Int))) = (p : Int) then (some ((p : Int) == (s : Int))) else (minor_town_connected.l0 k (gi G) (s : Int) (Go.bits .or .i64 (p : Int) (Go.bits .and .i64 t115 (s : Int)))))) (fun k => by rw [minor_town_connected.l0]) ?_
  refine Ev.bind (around_ev G hG p hp2) ?_
  simp only [b_and _ s (big (small G hG.most (Around_lt hG p))) (big (small G hG.most hs)), b_or p _ (big (small G hG.most hp2)) (big (small G hG.most hA))]
  have hf : p ||| (Around G p &&& s) = p := eq_of_bits fun j => by
   show bset _ _ ↔ bset _ _
   rw [or_bset, and_bset, ← he]
   exact ⟨fun h => h.elim id fun h => h.2, .inl⟩
  rw [hf]
  refine Ev.if_pos rfl (Ev.some ?_)
  rw [he]
  simp [clo]
 | succ d ih =>
  intro p hp hc
  have hp2 : p < 2 ^ G.length := lt_of_bits fun j hj => bit_lt hs (hp j hj)
  have hA := Nat.lt_of_le_of_lt (Nat.and_le_left (m := s)) (Around_lt hG p)
  refine Ev.step (f := fun k => (minor_town_around.f k (gi G) (p : Int)).bind fun t115 => (if (Go.bits .or .i64 (p : Int) (Go.bits .and .i64 t115 (s : Int))) = (p : Int) then (some ((p : Int) == (s : Int))) else (minor_town_connected.l0 k (gi G) (s : Int) (Go.bits .or .i64 (p : Int) (Go.bits .and .i64 t115 (s : Int)))))) (fun k => by rw [minor_town_connected.l0]) ?_
  refine Ev.bind (around_ev G hG p hp2) ?_
  simp only [b_and _ s (big (small G hG.most (Around_lt hG p))) (big (small G hG.most hs)), b_or p _ (big (small G hG.most hp2)) (big (small G hG.most hA))]
  by_cases hf : p ||| (Around G p &&& s) = p
  ·rw [hf]
   refine Ev.if_pos rfl (Ev.some ?_)
   rw [clo_fix hf]
   by_cases e : p = s
   ·simp [e]
   ·have : ¬ (p : Int) = (s : Int) := by omega
    simp [e, this]
  ·refine Ev.if_neg (by omega) ?_
   have hsub : ∀ j, bset (p ||| (Around G p &&& s)) j → bset s j := fun j hj => by
    rw [or_bset, and_bset] at hj
    exact hj.elim (hp j) fun h => h.2
   have hnew : ∃ v, bset (p ||| (Around G p &&& s)) v ∧ ¬ bset p v := by
    apply Classical.byContradiction
    intro hn
    exact hf (eq_of_bits fun j => ⟨fun hj => Classical.byContradiction fun hc => hn ⟨j, hj, hc⟩, fun hj => (or_bset _ _ _).2 (.inl hj)⟩)
   obtain ⟨v, hv1, hv2⟩ := hnew
   have := pc_lt (x := p) (y := p ||| (Around G p &&& s)) v 9 (fun j _ hj => (or_bset _ _ _).2 (.inl hj)) (Nat.lt_of_lt_of_le (bit_lt hs (hsub v hv1)) hG.most) (by simpa [bset] using hv2) hv1
   exact ih _ hsub (by omega)
theorem connected_ev (G : List Nat) (hG : Gr 9 G) (s : Nat) (hs : s < 2 ^ G.length) : Ev (fun k => minor_town_connected.f k (gi G) (s : Int)) (conB G s) := by
 have hs5 := small G hG.most hs
 unfold minor_town_connected.f
 by_cases h0 : s = 0
 ·subst h0
  exact Ev.if_pos rfl (Ev.some rfl)
 ·refine Ev.if_neg (by omega) ?_
  rw [lowb_all ⟨s, hs5⟩ h0]
  have hl := (lowb_bit hG (by omega) hs h0).1
  have := conn_l0 G hG s hs 9 (2 ^ lowb s) (fun j hj => by rw [(two_pow_bit _ _).1 hj]; exact hl) (by have := pc_le s 9; omega)
  unfold conB
  simpa [h0] using this
theorem gr_mono {m m' : Nat} {G : List Nat} (h : Gr m G) (hm : m ≤ m') : Gr m' G := ⟨h.pos, Nat.le_trans h.most hm, h.lt, h.irr, h.symm⟩
theorem shJ (v : Nat) (hv : v < 62) : ∃ J : Int, (wrap64 (2 ^ v) = J ∧ wrap64 (2 ^ min v 64) = J ∧ shl .i64 1 (v : Int) = J) ∧ J = ((2 ^ v : Nat) : Int) := by
 have e := s_one v hv
 have h : (2 : Nat) ^ v < 2 ^ 62 := Nat.pow_lt_pow_right (by omega) hv
 have h2 : wrap64 (2 ^ v) = ((2 ^ v : Nat) : Int) := by
  rw [show ((2 : Int) ^ v) = ((2 ^ v : Nat) : Int) by simp]
  generalize 2 ^ v = x at *
  exact w64_small _ (by omega) (by omega)
 exact ⟨_, ⟨h2, by rw [Nat.min_eq_left (by omega)]; exact h2, e⟩, rfl⟩
end Go.Proofs.YtjloppfdagfpmaaDoor.X
end
section
namespace Go.Proofs.YtjloppfdagfpmaaDoor.X
open Go.RowKit YtjloppfdagfpmaaDoorW.PrintWords YtjloppfdagfpmaaDoorW.PrintLast YtjloppfdagfpmaaDoorW.PrintMore YtjloppfdagfpmaaDoor.T
attribute [local go_sem] max2_int min2_int max_two min_two max_three min_three max_four min_four
set_option maxHeartbeats 2000000 in
theorem fit1 (pB aB sB : Nat) (A : Option Addr) (c : Nat) (M : List Int) (j ar : Int) (hj : 0 ≤ j) (hj2 : j < (M.length : Int)) (w : World) (hM : Kd.C (Kd.int .i64) w A M.length M) (h0 : w.cell? ⟨pB, 0, none⟩ = some (.pointer (some ⟨sB, 0, none⟩))) (h1 : w.cell? ⟨aB, 0, none⟩ = some (.int .i64 ar)) (h2 : w.cell? ⟨sB, 3, none⟩ = some (.slice A M.length c)) :
  Calls Tryd.prog 119 #[.int .i64 j, .pointer (some ⟨pB, 0, none⟩), .pointer (some ⟨aB, 0, none⟩)] w fun e w' => e = .returned (.bool (Go.bits .and .i64 (rd M j) ar == 0)) ∧ Below w.heap.size w w' := by
 obtain ⟨ad, e1, hgx⟩ := Kd.at_int hM j hj hj2
 subst e1
 have hi1 : (j < (M.length : Int)) = True := eq_true hj2
 have hi2 : decide (j < (M.length : Int)) = true := decide_eq_true hj2
 have hi3 : (0 ≤ j) = True := eq_true hj
 have hi4 : decide (0 ≤ j) = true := decide_eq_true hj
 generalize rd M j = x at *
 clear hM
 have h0d : w.drew.cell? ⟨pB, 0, none⟩ = some (.pointer (some ⟨sB, 0, none⟩)) := h0
 have h1d : w.drew.cell? ⟨aB, 0, none⟩ = some (.int .i64 ar) := h1
 have h2d : w.drew.cell? ⟨sB, 3, none⟩ = some (.slice (some ad) M.length c) := h2
 have hgd : w.drew.cell? (ad.add j.toNat) = some (.int .i64 x) := hgx
 have hBd : Below w.heap.size w w.drew := below_drew (Below.refl _ _)
 go_enter Tryd.func119, Tryd.ntmps119
 go_wp2
 refine start_ (n := 11) (S := fun w' => w'.cell? ⟨pB, 0, none⟩ = some (.pointer (some ⟨sB, 0, none⟩)) ∧ w'.cell? ⟨aB, 0, none⟩ = some (.int .i64 ar) ∧ w'.cell? ⟨sB, 3, none⟩ = some (.slice (some ad) M.length c) ∧ w'.cell? (ad.add j.toNat) = some (.int .i64 x) ∧ Below w.heap.size w w') (ds := []) (Qbz 11 0) (by kernel_rfl) rfl rfl ⟨h0d, h1d, h2d, hgd, hBd⟩ (fun hHeld => ?_)
 refine Qpu 4 9 ?_ ?_ (Qbz 11 16) (by kernel_rfl) ?_
 refine take_ (i := 0) (N := some 5) (v := ?_) (a' := ?_) (Qbz 11 17) rfl rfl (by kernel_rfl) (fun _ _ _ h => h) (Or.inl ⟨by rfl, ?_⟩) hHeld ?_ ?_;rotate_left;(·rintro w' ⟨s0, s1, s2, s3, s4⟩;go_simp;with_reducible rfl);rotate_left;(·simp only [Act.put, Qp1, Qp2, Qp3, i64_w, i32_w];rfl)
 refine Qpu 1 6 ?_ ?_ (Qbz 11 19) (by kernel_rfl) ?_
 refine Qpu 2 7 ?_ ?_ (Qbz 11 23) (by kernel_rfl) ?_
 refine take_ (i := 3) (N := some 8) (v := ?_) (a' := ?_) (Qbz 11 31) rfl rfl (by kernel_rfl) (fun _ _ _ h => h) (Or.inl ⟨by rfl, ?_⟩) hHeld ?_ ?_;rotate_left;(·rintro w' ⟨s0, s1, s2, s3, s4⟩;go_simp;with_reducible rfl);rotate_left;(·simp only [Act.put, Qp1, Qp2, Qp3, i64_w, i32_w];rfl)
 refine Qpu 5 10 ?_ ?_ (Qbz 11 63) (by kernel_rfl) ?_
 refine take_ (i := 6) (N := some 11) (v := ?_) (a' := ?_) (Qbz 11 127) rfl rfl (by kernel_rfl) (fun _ _ _ h => h) (Or.inl ⟨by rfl, ?_⟩) hHeld ?_ ?_;rotate_left;(·rintro w' ⟨s0, s1, s2, s3, s4⟩;go_simp;with_reducible rfl);rotate_left;(·simp only [Act.put, Qp1, Qp2, Qp3, i64_w, i32_w];rfl)
 refine take_ (i := 7) (N := some 12) (v := ?_) (a' := ?_) (Qbz 11 255) rfl rfl (by kernel_rfl) (fun _ _ _ h => h) (Or.inl ⟨by rfl, ?_⟩) hHeld ?_ ?_;rotate_left;(·rintro w' ⟨s0, s1, s2, s3, s4⟩;go_simp;with_reducible rfl);rotate_left;(·simp only [Act.put, Qp1, Qp2, Qp3, i64_w, i32_w];rfl)
 refine Qpu 8 13 ?_ ?_ (Qbz 11 511) (by kernel_rfl) ?_
 refine Qpu 9 14 ?_ ?_ (Qbz 11 1023) (by kernel_rfl) ?_
 refine Qpu 10 4 ?_ ?_ (Qbz 11 2047) (by kernel_rfl) ?_
 refine done_ (by kernel_rfl) ?_
 go_wp2
 go_ret
 exact ⟨rfl, hHeld.2.2.2.2⟩
set_option maxHeartbeats 2000000 in
theorem index_fit (A : Option Addr) (c : Nat) (l : List Int) (p : Int → Bool) (xB0 xB1 : Nat) (w : World) (hx : Kd.C (Kd.int .i64) w A l.length l) (hl : l.length ≤ 1000)
  (hp : ∀ W, Below w.heap.size w W → ∀ x ∈ l, Calls Tryd.prog 119 #[.int .i64 x, .pointer (some ⟨xB0, 0, none⟩), .pointer (some ⟨xB1, 0, none⟩)] W fun e w' => e = .returned (.bool (p x)) ∧ Below W.heap.size W w') :
  Calls Tryd.prog 93 #[.slice A l.length c, .func (.func 119) #[] #[.pointer (some ⟨xB0, 0, none⟩), .pointer (some ⟨xB1, 0, none⟩)]] w fun e w' => ∃ z, e = .returned (.int .i64 z) ∧ decide (z ≥ 0) = l.any p ∧ Below w.heap.size w w' := by
 have HX := Aside0.mk hx
 have HP := Aside0.mk hp
 clear hx hp
 go_enter Tryd.func93, Tryd.ntmps93
 go_wp2
 go_loopg [8] l.length (fun kq v8 w' => ∃ i : Nat, v8 = .int .i64 (i : Int) ∧ i + kq = l.length ∧ Aside0 ((l.drop i).any p = l.any p) ∧ Aside0 (Below w.heap.size w w'))
 case atStart => exact ⟨0, rfl, by omega, ⟨rfl⟩, ⟨Below.refl _ _⟩⟩
 case round =>
  obtain ⟨i, rfl, hi, HA, HB⟩ := hrel
  by_cases hil : i < l.length
  ·have hi1 : ((i : Int) < (l.length : Int)) = True := eq_true (by omega)
   have hi2 : decide ((i : Int) < (l.length : Int)) = true := decide_eq_true (by omega)
   cases gk with
   | zero => omega
   | succ gi =>
   obtain ⟨ad, e1, hgx⟩ := Kd.at_int (Kd.C_below HX.out HB.out) (i : Int) (by omega) (by omega)
   subst e1
   have hra : rd l (i : Int) = l[i] := by unfold rd; rw [Int.toNat_natCast, List.getD_eq_getElem?_getD, List.getElem?_eq_getElem hil]; rfl
   rw [hra, Int.toNat_natCast] at hgx
   have hm : l[i] ∈ l := List.getElem_mem hil
   have ha := HA.out
   rw [List.drop_eq_getElem_cons hil, List.any_cons] at ha
   have HC := Aside0.mk (HP.out wr HB.out _ hm)
   generalize l[i] = x at *
   clear hra HA
   cases hpx : p x
   ·rw [hpx] at HC ha
    have HA2 : Aside0 ((l.drop (i + 1)).any p = l.any p) := ⟨by simpa using ha⟩
    clear ha hpx hm
    go_wp2_with (go_at_call 119; refine HC.out.mono ?_; rintro e w3 ⟨rfl, hb⟩)
    go_roundg gi
    case measure => omega
    case rel => exact ⟨i + 1, by go_num, by omega, HA2, ⟨below_step HB.out hb⟩⟩
   ·rw [hpx] at HC ha
    have HA2 : Aside0 (true = l.any p) := ⟨by simpa using ha⟩
    clear ha hpx hm
    go_wp2_with (go_at_call 119; refine HC.out.mono ?_; rintro e w3 ⟨rfl, hb⟩)
    go_ret
    exact ⟨_, rfl, by rw [← HA2.out]; exact decide_eq_true (by omega), below_step HB.out hb⟩
  ·have hi1 : ((i : Int) < (l.length : Int)) = False := eq_false (by omega)
   have hi2 : decide ((i : Int) < (l.length : Int)) = false := decide_eq_false (by omega)
   have ha := HA.out
   rw [List.drop_eq_nil_of_le (by omega)] at ha
   have HA2 : Aside0 (false = l.any p) := ⟨ha⟩
   clear ha HA
   go_wp2
   go_ret
   exact ⟨_, rfl, by rw [← HA2.out]; rfl, HB.out⟩
theorem contains_fit (A : Option Addr) (c : Nat) (l : List Int) (p : Int → Bool) (xB0 xB1 : Nat) (w : World) (hx : Kd.C (Kd.int .i64) w A l.length l) (hl : l.length ≤ 1000)
  (hp : ∀ W, Below w.heap.size w W → ∀ x ∈ l, Calls Tryd.prog 119 #[.int .i64 x, .pointer (some ⟨xB0, 0, none⟩), .pointer (some ⟨xB1, 0, none⟩)] W fun e w' => e = .returned (.bool (p x)) ∧ Below W.heap.size W w') :
  Calls Tryd.prog 68 #[.slice A l.length c, .func (.func 119) #[] #[.pointer (some ⟨xB0, 0, none⟩), .pointer (some ⟨xB1, 0, none⟩)]] w fun e w' => e = .returned (.bool (l.any p)) ∧ Below w.heap.size w w' := by
 have HI := Aside0.mk (index_fit A c l p xB0 xB1 w hx hl hp)
 clear hx hl hp
 go_enter Tryd.func68, Tryd.ntmps68
 go_wp2_with (go_at_call 93; refine HI.out.mono ?_; rintro e w3 ⟨z, rfl, hz, hb⟩)
 go_ret
 exact ⟨by rw [← hz]; rfl, hb⟩
def fitP (M : List Nat) (ar : Nat) (x : Int) : Bool := Go.bits .and .i64 (rd (gi M) x) (ar : Int) == 0
theorem fitP_all (G P M : List Nat) (s : Nat) (hM : ∀ x ∈ M, x < 512) (ha : Around G s < 512) : (!(gi (els (P.getD M.length 0 &&& (2 ^ M.length - 1)) 9)).any (fitP M (Around G s))) = fitB G P M s M.length := by
 unfold fitB gi
 rw [List.any_map, List.not_any_eq_all_not]
 congr 1
 funext j
 show (!(Go.bits .and .i64 (rd (gi M) (j : Int)) (Around G s : Int) == 0)) = _
 have hj : M.getD j 0 < 512 := by
  rw [List.getD_eq_getElem?_getD]
  by_cases h : j < M.length
  ·rw [List.getElem?_eq_getElem h]; exact hM _ (List.getElem_mem h)
  ·rw [List.getElem?_eq_none (by omega)]; show 0 < 512; omega
 rw [rd_gi, b_and _ _ (by omega) (by omega)]
 by_cases h : M.getD j 0 &&& Around G s = 0
 ·rw [h]; rfl
 ·have : ¬ ((M.getD j 0 &&& Around G s : Nat) : Int) = 0 := by omega
  rw [beq_eq_false_iff_ne.2 this, decide_eq_true h]
  rfl
theorem pow9 (k : Nat) (hk : k ≤ 9) : 2 ^ k - 1 < 2 ^ 62 ∧ 2 ^ k - 1 < 512 := by
 have h : 2 ^ k ≤ 2 ^ 9 := Nat.pow_le_pow_right (by omega) hk
 have h9 : (2 : Nat) ^ 9 = 512 := rfl
 have h0 := Nat.two_pow_pos k
 rw [h9] at h
 generalize 2 ^ k = T at *
 exact ⟨by omega, by omega⟩
set_option maxHeartbeats 4000000 in
set_option maxRecDepth 100000 in
theorem fits_calls (sB : Nat) (Ag : Option Addr) (cg : Nat) (G : List Nat) (hG : Gr 9 G) (hcg : G.length ≤ cg) (Ap : Option Addr) (cp : Nat) (P : List Nat) (Am : Option Addr) (cm : Nat) (M : List Nat) (s : Nat) (hs : s < 2 ^ G.length) (hk : M.length < P.length) (hPl : P.length ≤ 9) (hP : ∀ x ∈ P, x < 512) (hM : ∀ x ∈ M, x < 2 ^ G.length) (w : World) (hGL : GL w)
  (h0 : w.cell? ⟨sB, 0, none⟩ = some (.slice Ag G.length cg)) (h1 : w.cell? ⟨sB, 1, none⟩ = some (.slice Ap P.length cp)) (h3 : w.cell? ⟨sB, 3, none⟩ = some (.slice Am M.length cm))
  (hrg : Kd.C (Kd.int .i64) w Ag (gi G).length (gi G)) (hrp : Kd.C (Kd.int .i64) w Ap (gi P).length (gi P)) (hrm : Kd.C (Kd.int .i64) w Am (gi M).length (gi M)) :
  Calls Tryd.prog 110 #[.pointer (some ⟨sB, 0, none⟩), .int .i64 (s : Int), .int .i64 (M.length : Int)] w fun e w' => e = .returned (.bool (fitB G P M s M.length)) ∧ Below w.heap.size w w' := by
 have HRM := Aside0.mk hrm
 have HRP := Aside0.mk hrp
 have HRG := Aside0.mk hrg
 have HGL := Aside0.mk hGL
 have HH0 := Aside0.mk h0
 have HH1 := Aside0.mk h1
 have HH3 := Aside0.mk h3
 clear hrm hrp hrg hGL h0 h1 h3
 have hAs := small G hG.most (Around_lt hG s)
 have HCAR : Aside0 (∀ W, Below w.heap.size w W → Calls Tryd.prog 71 #[.slice Ag G.length cg, .int .i64 (s : Int)] W fun e w' => e = .returned (.int .i64 ((Around G s : Nat) : Int)) ∧ Below W.heap.size W w') := ⟨fun W hW => by
  obtain ⟨K, hK⟩ := around_ev G hG s hs
  have h := minor_town_around.calls K Ag cg (gi G) (s : Int) _ W (GL_below HGL.out hW) (Kd.C_below HRG.out hW) (by rw [gi_length]; exact hcg) (hK K (Nat.le_refl _))
  rw [gi_length] at h
  exact h⟩
 generalize HAD : Around G s = ar at *
 go_enter Tryd.func110, Tryd.ntmps110
 go_wp2_with (first
  | ((with_reducible refine gate_dst (N := 3) rfl ?_); refine box_event ?hg (N := 3) ?hd (cs := #[.pointer (some ⟨sB, 0, none⟩)]) (t := 113) ?hr ?_; (case hd => rfl); (case hg => rfl); (case hr => first | (go_simp; done) | (go_simp; rfl)); intro pB hga w7 hbox hb7; have HPB := Aside0.mk (show w.heap.size ≤ pB by rw [hga]; exact Nat.le_refl _); clear hga; have HBOX := Aside0.mk hbox; have HB7 := Aside0.mk hb7; have hz0 : w7.cell? ⟨pB, 0, none⟩ = some (.pointer (some ⟨sB, 0, none⟩)) := (blk_cell hbox 0).trans rfl; have hz1 : w7.cell? ⟨sB, 0, none⟩ = some (.slice Ag G.length cg) := (hb7.cell (World.block_lt_of_cell? w _ HH0.out)).trans HH0.out; clear hbox hb7)
  | (go_at_call 71; refine (HCAR.out _ HB7.out).mono ?_; rintro e w8 ⟨rfl, hb8⟩; have HB8 := Aside0.mk (below_step HB7.out hb8); have HB78 := Aside0.mk hb8; clear hb8))
 obtain ⟨w9, hw9⟩ : ∃ w9 : World, w9 = w8.alloc (Obj.cells #[.int .i64 (ar : Int)] 3) := ⟨_, rfl⟩
 have ha9 : w9.cell? ⟨w8.heap.size, 0, none⟩ = some (.int .i64 (ar : Int)) := by rw [hw9]; exact (blk_cell (show (w8.heap.push _)[w8.heap.size]? = _ from Array.getElem?_push_size) 0).trans rfl
 rw [← hw9]
 have HB89 : Aside0 (Below w8.heap.size w8 w9) := ⟨by rw [hw9]; exact below_alloc (Below.refl _ _) _⟩
 clear hw9
 have HB9 := Aside0.mk (below_step HB8.out HB89.out)
 have HB79 := Aside0.mk (below_step HB78.out HB89.out)
 have f0 : w9.cell? ⟨pB, 0, none⟩ = some (.pointer (some ⟨sB, 0, none⟩)) := (HB79.out.cell (World.block_lt_of_cell? w7 _ hz0)).trans hz0
 have f1 : w9.cell? ⟨sB, 1, none⟩ = some (.slice Ap P.length cp) := (HB9.out.cell (World.block_lt_of_cell? w _ HH1.out)).trans HH1.out
 obtain ⟨ad, e1, f2⟩ := Kd.at_int (Kd.C_below HRP.out HB9.out) (M.length : Int) (by omega) (by rw [gi_length]; omega)
 subst e1
 rw [rd_gi, Int.toNat_natCast] at f2
 have hlt9 : P.getD M.length 0 < 2 ^ 62 := by have := hP (P.getD M.length 0) (by rw [List.getD_eq_getElem?_getD, List.getElem?_eq_getElem hk]; exact List.getElem_mem hk); omega
 obtain ⟨N, ⟨hS1, hS2, hS3⟩, hNv⟩ := shJ M.length (by omega)
 have hpw : 2 ^ M.length ≤ 2 ^ 9 := Nat.pow_le_pow_right (by omega) (by omega)
 obtain ⟨N1, hN1⟩ : ∃ N1 : Int, wrap64 (N - 1) = N1 := ⟨_, rfl⟩
 have hN1v : N1 = ((2 ^ M.length - 1 : Nat) : Int) := by
  have hp0 := Nat.two_pow_pos M.length
  clear hS1 hS2 hS3
  generalize 2 ^ M.length = T at *
  rw [← hN1, hNv, w64_small _ (by omega) (by omega)]
  omega
 obtain ⟨q, hq⟩ : ∃ q : Nat, q = P.getD M.length 0 &&& (2 ^ M.length - 1) := ⟨_, rfl⟩
 have hq2 : Go.bits .and .i64 ((P.getD M.length 0 : Nat) : Int) N1 = (q : Int) := by
  rw [hN1v, b_and _ _ hlt9 (pow9 _ (by omega)).1, hq]
 have hq512 : q < 512 := by rw [hq]; exact Nat.lt_of_le_of_lt Nat.and_le_right (pow9 _ (by omega)).2
 have HQ := Aside0.mk hq
 have hin : ∀ j, j ∈ els q 9 → j < M.length := fun j hj => by
  have := (mem_els.1 hj).2
  rw [HQ.out, Nat.testBit_and, Bool.and_eq_true] at this
  exact (all_bit _ _).1 this.2
 have CND : Aside0 (∀ W, (W.cell? ⟨pB, 0, none⟩ = some (.pointer (some ⟨sB, 0, none⟩)) ∧ W.cell? ⟨sB, 1, none⟩ = some (.slice (some ad) P.length cp) ∧ W.cell? (ad.add M.length) = some (.int .i64 ((P.getD M.length 0 : Nat) : Int)) ∧ Below w9.heap.size w9 W) → Calls Tryd.prog 69 #[.int .i64 (q : Int)] W fun e w' => ∃ A c, e = .returned (.slice A (gi (els q 9)).length c) ∧ Kd.C (Kd.int .i64) w' A (gi (els q 9)).length (gi (els q 9)) ∧ (w'.cell? ⟨pB, 0, none⟩ = some (.pointer (some ⟨sB, 0, none⟩)) ∧ w'.cell? ⟨sB, 1, none⟩ = some (.slice (some ad) P.length cp) ∧ w'.cell? (ad.add M.length) = some (.int .i64 ((P.getD M.length 0 : Nat) : Int)) ∧ Below w9.heap.size w9 w')) := ⟨by
  rintro W ⟨s0, s1, s2, s3⟩
  obtain ⟨K, hK⟩ := nodes_ev q hq512
  refine (minor_nodes.calls K (q : Int) _ W (GL_below HGL.out (below_step HB9.out s3)) (hK K (Nat.le_refl _))).mono ?_
  rintro e w' ⟨u, rfl, hu, hb⟩
  obtain ⟨A, c, eu, hc, hC⟩ := Kd.R_reads hu
  subst eu
  exact ⟨A, c, rfl, hC, (hb.cell (World.block_lt_of_cell? W _ s0)).trans s0, (hb.cell (World.block_lt_of_cell? W _ s1)).trans s1, (hb.cell (World.block_lt_of_cell? W _ s2)).trans s2, below_step s3 hb⟩⟩
 have CCF : Aside0 (∀ W A c, (W.cell? ⟨pB, 0, none⟩ = some (.pointer (some ⟨sB, 0, none⟩)) ∧ W.cell? ⟨sB, 1, none⟩ = some (.slice (some ad) P.length cp) ∧ W.cell? (ad.add M.length) = some (.int .i64 ((P.getD M.length 0 : Nat) : Int)) ∧ Below w9.heap.size w9 W) → Kd.C (Kd.int .i64) W A (gi (els q 9)).length (gi (els q 9)) → Calls Tryd.prog 68 #[.slice A (gi (els q 9)).length c, .func (.func 119) #[] #[.pointer (some ⟨pB, 0, none⟩), .pointer (some ⟨w8.heap.size, 0, none⟩)]] W fun e w' => e = .returned (.bool ((gi (els q 9)).any (fitP M ar))) ∧ (w'.cell? ⟨pB, 0, none⟩ = some (.pointer (some ⟨sB, 0, none⟩)) ∧ w'.cell? ⟨sB, 1, none⟩ = some (.slice (some ad) P.length cp) ∧ w'.cell? (ad.add M.length) = some (.int .i64 ((P.getD M.length 0 : Nat) : Int)) ∧ Below w9.heap.size w9 w')) := ⟨by
  rintro W A c ⟨s0, s1, s2, s3⟩ hC
  refine (contains_fit A c _ (fitP M ar) pB w8.heap.size W hC (by rw [gi_length, els_length]; have := pc_le q 9; omega) ?_).mono ?_
  ·intro V hV x hx
   obtain ⟨j, hj, rfl⟩ := List.mem_map.1 hx
   have hjl := hin j hj
   have hB := below_step HB9.out (below_step s3 hV)
   have h3 := (hB.cell (World.block_lt_of_cell? w _ HH3.out)).trans HH3.out
   have hr := Kd.C_below HRM.out hB
   rw [gi_length] at hr
   have := fit1 pB w8.heap.size sB Am cm (gi M) (j : Int) (ar : Int) (by omega) (by rw [gi_length]; omega) V (by rw [gi_length]; exact hr) ((hV.cell (World.block_lt_of_cell? W _ s0)).trans s0) (((below_step s3 hV).cell (World.block_lt_of_cell? w9 _ ha9)).trans ha9) (by rw [gi_length]; exact h3)
   exact this
  ·rintro e w' ⟨rfl, hb⟩
   exact ⟨rfl, (hb.cell (World.block_lt_of_cell? W _ s0)).trans s0, (hb.cell (World.block_lt_of_cell? W _ s1)).trans s1, (hb.cell (World.block_lt_of_cell? W _ s2)).trans s2, below_step s3 hb⟩⟩
 have HFIN : Aside0 ((!(gi (els q 9)).any (fitP M ar)) = fitB G P M s M.length) := ⟨by
  rw [HQ.out, ← HAD]
  exact fitP_all G P M s (fun x hx => small G hG.most (hM x hx)) (by rw [HAD]; exact hAs)⟩
 have hk0 : (0 ≤ (M.length : Int)) = True := eq_true (by omega)
 have hk1 : ((M.length : Int) < (P.length : Int)) = True := eq_true (by omega)
 have hk2 : decide ((M.length : Int) < (P.length : Int)) = true := decide_eq_true (by omega)
 have hk3 : decide (0 ≤ (M.length : Int)) = true := decide_eq_true (by omega)
 have f0d : w9.drew.cell? ⟨pB, 0, none⟩ = some (.pointer (some ⟨sB, 0, none⟩)) := f0
 have f1d : w9.drew.cell? ⟨sB, 1, none⟩ = some (.slice (some ad) P.length cp) := f1
 have f2d : w9.drew.cell? (ad.add M.length) = some (.int .i64 ((P.getD M.length 0 : Nat) : Int)) := f2
 have fBd : Below w9.heap.size w9 w9.drew := below_drew (Below.refl _ _)
 clear hin hq hNv hpw hN1v hlt9 hq512 HQ hAs hM hG
 generalize (gi (els q 9)) = l at *
 generalize P.getD M.length 0 = pv at *
 refine start_ (n := 16) (S := fun w' => w'.cell? ⟨pB, 0, none⟩ = some (.pointer (some ⟨sB, 0, none⟩)) ∧ w'.cell? ⟨sB, 1, none⟩ = some (.slice (some ad) P.length cp) ∧ w'.cell? (ad.add M.length) = some (.int .i64 (pv : Int)) ∧ Below w9.heap.size w9 w') (ds := []) (Qbz 16 0) (by kernel_rfl) rfl rfl ⟨f0d, f1d, f2d, fBd⟩ (fun hHeld => ?_)
 refine Qpu 4 18 ?_ ?_ (Qbz 16 16) (by kernel_rfl) ?_
 refine Qpu 7 21 ?_ ?_ (Qbz 16 144) (by kernel_rfl) ?_
 refine Qpu 8 22 ?_ ?_ (Qbz 16 400) (by kernel_rfl) ?_
 refine Qpu 9 23 ?_ ?_ (Qbz 16 912) (by kernel_rfl) ?_
 refine Qpu 12 26 ?_ ?_ (Qbz 16 5008) (by kernel_rfl) ?_
 refine take_ (i := 0) (N := some 14) (v := ?_) (a' := ?_) (Qbz 16 5009) rfl rfl (by kernel_rfl) (fun _ _ _ h => h) (Or.inl ⟨by rfl, ?_⟩) hHeld ?_ ?_;rotate_left;(·rintro w' ⟨s0, s1, s2, s3⟩;go_simp;with_reducible rfl);rotate_left;(·simp only [Act.put, Qp1, Qp2, Qp3, i64_w, i32_w];rfl)
 refine Qpu 1 15 ?_ ?_ (Qbz 16 5011) (by kernel_rfl) ?_
 refine Qpu 2 16 ?_ ?_ (Qbz 16 5015) (by kernel_rfl) ?_
 refine take_ (i := 3) (N := some 17) (v := ?_) (a' := ?_) (Qbz 16 5023) rfl rfl (by kernel_rfl) (fun _ _ _ h => h) (Or.inl ⟨by rfl, ?_⟩) hHeld ?_ ?_;rotate_left;(·rintro w' ⟨s0, s1, s2, s3⟩;go_simp;with_reducible rfl);rotate_left;(·simp only [Act.put, Qp1, Qp2, Qp3, i64_w, i32_w];rfl)
 refine Qpu 5 19 ?_ ?_ (Qbz 16 5055) (by kernel_rfl) ?_
 refine take_ (i := 6) (N := some 20) (v := ?_) (a' := ?_) (Qbz 16 5119) rfl rfl (by kernel_rfl) (fun _ _ _ h => h) (Or.inl ⟨by rfl, ?_⟩) hHeld ?_ ?_;rotate_left;(·rintro w' ⟨s0, s1, s2, s3⟩;go_simp;with_reducible rfl);rotate_left;(·simp only [Act.put, Qp1, Qp2, Qp3, i64_w, i32_w];rfl)
 refine Qpu 10 24 ?_ ?_ (Qbz 16 6143) (by kernel_rfl) ?_
 refine one_ (i := 11) (N := some 25) (Qbz 16 8191) rfl rfl (by kernel_rfl) (by decide) (fun K hK => ?_)
 refine goes_ Tryd.func69 (by kernel_rfl) rfl #[.int .i64 (q : Int)] (by rfl) rfl rfl (by simp only [List.map_toArray, List.map_cons, List.map_nil]; rfl) ?_
 with_reducible refine (CND.out _ hHeld).mono ?_
 rintro e w10 ⟨A5, c5, rfl, hC5, g0, g1, g2, gB⟩
 refine ⟨_, rfl, ?_⟩
 refine hK.out _ _ ⟨g0, g1, g2, gB⟩ (fun hHeld => ?_)
 clear hK K
 refine norm_ (a' := ?_) ?_ ?_
 rotate_left
 ·show Act.put _ (some 25) _ = _
  simp only [Act.put, Qp1, Qp2, Qp3, i64_w, i32_w]
  rfl
 refine one_ (i := 13) (N := some 27) (Qbz 16 16383) rfl rfl (by kernel_rfl) (by decide) (fun K hK => ?_)
 refine goes_ Tryd.func68 (by kernel_rfl) rfl #[.slice A5 l.length c5, .func (.func 119) #[] #[.pointer (some ⟨pB, 0, none⟩), .pointer (some ⟨w8.heap.size, 0, none⟩)]] (by rfl) rfl rfl (by simp only [List.map_toArray, List.map_cons, List.map_nil]; rfl) ?_
 with_reducible refine (CCF.out _ _ _ hHeld hC5).mono ?_
 rintro e w11 ⟨rfl, k0, k1, k2, kB⟩
 refine ⟨_, rfl, ?_⟩
 refine hK.out _ _ ⟨k0, k1, k2, kB⟩ (fun hHeld => ?_)
 clear hK K
 refine norm_ (a' := ?_) ?_ ?_
 rotate_left
 ·show Act.put _ (some 27) _ = _
  simp only [Act.put, Qp1, Qp2, Qp3, i64_w, i32_w]
  rfl
 refine Qpu 14 28 ?_ ?_ (Qbz 16 32767) (by kernel_rfl) ?_
 refine Qpu 15 6 ?_ ?_ (Qbz 16 65535) (by kernel_rfl) ?_
 refine done_ (by kernel_rfl) ?_
 go_wp2
 go_ret
 exact ⟨by rw [← HFIN.out]; rfl, below_step HB9.out hHeld.2.2.2⟩
structure SI (W0 W : World) (sB : Nat) (vT vP vS : Value) (M : List Nat) (v : Value) : Prop where
 blk : W.heap[sB]? = some (.cells #[vT, vP, vS, v] 115 (0, 0))
 own : W.ownsRow W0.heap.size 3 1 v M.length ((gi M).map (Value.int .i64))
 grown : W0.grownBy W (some sB)
theorem SI.low {W0 W V : World} {sB : Nat} {vT vP vS : Value} {M : List Nat} {v : Value} (h : SI W0 W sB vT vP vS M v) (hb : Below W.heap.size W V) : SI W0 V sB vT vP vS M v :=
 ⟨blk_below h.blk hb, own_kept h.own (grown_of_below hb none) (fun _ _ e => by cases e), grown_new h.grown (grown_of_below hb none) (fun _ e => by cases e)⟩
theorem SI.cell {W0 W : World} {sB : Nat} {vT vP vS : Value} {M : List Nat} {v : Value} (h : SI W0 W sB vT vP vS M v) (j : Nat) : W.cell? ⟨sB, j, none⟩ = #[vT, vP, vS, v][j]? := blk_cell h.blk j
theorem SI.push {W0 W w8 : World} {sB x : Nat} {vT vP vS : Value} {M : List Nat} {v : Value} {o : Obj} {g c : Nat} (h : SI W0 W sB vT vP vS M v) (hsB : sB < W0.heap.size) (hg : (W.alloc o).grownBy w8 v.ownBlock)
  (ho : w8.ownsRow W0.heap.size 3 1 (.slice (some ⟨g, 0, none⟩) (M.length + 1) c) (M.length + 1) ((gi M).map (Value.int .i64) ++ [.int .i64 (x : Int)])) :
  SI W0 (w8.setCell ⟨sB, 3, none⟩ (.slice (some ⟨g, 0, none⟩) (M.length + 1) c)) sB vT vP vS (M ++ [x]) (.slice (some ⟨g, 0, none⟩) (M.length + 1) c) := by
 have h1 := h.grown.size
 have hne : some sB ≠ v.ownBlock := fun e => by have := own_base2 h.own sB e.symm; omega
 have hb8 := blk_grown (blk_alloc h.blk o) hg hne
 refine ⟨?_, ?_, ?_⟩
 ·have := blk_set hb8 3 (.slice (some ⟨g, 0, none⟩) (M.length + 1) c)
  rw [this]
  rfl
 ·have e : (M ++ [x]).length = M.length + 1 := by simp
  rw [e, show (gi (M ++ [x])).map (Value.int .i64) = (gi M).map (Value.int .i64) ++ [.int .i64 (x : Int)] by simp [gi]]
  exact own_kept ho (grownBy_set w8 ⟨sB, 3, none⟩ _) (fun b hb e => by
   have := own_base2 ho b hb
   have e2 : b = sB := Option.some.inj e
   omega)
 ·refine grown_new (grown_new (grown_new h.grown (World.grownBy_alloc W o none) (fun _ e => by cases e)) hg (fun j e => .inl (own_base2 h.own j e))) (grownBy_set w8 ⟨sB, 3, none⟩ _) (fun j e => .inr e.symm)
theorem SI.pop {W0 W : World} {sB x : Nat} {vT vP vS : Value} {M : List Nat} {g n c : Nat} (h : SI W0 W sB vT vP vS (M ++ [x]) (.slice (some ⟨g, 0, none⟩) n c)) (hsB : sB < W0.heap.size) (hn : n = M.length + 1) :
  SI W0 (W.setCell ⟨sB, 3, none⟩ (.slice (some ⟨g, 0, none⟩) M.length c)) sB vT vP vS M (.slice (some ⟨g, 0, none⟩) M.length c) := by
 subst hn
 refine ⟨?_, ?_, ?_⟩
 ·have := blk_set h.blk 3 (.slice (some ⟨g, 0, none⟩) M.length c)
  rw [this]
  rfl
 ·have h2 := h.own
  rw [show (M ++ [x]).length = M.length + 1 by simp, show (gi (M ++ [x])).map (Value.int .i64) = (gi M).map (Value.int .i64) ++ [.int .i64 (x : Int)] by simp [gi]] at h2
  have h3 := ownsRow_pop (xs := (gi M).map (Value.int .i64)) (by simp [gi]) h2
  exact own_kept h3 (grownBy_set W ⟨sB, 3, none⟩ _) (fun b hb e => by
   have := own_base2 h3 b hb
   have e2 : b = sB := Option.some.inj e
   omega)
 ·exact grown_new h.grown (grownBy_set W ⟨sB, 3, none⟩ _) (fun j e => .inr e.symm)
theorem SI.cap {W0 W : World} {sB x : Nat} {vT vP vS : Value} {M : List Nat} {v : Value} (h : SI W0 W sB vT vP vS (M ++ [x]) v) : ∃ g c, v = .slice (some ⟨g, 0, none⟩) (M.length + 1) c ∧ M.length + 1 ≤ c := by
 have h2 := h.own
 rw [show (M ++ [x]).length = M.length + 1 by simp] at h2
 rcases h2.2 with ⟨_, h0⟩ | ⟨g, cap, cur, e, _, _, hc, _⟩
 ·omega
 ·exact ⟨g, cap, e, hc⟩
set_option maxHeartbeats 16000000 in
set_option maxRecDepth 100000 in
theorem grow_z (sB : Nat) (W0 : World) (hsB : sB < W0.heap.size) (Ag : Option Addr) (cg : Nat) (G : List Nat) (hG : Gr 9 G) (hcg : G.length ≤ cg) (Ap : Option Addr) (cp : Nat) (P : List Nat) (hPl : P.length ≤ 9) (hP : ∀ x ∈ P, x < 512) (As : Option Addr) (cs : Nat) (sets : List Nat) (hSl : sets.length ≤ 512) (hS : ∀ x ∈ sets, x < 2 ^ G.length)
  (hlow : ∀ W, W0.grownBy W (some sB) → GL W ∧ Kd.C (Kd.int .i64) W Ag (gi G).length (gi G) ∧ Kd.C (Kd.int .i64) W Ap (gi P).length (gi P) ∧ Kd.C (Kd.int .i64) W As (gi sets).length (gi sets))
  (d : Nat) (hd0 : d = 0) (ih : ∀ (M : List Nat) (used left : Nat) (v : Value) (w : World), M.length + d = P.length → (∀ x ∈ M, x < 2 ^ G.length) → used < 512 → left ≤ 9 → SI W0 w sB (.slice Ag G.length cg) (.slice Ap P.length cp) (.slice As sets.length cs) M v →
  Calls Tryd.prog 92 #[.pointer (some ⟨sB, 0, none⟩), .int .i64 (used : Int), .int .i64 (left : Int)] w fun e w' => e = .returned (.bool (growN G P sets d M used left).isSome) ∧ ∃ v', SI W0 w' sB (.slice Ag G.length cg) (.slice Ap P.length cp) (.slice As sets.length cs) ((growN G P sets d M used left).getD M) v') :
  ∀ (M : List Nat) (used left : Nat) (v : Value) (w : World), M.length + (d + 1) = P.length → (∀ x ∈ M, x < 2 ^ G.length) → used < 512 → left ≤ 9 → SI W0 w sB (.slice Ag G.length cg) (.slice Ap P.length cp) (.slice As sets.length cs) M v →
  Calls Tryd.prog 92 #[.pointer (some ⟨sB, 0, none⟩), .int .i64 (used : Int), .int .i64 (left : Int)] w fun e w' => e = .returned (.bool (growN G P sets (d + 1) M used left).isSome) ∧ ∃ v', SI W0 w' sB (.slice Ag G.length cg) (.slice Ap P.length cp) (.slice As sets.length cs) ((growN G P sets (d + 1) M used left).getD M) v' := by
 intro M used left v w hd hM hu hl hI
 have IH := Aside0.mk ih
 have HI := Aside0.mk hI
 have HLOW := Aside0.mk hlow
 have HM := Aside0.mk hM
 have HS := Aside0.mk hS
 have HG := Aside0.mk hG
 have HP := Aside0.mk hP
 obtain ⟨A3, c3, rfl⟩ := ownsRow_form2 hI.own
 have hz1 : w.cell? ⟨sB, 1, none⟩ = some (.slice Ap P.length cp) := (hI.cell 1).trans rfl
 have hz2 : w.cell? ⟨sB, 2, none⟩ = some (.slice As sets.length cs) := (hI.cell 2).trans rfl
 have hz3 : w.cell? ⟨sB, 3, none⟩ = some (.slice A3 M.length c3) := (hI.cell 3).trans rfl
 have hk1 : ((M.length : Int) == (P.length : Int)) = false := beq_eq_false_iff_ne.2 (by omega)
 obtain ⟨R, hR⟩ : ∃ R, growN G P sets (d + 1) M used left = R := ⟨_, rfl⟩
 obtain ⟨F, hF⟩ : ∃ F : Nat → Option (List Nat), F = fun s => if okB G P M used left d s then growN G P sets d (M ++ [s]) (used ||| s) (left - pc s 9) else none := ⟨_, rfl⟩
 have hRF : (sets.drop 0).findSome? F = R := by rw [← hR, hF]; rfl
 have HFE : Aside0 (∀ s, F s = if okB G P M used left d s then growN G P sets d (M ++ [s]) (used ||| s) (left - pc s 9) else none) := ⟨fun s => by rw [hF]⟩
 have HRF := Aside0.mk hRF
 rw [hR]
 clear hI hlow hM hS hP hG hF hRF hR ih
 go_enter Tryd.func92, Tryd.ntmps92
 go_wp2
 rw [show (P.length : Int) - (M.length : Int) - 1 = 0 by omega]
 go_loopg [36] sets.length (fun kq v36 w' => ∃ (i : Nat) (v1 : Value), v36 = .int .i64 (i : Int) ∧ i + kq = sets.length ∧ Aside0 ((sets.drop i).findSome? F = R) ∧ Aside0 (SI W0 w' sB (.slice Ag G.length cg) (.slice Ap P.length cp) (.slice As sets.length cs) M v1))
 case atStart => exact ⟨0, _, rfl, by omega, HRF, HI⟩
 case round =>
  clear HRF
  obtain ⟨i, v1, rfl, hi, HA, HX⟩ := hrel
  by_cases hil : i < sets.length
  ·have hi1 : ((i : Int) < (sets.length : Int)) = True := eq_true (by omega)
   have hi2 : decide ((i : Int) < (sets.length : Int)) = true := decide_eq_true (by omega)
   cases gk with
   | zero => omega
   | succ gi' =>
   obtain ⟨ad, e1, hgx⟩ := Kd.at_int (HLOW.out wr HX.out.grown).2.2.2 (i : Int) (by omega) (by rw [gi_length]; omega)
   subst e1
   rw [rd_gi, Int.toNat_natCast] at hgx
   have ha := HA.out
   rw [List.drop_eq_getElem_cons hil, List.findSome?_cons] at ha
   have hxm : sets[i] ∈ sets := List.getElem_mem hil
   have hxe : sets.getD i 0 = sets[i] := by rw [List.getD_eq_getElem?_getD, List.getElem?_eq_getElem hil]; rfl
   rw [hxe] at hgx
   have hxl := HS.out _ hxm
   generalize sets[i] = x at *
   have hx5 := small G HG.out.most hxl
   rw [HFE.out x] at ha
   have hgxd : ∀ m, (wr.drewN m).cell? (ad.add i) = some (.int .i64 (x : Int)) := fun m => hgx
   obtain ⟨A4, c4, e4⟩ := ownsRow_form2 HX.out.own
   subst e4
   have hy1 : wr.cell? ⟨sB, 1, none⟩ = some (.slice Ap P.length cp) := (HX.out.cell 1).trans rfl
   have hy3 : wr.cell? ⟨sB, 3, none⟩ = some (.slice A4 M.length c4) := (HX.out.cell 3).trans rfl
   have HCN := Aside0.mk (count_eq x hx5)
   have han : Go.bits .and .i64 (x : Int) (used : Int) = ((x &&& used : Nat) : Int) := b_and _ _ (by omega) (by omega)
   have hor : Go.bits .or .i64 (x : Int) (used : Int) = ((x ||| used : Nat) : Int) := b_or _ _ (by omega) (by omega)
   have hor2 : Go.bits .or .i64 (used : Int) (x : Int) = ((used ||| x : Nat) : Int) := b_or _ _ (by omega) (by omega)
   have horl : used ||| x < 512 := Nat.or_lt_two_pow (n := 9) (by omega) (by omega)
   have HFIT : Aside0 (∀ W, Below wr.heap.size wr W → Calls Tryd.prog 110 #[.pointer (some ⟨sB, 0, none⟩), .int .i64 (x : Int), .int .i64 (M.length : Int)] W fun e w' => e = .returned (.bool (fitB G P M x M.length)) ∧ Below W.heap.size W w') := ⟨fun W hW => by
    have hX := HX.out.low hW
    obtain ⟨q1, q2, q3, q4⟩ := HLOW.out W hX.grown
    have hro := hX.own
    have hlen : M.length = (gi M).length := (gi_length M).symm
    rw [hlen] at hro
    have hC := (C_of_row hro).2
    rw [gi_length] at hC
    exact fits_calls sB Ag cg G HG.out hcg Ap cp P A4 c4 M x hxl (by omega) hPl HP.out HM.out W q1 ((hX.cell 0).trans rfl) ((hX.cell 1).trans rfl) ((hX.cell 3).trans rfl) q2 q3 (by rw [gi_length]; exact hC)⟩
   have HOK : Aside0 (okB G P M used left d x = (decide (x &&& used = 0) && decide (pc x 9 + d ≤ left) && !(decide (d = 0) && decide (pc x 9 ≠ left)) && fitB G P M x M.length)) := ⟨rfl⟩
   have hpc := pc_le x 9
   have HXL := Aside0.mk hxl
   have HAH := Aside0.mk ha
   clear ha hxm hxe hxl HA
   by_cases ha0 : x &&& used = 0
   ·have ht1 : ((((x &&& used : Nat) : Int)) != 0) = false := by rw [ha0]; rfl
    by_cases hp1 : pc x 9 + d ≤ left
    ·have ht2 : decide ((left : Int) - (d : Int) < (pc x 9 : Int)) = false := decide_eq_false (by omega)
     by_cases hd3 : d = 0 ∧ pc x 9 ≠ left
     ·have ht3 : (((d : Nat) : Int) == 0) = true := beq_iff_eq.2 (by omega)
      have HA2 : Aside0 ((sets.drop (i + 1)).findSome? F = R) := ⟨by
       have := HAH.out
       rw [HOK.out, decide_eq_true hd3.1, decide_eq_true hd3.2] at this
       simpa using this⟩
      obtain ⟨hd31, hd32⟩ := hd3
      clear ha0
      go_wp2_with (go_at_call 109; refine (minor_count.calls _ _ _ HCN.out).mono ?_; rintro e w3 ⟨rfl, m, rfl⟩)
      go_roundg gi'
      case measure => omega
      case rel => exact ⟨i + 1, _, by go_num, by omega, HA2, ⟨HX.out.low (by repeat (first | exact Below.refl _ _ | refine pw_below_drewN ?_ _))⟩⟩
     ·have hd4 : d = 0 → pc x 9 = left := fun h => Classical.byContradiction fun h2 => hd3 ⟨h, h2⟩
      clear hd3
      cases hfb : fitB G P M x M.length
      ·rw [hfb] at HFIT
       have HA2 : Aside0 ((sets.drop (i + 1)).findSome? F = R) := ⟨by
        have := HAH.out
        rw [HOK.out, hfb] at this
        simpa using this⟩
       clear ha0 hfb HFE HOK HAH IH HLOW HM HS HG HP
       go_wp2_with (first
        | (go_at_call 109; refine (minor_count.calls _ _ _ HCN.out).mono ?_; rintro e w3 ⟨rfl, m, rfl⟩)
        | (go_at_call 110; refine (HFIT.out _ (pw_below_drewN (Below.refl _ _) _)).mono ?_; rintro e w3 ⟨rfl, hb⟩; have HB3 : Aside0 (Below wr.heap.size wr w3) := ⟨below_step (pw_below_drewN (Below.refl _ _) _) hb⟩; have HX3 := Aside0.mk (HX.out.low HB3.out); clear hb; have hc3 : w3.cell? ⟨sB, 3, none⟩ = some (.slice A4 M.length c4) := (HX3.out.cell 3).trans rfl))
       go_roundg gi'
       case measure => omega
       case rel => exact ⟨i + 1, _, by go_num, by omega, HA2, HX3⟩
      ·rw [hfb] at HFIT
       have hok : okB G P M used left d x = true := by
        rw [HOK.out, hfb, decide_eq_true ha0, decide_eq_true hp1]
        by_cases h0 : d = 0
        ·rw [hd4 h0]; simp
        ·simp [h0]
       have hFx : F x = growN G P sets d (M ++ [x]) (used ||| x) (left - pc x 9) := by rw [HFE.out x, if_pos hok]
       have ha2 := HAH.out
       rw [← HFE.out x] at ha2
       have HREC : Aside0 (∀ W v (a : Int), a = (left : Int) - (pc x 9 : Int) → SI W0 W sB (.slice Ag G.length cg) (.slice Ap P.length cp) (.slice (some ad) sets.length cs) (M ++ [x]) v → Calls Tryd.prog 92 #[.pointer (some ⟨sB, 0, none⟩), .int .i64 ((used ||| x : Nat) : Int), .int .i64 a] W fun e w' => e = .returned (.bool (F x).isSome) ∧ ∃ v', SI W0 w' sB (.slice Ag G.length cg) (.slice Ap P.length cp) (.slice (some ad) sets.length cs) ((F x).getD (M ++ [x])) v') := ⟨fun W v a ea hV => by
        rw [hFx, ea, show ((left : Int) - (pc x 9 : Int)) = ((left - pc x 9 : Nat) : Int) by omega]
        refine IH.out (M ++ [x]) (used ||| x) (left - pc x 9) v W (by simp; omega) (fun y hy => ?_) horl (by omega) hV
        rcases List.mem_append.1 hy with hy | hy
        ·exact HM.out y hy
        ·rw [List.mem_singleton.1 hy]; exact HXL.out⟩
       clear hFx hok ha0 hfb horl hor HFE HOK HAH IH HLOW HM HS HG HP
       obtain ⟨i3, hi3, hq0, hq1, hq2⟩ := info_parts info3
       cases hfx : F x with
       | none =>
        rw [hfx] at HREC ha2
        have HA2 : Aside0 ((sets.drop (i + 1)).findSome? F = R) := ⟨ha2⟩
        clear ha2 hfx
        go_wp2_with (first
         | (go_at_call 109; refine (minor_count.calls _ _ _ HCN.out).mono ?_; rintro e w3 ⟨rfl, m, rfl⟩)
         | (go_at_call 110; refine (HFIT.out _ (pw_below_drewN (Below.refl _ _) _)).mono ?_; rintro e w3 ⟨rfl, hb⟩; have HB3 : Aside0 (Below wr.heap.size wr w3) := ⟨below_step (pw_below_drewN (Below.refl _ _) _) hb⟩; have HX3 := Aside0.mk (HX.out.low HB3.out); clear hb; have hc3 : w3.cell? ⟨sB, 3, none⟩ = some (.slice A4 M.length c4) := (HX3.out.cell 3).trans rfl)
         | (at_builtin; refine wpList_append_own_at _ rfl _ _ 22 rfl W0.heap.size 3 i3 (.int .i64 0) 1 8 Tryd.underlying22 hi3 hq0 hq1 hq2 rfl (by decide) (.slice A4 M.length c4) M.length ((gi M).map (Value.int .i64)) rfl (HX3.out.own.alloc _) ⟨w3.heap.size, 0, none⟩ 1 1 [.int .i64 (x : Int)] rfl rfl (cell_one_new _ _ _) (by simp [Value.oneCell']) (by unfold maxLen; omega) (by omega) (by have := HX3.out.grown.size; simp; omega) ?_; intro v8 w8 hown8 hg8 _ _; obtain ⟨g8, cap8, rfl⟩ := own_succ hown8; have hne8 : some sB ≠ (Value.slice A4 M.length c4).ownBlock := (fun e => by have := own_base2 HX3.out.own sB e.symm; omega); have hb8 := blk_grown (blk_alloc HX3.out.blk _) hg8 hne8; have hc8 : w8.cell? ⟨sB, 3, none⟩ = some (.slice A4 M.length c4) := (blk_cell hb8 3).trans rfl; have hf8 := blk_frozen hb8 3; have HX8 := Aside0.mk (HX3.out.push hsB hg8 hown8); clear hb8 hown8 hg8)
         | (go_at_call 92; refine (HREC.out _ _ _ (by omega) (HX8.out.low (pw_below_drewN (Below.refl _ _) _))).mono ?_; rintro e w9 ⟨rfl, v9, hS9⟩; obtain ⟨g9, c9, rfl, hcap9⟩ := hS9.cap; have hl9 : w9.cell? ⟨sB, 3, none⟩ = some (.slice (some ⟨g9, 0, none⟩) (M.length + 1) c9) := (hS9.cell 3).trans rfl; have hf9 := blk_frozen hS9.blk 3; have HS9 := Aside0.mk hS9; clear hS9; have hkc1 : decide ((M.length : Int) ≤ (c9 : Int)) = true := decide_eq_true (by omega); have hkc2 : ((M.length : Int) ≤ (c9 : Int)) = True := eq_true (by omega)))
        go_roundg gi'
        case measure => omega
        case rel => exact ⟨i + 1, _, by go_num, by omega, HA2, ⟨HS9.out.pop hsB rfl⟩⟩
       | some Rr =>
        rw [hfx] at HREC ha2
        have hr2 : R = some Rr := ha2.symm
        subst hr2
        clear ha2 hfx
        go_wp2_with (first
         | (go_at_call 109; refine (minor_count.calls _ _ _ HCN.out).mono ?_; rintro e w3 ⟨rfl, m, rfl⟩)
         | (go_at_call 110; refine (HFIT.out _ (pw_below_drewN (Below.refl _ _) _)).mono ?_; rintro e w3 ⟨rfl, hb⟩; have HB3 : Aside0 (Below wr.heap.size wr w3) := ⟨below_step (pw_below_drewN (Below.refl _ _) _) hb⟩; have HX3 := Aside0.mk (HX.out.low HB3.out); clear hb; have hc3 : w3.cell? ⟨sB, 3, none⟩ = some (.slice A4 M.length c4) := (HX3.out.cell 3).trans rfl)
         | (at_builtin; refine wpList_append_own_at _ rfl _ _ 22 rfl W0.heap.size 3 i3 (.int .i64 0) 1 8 Tryd.underlying22 hi3 hq0 hq1 hq2 rfl (by decide) (.slice A4 M.length c4) M.length ((gi M).map (Value.int .i64)) rfl (HX3.out.own.alloc _) ⟨w3.heap.size, 0, none⟩ 1 1 [.int .i64 (x : Int)] rfl rfl (cell_one_new _ _ _) (by simp [Value.oneCell']) (by unfold maxLen; omega) (by omega) (by have := HX3.out.grown.size; simp; omega) ?_; intro v8 w8 hown8 hg8 _ _; obtain ⟨g8, cap8, rfl⟩ := own_succ hown8; have hne8 : some sB ≠ (Value.slice A4 M.length c4).ownBlock := (fun e => by have := own_base2 HX3.out.own sB e.symm; omega); have hb8 := blk_grown (blk_alloc HX3.out.blk _) hg8 hne8; have hc8 : w8.cell? ⟨sB, 3, none⟩ = some (.slice A4 M.length c4) := (blk_cell hb8 3).trans rfl; have hf8 := blk_frozen hb8 3; have HX8 := Aside0.mk (HX3.out.push hsB hg8 hown8); clear hb8 hown8 hg8)
         | (go_at_call 92; refine (HREC.out _ _ _ (by omega) (HX8.out.low (pw_below_drewN (Below.refl _ _) _))).mono ?_; rintro e w9 ⟨rfl, v9, hS9⟩))
        go_ret
        exact ⟨rfl, _, hS9⟩
    ·have ht2 : decide ((left : Int) - (d : Int) < (pc x 9 : Int)) = true := decide_eq_true (by omega)
     have HA2 : Aside0 ((sets.drop (i + 1)).findSome? F = R) := ⟨by
      have := HAH.out
      rw [HOK.out, decide_eq_false hp1] at this
      simpa using this⟩
     clear ha0
     go_wp2_with (go_at_call 109; refine (minor_count.calls _ _ _ HCN.out).mono ?_; rintro e w3 ⟨rfl, m, rfl⟩)
     go_roundg gi'
     case measure => omega
     case rel => exact ⟨i + 1, _, by go_num, by omega, HA2, ⟨HX.out.low (by repeat (first | exact Below.refl _ _ | refine pw_below_drewN ?_ _))⟩⟩
   ·have ht1 : ((((x &&& used : Nat) : Int)) != 0) = true := by simp; omega
    have HA2 : Aside0 ((sets.drop (i + 1)).findSome? F = R) := ⟨by
     have := HAH.out
     rw [HOK.out, decide_eq_false ha0] at this
     simpa using this⟩
    clear ha0
    go_wp2
    go_roundg gi'
    case measure => omega
    case rel => exact ⟨i + 1, _, by go_num, by omega, HA2, HX⟩
  ·have hi1 : ((i : Int) < (sets.length : Int)) = False := eq_false (by omega)
   have hi2 : decide ((i : Int) < (sets.length : Int)) = false := decide_eq_false (by omega)
   have ha := HA.out
   rw [List.drop_eq_nil_of_le (by omega)] at ha
   have hr : R = none := ha.symm
   subst hr
   clear ha HA
   go_wp2
   go_ret
   exact ⟨rfl, _, HX.out⟩
set_option maxHeartbeats 16000000 in
set_option maxRecDepth 100000 in
theorem grow_s (sB : Nat) (W0 : World) (hsB : sB < W0.heap.size) (Ag : Option Addr) (cg : Nat) (G : List Nat) (hG : Gr 9 G) (hcg : G.length ≤ cg) (Ap : Option Addr) (cp : Nat) (P : List Nat) (hPl : P.length ≤ 9) (hP : ∀ x ∈ P, x < 512) (As : Option Addr) (cs : Nat) (sets : List Nat) (hSl : sets.length ≤ 512) (hS : ∀ x ∈ sets, x < 2 ^ G.length)
  (hlow : ∀ W, W0.grownBy W (some sB) → GL W ∧ Kd.C (Kd.int .i64) W Ag (gi G).length (gi G) ∧ Kd.C (Kd.int .i64) W Ap (gi P).length (gi P) ∧ Kd.C (Kd.int .i64) W As (gi sets).length (gi sets))
  (d : Nat) (hd0 : 0 < d) (ih : ∀ (M : List Nat) (used left : Nat) (v : Value) (w : World), M.length + d = P.length → (∀ x ∈ M, x < 2 ^ G.length) → used < 512 → left ≤ 9 → SI W0 w sB (.slice Ag G.length cg) (.slice Ap P.length cp) (.slice As sets.length cs) M v →
  Calls Tryd.prog 92 #[.pointer (some ⟨sB, 0, none⟩), .int .i64 (used : Int), .int .i64 (left : Int)] w fun e w' => e = .returned (.bool (growN G P sets d M used left).isSome) ∧ ∃ v', SI W0 w' sB (.slice Ag G.length cg) (.slice Ap P.length cp) (.slice As sets.length cs) ((growN G P sets d M used left).getD M) v') :
  ∀ (M : List Nat) (used left : Nat) (v : Value) (w : World), M.length + (d + 1) = P.length → (∀ x ∈ M, x < 2 ^ G.length) → used < 512 → left ≤ 9 → SI W0 w sB (.slice Ag G.length cg) (.slice Ap P.length cp) (.slice As sets.length cs) M v →
  Calls Tryd.prog 92 #[.pointer (some ⟨sB, 0, none⟩), .int .i64 (used : Int), .int .i64 (left : Int)] w fun e w' => e = .returned (.bool (growN G P sets (d + 1) M used left).isSome) ∧ ∃ v', SI W0 w' sB (.slice Ag G.length cg) (.slice Ap P.length cp) (.slice As sets.length cs) ((growN G P sets (d + 1) M used left).getD M) v' := by
 intro M used left v w hd hM hu hl hI
 have IH := Aside0.mk ih
 have HI := Aside0.mk hI
 have HLOW := Aside0.mk hlow
 have HM := Aside0.mk hM
 have HS := Aside0.mk hS
 have HG := Aside0.mk hG
 have HP := Aside0.mk hP
 obtain ⟨A3, c3, rfl⟩ := ownsRow_form2 hI.own
 have hz1 : w.cell? ⟨sB, 1, none⟩ = some (.slice Ap P.length cp) := (hI.cell 1).trans rfl
 have hz2 : w.cell? ⟨sB, 2, none⟩ = some (.slice As sets.length cs) := (hI.cell 2).trans rfl
 have hz3 : w.cell? ⟨sB, 3, none⟩ = some (.slice A3 M.length c3) := (hI.cell 3).trans rfl
 have hk1 : ((M.length : Int) == (P.length : Int)) = false := beq_eq_false_iff_ne.2 (by omega)
 obtain ⟨R, hR⟩ : ∃ R, growN G P sets (d + 1) M used left = R := ⟨_, rfl⟩
 obtain ⟨F, hF⟩ : ∃ F : Nat → Option (List Nat), F = fun s => if okB G P M used left d s then growN G P sets d (M ++ [s]) (used ||| s) (left - pc s 9) else none := ⟨_, rfl⟩
 have hRF : (sets.drop 0).findSome? F = R := by rw [← hR, hF]; rfl
 have HFE : Aside0 (∀ s, F s = if okB G P M used left d s then growN G P sets d (M ++ [s]) (used ||| s) (left - pc s 9) else none) := ⟨fun s => by rw [hF]⟩
 have HRF := Aside0.mk hRF
 rw [hR]
 clear hI hlow hM hS hP hG hF hRF hR ih
 go_enter Tryd.func92, Tryd.ntmps92
 go_wp2
 go_loopg [36] sets.length (fun kq v36 w' => ∃ (i : Nat) (v1 : Value), v36 = .int .i64 (i : Int) ∧ i + kq = sets.length ∧ Aside0 ((sets.drop i).findSome? F = R) ∧ Aside0 (SI W0 w' sB (.slice Ag G.length cg) (.slice Ap P.length cp) (.slice As sets.length cs) M v1))
 case atStart => exact ⟨0, _, rfl, by omega, HRF, HI⟩
 case round =>
  clear HRF
  obtain ⟨i, v1, rfl, hi, HA, HX⟩ := hrel
  by_cases hil : i < sets.length
  ·have hi1 : ((i : Int) < (sets.length : Int)) = True := eq_true (by omega)
   have hi2 : decide ((i : Int) < (sets.length : Int)) = true := decide_eq_true (by omega)
   cases gk with
   | zero => omega
   | succ gi' =>
   obtain ⟨ad, e1, hgx⟩ := Kd.at_int (HLOW.out wr HX.out.grown).2.2.2 (i : Int) (by omega) (by rw [gi_length]; omega)
   subst e1
   rw [rd_gi, Int.toNat_natCast] at hgx
   have ha := HA.out
   rw [List.drop_eq_getElem_cons hil, List.findSome?_cons] at ha
   have hxm : sets[i] ∈ sets := List.getElem_mem hil
   have hxe : sets.getD i 0 = sets[i] := by rw [List.getD_eq_getElem?_getD, List.getElem?_eq_getElem hil]; rfl
   rw [hxe] at hgx
   have hxl := HS.out _ hxm
   generalize sets[i] = x at *
   have hx5 := small G HG.out.most hxl
   rw [HFE.out x] at ha
   have hgxd : ∀ m, (wr.drewN m).cell? (ad.add i) = some (.int .i64 (x : Int)) := fun m => hgx
   obtain ⟨A4, c4, e4⟩ := ownsRow_form2 HX.out.own
   subst e4
   have hy1 : wr.cell? ⟨sB, 1, none⟩ = some (.slice Ap P.length cp) := (HX.out.cell 1).trans rfl
   have hy3 : wr.cell? ⟨sB, 3, none⟩ = some (.slice A4 M.length c4) := (HX.out.cell 3).trans rfl
   have HCN := Aside0.mk (count_eq x hx5)
   have han : Go.bits .and .i64 (x : Int) (used : Int) = ((x &&& used : Nat) : Int) := b_and _ _ (by omega) (by omega)
   have hor : Go.bits .or .i64 (x : Int) (used : Int) = ((x ||| used : Nat) : Int) := b_or _ _ (by omega) (by omega)
   have hor2 : Go.bits .or .i64 (used : Int) (x : Int) = ((used ||| x : Nat) : Int) := b_or _ _ (by omega) (by omega)
   have horl : used ||| x < 512 := Nat.or_lt_two_pow (n := 9) (by omega) (by omega)
   have HFIT : Aside0 (∀ W, Below wr.heap.size wr W → Calls Tryd.prog 110 #[.pointer (some ⟨sB, 0, none⟩), .int .i64 (x : Int), .int .i64 (M.length : Int)] W fun e w' => e = .returned (.bool (fitB G P M x M.length)) ∧ Below W.heap.size W w') := ⟨fun W hW => by
    have hX := HX.out.low hW
    obtain ⟨q1, q2, q3, q4⟩ := HLOW.out W hX.grown
    have hro := hX.own
    have hlen : M.length = (gi M).length := (gi_length M).symm
    rw [hlen] at hro
    have hC := (C_of_row hro).2
    rw [gi_length] at hC
    exact fits_calls sB Ag cg G HG.out hcg Ap cp P A4 c4 M x hxl (by omega) hPl HP.out HM.out W q1 ((hX.cell 0).trans rfl) ((hX.cell 1).trans rfl) ((hX.cell 3).trans rfl) q2 q3 (by rw [gi_length]; exact hC)⟩
   have HOK : Aside0 (okB G P M used left d x = (decide (x &&& used = 0) && decide (pc x 9 + d ≤ left) && !(decide (d = 0) && decide (pc x 9 ≠ left)) && fitB G P M x M.length)) := ⟨rfl⟩
   have hpc := pc_le x 9
   have HXL := Aside0.mk hxl
   have HAH := Aside0.mk ha
   clear ha hxm hxe hxl HA
   by_cases ha0 : x &&& used = 0
   ·have ht1 : ((((x &&& used : Nat) : Int)) != 0) = false := by rw [ha0]; rfl
    by_cases hp1 : pc x 9 + d ≤ left
    ·have ht2 : decide ((left : Int) - (d : Int) < (pc x 9 : Int)) = false := decide_eq_false (by omega)
     by_cases hd3 : d = 0 ∧ pc x 9 ≠ left
     ·omega
     ·have hd4 : d = 0 → pc x 9 = left := fun h => Classical.byContradiction fun h2 => hd3 ⟨h, h2⟩
      clear hd3
      cases hfb : fitB G P M x M.length
      ·rw [hfb] at HFIT
       have HA2 : Aside0 ((sets.drop (i + 1)).findSome? F = R) := ⟨by
        have := HAH.out
        rw [HOK.out, hfb] at this
        simpa using this⟩
       clear ha0 hfb HFE HOK HAH IH HLOW HM HS HG HP
       go_wp2_with (first
        | (go_at_call 109; refine (minor_count.calls _ _ _ HCN.out).mono ?_; rintro e w3 ⟨rfl, m, rfl⟩)
        | (go_at_call 110; refine (HFIT.out _ (pw_below_drewN (Below.refl _ _) _)).mono ?_; rintro e w3 ⟨rfl, hb⟩; have HB3 : Aside0 (Below wr.heap.size wr w3) := ⟨below_step (pw_below_drewN (Below.refl _ _) _) hb⟩; have HX3 := Aside0.mk (HX.out.low HB3.out); clear hb; have hc3 : w3.cell? ⟨sB, 3, none⟩ = some (.slice A4 M.length c4) := (HX3.out.cell 3).trans rfl))
       go_roundg gi'
       case measure => omega
       case rel => exact ⟨i + 1, _, by go_num, by omega, HA2, HX3⟩
      ·rw [hfb] at HFIT
       have hok : okB G P M used left d x = true := by
        rw [HOK.out, hfb, decide_eq_true ha0, decide_eq_true hp1]
        by_cases h0 : d = 0
        ·rw [hd4 h0]; simp
        ·simp [h0]
       have hFx : F x = growN G P sets d (M ++ [x]) (used ||| x) (left - pc x 9) := by rw [HFE.out x, if_pos hok]
       have ha2 := HAH.out
       rw [← HFE.out x] at ha2
       have HREC : Aside0 (∀ W v (a : Int), a = (left : Int) - (pc x 9 : Int) → SI W0 W sB (.slice Ag G.length cg) (.slice Ap P.length cp) (.slice (some ad) sets.length cs) (M ++ [x]) v → Calls Tryd.prog 92 #[.pointer (some ⟨sB, 0, none⟩), .int .i64 ((used ||| x : Nat) : Int), .int .i64 a] W fun e w' => e = .returned (.bool (F x).isSome) ∧ ∃ v', SI W0 w' sB (.slice Ag G.length cg) (.slice Ap P.length cp) (.slice (some ad) sets.length cs) ((F x).getD (M ++ [x])) v') := ⟨fun W v a ea hV => by
        rw [hFx, ea, show ((left : Int) - (pc x 9 : Int)) = ((left - pc x 9 : Nat) : Int) by omega]
        refine IH.out (M ++ [x]) (used ||| x) (left - pc x 9) v W (by simp; omega) (fun y hy => ?_) horl (by omega) hV
        rcases List.mem_append.1 hy with hy | hy
        ·exact HM.out y hy
        ·rw [List.mem_singleton.1 hy]; exact HXL.out⟩
       clear hFx hok ha0 hfb horl hor HFE HOK HAH IH HLOW HM HS HG HP
       obtain ⟨i3, hi3, hq0, hq1, hq2⟩ := info_parts info3
       cases hfx : F x with
       | none =>
        rw [hfx] at HREC ha2
        have HA2 : Aside0 ((sets.drop (i + 1)).findSome? F = R) := ⟨ha2⟩
        clear ha2 hfx
        go_wp2_with (first
         | (go_at_call 109; refine (minor_count.calls _ _ _ HCN.out).mono ?_; rintro e w3 ⟨rfl, m, rfl⟩)
         | (go_at_call 110; refine (HFIT.out _ (pw_below_drewN (Below.refl _ _) _)).mono ?_; rintro e w3 ⟨rfl, hb⟩; have HB3 : Aside0 (Below wr.heap.size wr w3) := ⟨below_step (pw_below_drewN (Below.refl _ _) _) hb⟩; have HX3 := Aside0.mk (HX.out.low HB3.out); clear hb; have hc3 : w3.cell? ⟨sB, 3, none⟩ = some (.slice A4 M.length c4) := (HX3.out.cell 3).trans rfl)
         | (at_builtin; refine wpList_append_own_at _ rfl _ _ 22 rfl W0.heap.size 3 i3 (.int .i64 0) 1 8 Tryd.underlying22 hi3 hq0 hq1 hq2 rfl (by decide) (.slice A4 M.length c4) M.length ((gi M).map (Value.int .i64)) rfl (HX3.out.own.alloc _) ⟨w3.heap.size, 0, none⟩ 1 1 [.int .i64 (x : Int)] rfl rfl (cell_one_new _ _ _) (by simp [Value.oneCell']) (by unfold maxLen; omega) (by omega) (by have := HX3.out.grown.size; simp; omega) ?_; intro v8 w8 hown8 hg8 _ _; obtain ⟨g8, cap8, rfl⟩ := own_succ hown8; have hne8 : some sB ≠ (Value.slice A4 M.length c4).ownBlock := (fun e => by have := own_base2 HX3.out.own sB e.symm; omega); have hb8 := blk_grown (blk_alloc HX3.out.blk _) hg8 hne8; have hc8 : w8.cell? ⟨sB, 3, none⟩ = some (.slice A4 M.length c4) := (blk_cell hb8 3).trans rfl; have hf8 := blk_frozen hb8 3; have HX8 := Aside0.mk (HX3.out.push hsB hg8 hown8); clear hb8 hown8 hg8)
         | (go_at_call 92; refine (HREC.out _ _ _ (by omega) (HX8.out.low (pw_below_drewN (Below.refl _ _) _))).mono ?_; rintro e w9 ⟨rfl, v9, hS9⟩; obtain ⟨g9, c9, rfl, hcap9⟩ := hS9.cap; have hl9 : w9.cell? ⟨sB, 3, none⟩ = some (.slice (some ⟨g9, 0, none⟩) (M.length + 1) c9) := (hS9.cell 3).trans rfl; have hf9 := blk_frozen hS9.blk 3; have HS9 := Aside0.mk hS9; clear hS9; have hkc1 : decide ((M.length : Int) ≤ (c9 : Int)) = true := decide_eq_true (by omega); have hkc2 : ((M.length : Int) ≤ (c9 : Int)) = True := eq_true (by omega)))
        go_roundg gi'
        case measure => omega
        case rel => exact ⟨i + 1, _, by go_num, by omega, HA2, ⟨HS9.out.pop hsB rfl⟩⟩
       | some Rr =>
        rw [hfx] at HREC ha2
        have hr2 : R = some Rr := ha2.symm
        subst hr2
        clear ha2 hfx
        go_wp2_with (first
         | (go_at_call 109; refine (minor_count.calls _ _ _ HCN.out).mono ?_; rintro e w3 ⟨rfl, m, rfl⟩)
         | (go_at_call 110; refine (HFIT.out _ (pw_below_drewN (Below.refl _ _) _)).mono ?_; rintro e w3 ⟨rfl, hb⟩; have HB3 : Aside0 (Below wr.heap.size wr w3) := ⟨below_step (pw_below_drewN (Below.refl _ _) _) hb⟩; have HX3 := Aside0.mk (HX.out.low HB3.out); clear hb; have hc3 : w3.cell? ⟨sB, 3, none⟩ = some (.slice A4 M.length c4) := (HX3.out.cell 3).trans rfl)
         | (at_builtin; refine wpList_append_own_at _ rfl _ _ 22 rfl W0.heap.size 3 i3 (.int .i64 0) 1 8 Tryd.underlying22 hi3 hq0 hq1 hq2 rfl (by decide) (.slice A4 M.length c4) M.length ((gi M).map (Value.int .i64)) rfl (HX3.out.own.alloc _) ⟨w3.heap.size, 0, none⟩ 1 1 [.int .i64 (x : Int)] rfl rfl (cell_one_new _ _ _) (by simp [Value.oneCell']) (by unfold maxLen; omega) (by omega) (by have := HX3.out.grown.size; simp; omega) ?_; intro v8 w8 hown8 hg8 _ _; obtain ⟨g8, cap8, rfl⟩ := own_succ hown8; have hne8 : some sB ≠ (Value.slice A4 M.length c4).ownBlock := (fun e => by have := own_base2 HX3.out.own sB e.symm; omega); have hb8 := blk_grown (blk_alloc HX3.out.blk _) hg8 hne8; have hc8 : w8.cell? ⟨sB, 3, none⟩ = some (.slice A4 M.length c4) := (blk_cell hb8 3).trans rfl; have hf8 := blk_frozen hb8 3; have HX8 := Aside0.mk (HX3.out.push hsB hg8 hown8); clear hb8 hown8 hg8)
         | (go_at_call 92; refine (HREC.out _ _ _ (by omega) (HX8.out.low (pw_below_drewN (Below.refl _ _) _))).mono ?_; rintro e w9 ⟨rfl, v9, hS9⟩))
        go_ret
        exact ⟨rfl, _, hS9⟩
    ·have ht2 : decide ((left : Int) - (d : Int) < (pc x 9 : Int)) = true := decide_eq_true (by omega)
     have HA2 : Aside0 ((sets.drop (i + 1)).findSome? F = R) := ⟨by
      have := HAH.out
      rw [HOK.out, decide_eq_false hp1] at this
      simpa using this⟩
     clear ha0
     go_wp2_with (go_at_call 109; refine (minor_count.calls _ _ _ HCN.out).mono ?_; rintro e w3 ⟨rfl, m, rfl⟩)
     go_roundg gi'
     case measure => omega
     case rel => exact ⟨i + 1, _, by go_num, by omega, HA2, ⟨HX.out.low (by repeat (first | exact Below.refl _ _ | refine pw_below_drewN ?_ _))⟩⟩
   ·have ht1 : ((((x &&& used : Nat) : Int)) != 0) = true := by simp; omega
    have HA2 : Aside0 ((sets.drop (i + 1)).findSome? F = R) := ⟨by
     have := HAH.out
     rw [HOK.out, decide_eq_false ha0] at this
     simpa using this⟩
    clear ha0
    go_wp2
    go_roundg gi'
    case measure => omega
    case rel => exact ⟨i + 1, _, by go_num, by omega, HA2, HX⟩
  ·have hi1 : ((i : Int) < (sets.length : Int)) = False := eq_false (by omega)
   have hi2 : decide ((i : Int) < (sets.length : Int)) = false := decide_eq_false (by omega)
   have ha := HA.out
   rw [List.drop_eq_nil_of_le (by omega)] at ha
   have hr : R = none := ha.symm
   subst hr
   clear ha HA
   go_wp2
   go_ret
   exact ⟨rfl, _, HX.out⟩
set_option maxHeartbeats 4000000 in
set_option maxRecDepth 100000 in
theorem grow_calls (sB : Nat) (W0 : World) (hsB : sB < W0.heap.size) (Ag : Option Addr) (cg : Nat) (G : List Nat) (hG : Gr 9 G) (hcg : G.length ≤ cg) (Ap : Option Addr) (cp : Nat) (P : List Nat) (hPl : P.length ≤ 9) (hP : ∀ x ∈ P, x < 512) (As : Option Addr) (cs : Nat) (sets : List Nat) (hSl : sets.length ≤ 512) (hS : ∀ x ∈ sets, x < 2 ^ G.length)
  (hlow : ∀ W, W0.grownBy W (some sB) → GL W ∧ Kd.C (Kd.int .i64) W Ag (gi G).length (gi G) ∧ Kd.C (Kd.int .i64) W Ap (gi P).length (gi P) ∧ Kd.C (Kd.int .i64) W As (gi sets).length (gi sets)) :
  ∀ (d : Nat) (M : List Nat) (used left : Nat) (v : Value) (w : World), M.length + d = P.length → (∀ x ∈ M, x < 2 ^ G.length) → used < 512 → left ≤ 9 → SI W0 w sB (.slice Ag G.length cg) (.slice Ap P.length cp) (.slice As sets.length cs) M v →
  Calls Tryd.prog 92 #[.pointer (some ⟨sB, 0, none⟩), .int .i64 (used : Int), .int .i64 (left : Int)] w fun e w' => e = .returned (.bool (growN G P sets d M used left).isSome) ∧ ∃ v', SI W0 w' sB (.slice Ag G.length cg) (.slice Ap P.length cp) (.slice As sets.length cs) ((growN G P sets d M used left).getD M) v' := by
 intro d
 induction d with
 | zero =>
  intro M used left v w hd hM hu hl hI
  have HI := Aside0.mk hI
  obtain ⟨A3, c3, rfl⟩ := ownsRow_form2 hI.own
  have hz1 : w.cell? ⟨sB, 1, none⟩ = some (.slice Ap P.length cp) := (hI.cell 1).trans rfl
  have hz3 : w.cell? ⟨sB, 3, none⟩ = some (.slice A3 M.length c3) := (hI.cell 3).trans rfl
  have hk1 : ((M.length : Int) == (P.length : Int)) = true := beq_iff_eq.2 (by omega)
  clear hI hlow hM hS hP hd
  go_enter Tryd.func92, Tryd.ntmps92
  go_wp2
  go_ret
  exact ⟨rfl, _, HI.out⟩
 | succ d ih =>
  rcases Nat.eq_zero_or_pos d with hd0 | hd0
  ·exact grow_z sB W0 hsB Ag cg G hG hcg Ap cp P hPl hP As cs sets hSl hS hlow d hd0 ih
  ·exact grow_s sB W0 hsB Ag cg G hG hcg Ap cp P hPl hP As cs sets hSl hS hlow d hd0 ih
structure FS (w W : World) (sB : Nat) (vT vP : Value) (l : List Nat) (vS : Value) : Prop where
 blk : W.heap[sB]? = some (.cells #[vT, vP, vS, .slice none 0 0] 115 (0, 0))
 own : W.ownsRow (w.heap.size + 1) 3 1 vS l.length ((gi l).map (Value.int .i64))
 below : Below w.heap.size w W
theorem FS.low {w W V : World} {sB : Nat} {vT vP vS : Value} {l : List Nat} (h : FS w W sB vT vP l vS) (hb : Below W.heap.size W V) : FS w V sB vT vP l vS :=
 ⟨blk_below h.blk hb, own_kept h.own (grown_of_below hb none) (fun _ _ e => by cases e), below_step h.below hb⟩
theorem FS.push {w W w8 : World} {sB x : Nat} {vT vP vS : Value} {l : List Nat} {o : Obj} {g c : Nat} (h : FS w W sB vT vP l vS) (hsB : sB = w.heap.size) (hg : (W.alloc o).grownBy w8 vS.ownBlock)
  (ho : w8.ownsRow (w.heap.size + 1) 3 1 (.slice (some ⟨g, 0, none⟩) (l.length + 1) c) (l.length + 1) ((gi l).map (Value.int .i64) ++ [.int .i64 (x : Int)])) :
  FS w (w8.setCell ⟨sB, 2, none⟩ (.slice (some ⟨g, 0, none⟩) (l.length + 1) c)) sB vT vP (l ++ [x]) (.slice (some ⟨g, 0, none⟩) (l.length + 1) c) := by
 have hne : some sB ≠ vS.ownBlock := fun e => by have := own_base2 h.own sB e.symm; omega
 have hb8 := blk_grown (blk_alloc h.blk o) hg hne
 refine ⟨?_, ?_, ?_⟩
 ·have := blk_set hb8 2 (.slice (some ⟨g, 0, none⟩) (l.length + 1) c)
  rw [this]
  rfl
 ·have e : (l ++ [x]).length = l.length + 1 := by simp
  rw [e, show (gi (l ++ [x])).map (Value.int .i64) = (gi l).map (Value.int .i64) ++ [.int .i64 (x : Int)] by simp [gi]]
  exact own_kept ho (grownBy_set w8 ⟨sB, 2, none⟩ _) (fun b hb e => by
   have := own_base2 ho b hb
   have e2 : b = sB := Option.some.inj e
   omega)
 ·refine below_set (((below_alloc h.below o).grown hg (by have := h.below.size; simp; omega) (fun k e => ?_))) (by omega)
  have := own_base2 h.own k e
  omega
theorem range_filter (f : Nat → Bool) (i : Nat) : (List.range (i + 1)).filter f = (List.range i).filter f ++ (if f i then [i] else []) := by
 rw [List.range_succ, List.filter_append]
 cases h : f i <;> simp [h]
set_option maxHeartbeats 8000000 in
set_option maxRecDepth 100000 in
theorem find_calls (A0 : Option Addr) (c0 : Nat) (G : List Nat) (hG : Gr 9 G) (hc0 : G.length ≤ c0) (A1 : Option Addr) (c1 : Nat) (P : List Nat) (hP1 : 1 ≤ P.length) (hPl : P.length ≤ 9) (hP : ∀ x ∈ P, x < 512) (w : World) (hGL : GL w)
  (hr0 : Kd.C (Kd.int .i64) w A0 (gi G).length (gi G)) (hr1 : Kd.C (Kd.int .i64) w A1 (gi P).length (gi P)) :
  Calls Tryd.prog 64 #[.slice A0 G.length c0, .slice A1 P.length c1] w fun e w' => ∃ v, e = .returned v ∧ Kd.R (Kd.int .i64) 3 w' w.heap.size (fun _ => True) v ((findN G P).elim [] gi) ∧ ((findN G P = none ∧ v = .slice none 0 0) ∨ ((findN G P).isSome = true ∧ ∃ a n c, v = .slice (some a) n c)) ∧ Below w.heap.size w w' := by
 have HG := Aside0.mk hG
 have HP := Aside0.mk hP
 have HGL := Aside0.mk hGL
 have HR0 := Aside0.mk hr0
 have HR1 := Aside0.mk hr1
 have hn := hG.most
 obtain ⟨A, hA⟩ : ∃ A, 2 ^ G.length = A + 1 := ⟨2 ^ G.length - 1, by have := Nat.two_pow_pos G.length; omega⟩
 have hA9 : A ≤ 511 := by
  have h9 : 2 ^ G.length ≤ 2 ^ 9 := Nat.pow_le_pow_right (by omega) hn
  rw [hA] at h9
  have e9 : (2 : Nat) ^ 9 = 512 := rfl
  omega
 have HALL : Aside0 (minor_town_all.f (gi G) = some (A : Int)) := ⟨by rw [all_eq G hn, hA]; rfl⟩
 have HA := Aside0.mk hA
 have HL0 := Aside0.mk (gi_length G)
 have CALL : Aside0 (∀ W, Below w.heap.size w W → Calls Tryd.prog 66 #[.slice A0 G.length c0] W fun e w' => e = .returned (.int .i64 (A : Int)) ∧ Below W.heap.size W w') := ⟨fun W hW => by
  have := minor_town_all.calls A0 c0 (gi G) _ W (Kd.C_below HR0.out hW) (by rw [gi_length]; exact hc0) HALL.out
  rw [gi_length] at this
  exact this.mono fun e w' ⟨h, m, hm⟩ => ⟨h, by rw [hm]; exact pw_below_drewN (Below.refl _ _) m⟩⟩
 have CCON : Aside0 (∀ W (i : Nat), Below w.heap.size w W → i ≤ A → Calls Tryd.prog 67 #[.slice A0 G.length c0, .int .i64 (i : Int)] W fun e w' => e = .returned (.bool (conB G i)) ∧ Below W.heap.size W w') := ⟨fun W i hW hi => by
  obtain ⟨K, hK⟩ := connected_ev G HG.out i (by rw [HA.out]; omega)
  have := minor_town_connected.calls K A0 c0 (gi G) (i : Int) _ W (GL_below HGL.out hW) (Kd.C_below HR0.out hW) (by rw [gi_length]; exact hc0) (hK K (Nat.le_refl _))
  rw [gi_length] at this
  exact this⟩
 obtain ⟨T, hT⟩ : ∃ T, T = G.length + 1 - P.length := ⟨_, rfl⟩
 obtain ⟨F, hF⟩ : ∃ F : Nat → Option (List Nat), F = fun z => growN G P (setsN G) P.length [] 0 z := ⟨_, rfl⟩
 have HFE : Aside0 (∀ z, F z = growN G P (setsN G) P.length [] 0 z) := ⟨fun z => by rw [hF]⟩
 obtain ⟨R, hR⟩ : ∃ R, findN G P = R := ⟨_, rfl⟩
 have HRF : Aside0 (((List.range' P.length T).drop 0).findSome? F = R) := ⟨by rw [← hR, hF, hT]; rfl⟩
 rw [hR]
 obtain ⟨i3, hi3, hq0, hq1, hq2⟩ := info_parts info3
 clear hF hR hA hG hP hGL hr0 hr1
 go_enter Tryd.func64, Tryd.ntmps64
 go_wp2_with ((with_reducible refine gate_dst (N := 11) rfl ?_); refine box_event ?hg (N := 11) ?hd (cs := #[.slice A0 G.length c0, .slice A1 P.length c1, .slice none 0 0, .slice none 0 0]) (t := 115) ?hr ?_; (case hd => rfl); (case hg => rfl); (case hr => first | (go_simp; done) | (go_simp; rfl)); intro sB hga w7 hbox hb7; have HSB := Aside0.mk hga; have HF7 : Aside0 (FS w w7 sB (.slice A0 G.length c0) (.slice A1 P.length c1) [] (.slice none 0 0)) := ⟨⟨hbox, World.ownsRow_nil _ _ _ _, hb7⟩⟩; clear hga hbox hb7)
 go_loopg [6] (A + 1) (fun kq v6 w' => ∃ (i : Nat) (vS : Value), v6 = .int .i64 (i : Int) ∧ i + kq = A + 2 ∧ 1 ≤ i ∧ i ≤ A + 1 ∧ Aside0 (FS w w' sB (.slice A0 G.length c0) (.slice A1 P.length c1) ((List.range i).filter (conB G)) vS))
 case atStart => exact ⟨1, _, rfl, by omega, by omega, by omega, HF7⟩
 case round =>
  clear HF7
  obtain ⟨i, vS, rfl, hi, hi1, hi2, HX⟩ := hrel
  by_cases hil : i ≤ A
  ·have hj1 : ((i : Int) ≤ (A : Int)) = True := eq_true (by omega)
   have hj2 : decide ((i : Int) ≤ (A : Int)) = true := decide_eq_true (by omega)
   cases gk with
   | zero => omega
   | succ gi' =>
   have hrf := range_filter (conB G) i
   obtain ⟨AS, cS, rfl⟩ := ownsRow_form2 HX.out.own
   have HCI := Aside0.mk (CCON.out · i · hil)
   obtain ⟨l, hl⟩ : ∃ l, (List.range i).filter (conB G) = l := ⟨_, rfl⟩
   rw [hl] at hrf HX
   have hll : l.length ≤ 512 := by rw [← hl]; exact Nat.le_trans (List.length_filter_le _ _) (by rw [List.length_range]; omega)
   rw [hl] at *
   cases hcb : conB G i
   ·rw [hcb] at HCI
    have HRF2 : Aside0 ((List.range (i + 1)).filter (conB G) = l) := ⟨by rw [hrf, hcb]; simp⟩
    clear hrf hcb hl
    go_wp2_with (first
     | (go_at_call 66; refine (CALL.out _ HX.out.below).mono ?_; rintro e w3 ⟨rfl, hb⟩; have HX3 := Aside0.mk (HX.out.low hb); clear hb)
     | (go_at_call 67; refine (HCI.out _ HX3.out.below).mono ?_; rintro e w4 ⟨rfl, hb⟩; have HX4 := Aside0.mk (HX3.out.low hb); clear hb))
    go_roundg gi'
    case measure => omega
    case rel => exact ⟨i + 1, _, by go_num, by omega, by omega, by omega, by rw [HRF2.out]; exact HX4⟩
   ·rw [hcb] at HCI
    have HRF2 : Aside0 ((List.range (i + 1)).filter (conB G) = l ++ [i]) := ⟨by rw [hrf, hcb]; simp⟩
    clear hrf hcb hl
    go_wp2_with (first
     | (go_at_call 66; refine (CALL.out _ HX.out.below).mono ?_; rintro e w3 ⟨rfl, hb⟩; have HX3 := Aside0.mk (HX.out.low hb); clear hb)
     | (go_at_call 67; refine (HCI.out _ HX3.out.below).mono ?_; rintro e w4 ⟨rfl, hb⟩; have HX4 := Aside0.mk (HX3.out.low hb); clear hb; have hc4 : w4.cell? ⟨sB, 2, none⟩ = some (.slice AS l.length cS) := (blk_cell HX4.out.blk 2).trans rfl)
     | (at_builtin; refine wpList_append_own_at _ rfl _ _ 22 rfl (w.heap.size + 1) 3 i3 (.int .i64 0) 1 8 Tryd.underlying22 hi3 hq0 hq1 hq2 rfl (by decide) (.slice AS l.length cS) l.length ((gi l).map (Value.int .i64)) rfl (HX4.out.own.alloc _) ⟨w4.heap.size, 0, none⟩ 1 1 [.int .i64 (i : Int)] rfl rfl (cell_one_new _ _ _) (by simp [Value.oneCell']) (by unfold maxLen; omega) (by omega) (by have := HX4.out.below.size; have := HSB.out; have := blk_lt HX4.out.blk; simp; omega) ?_; intro v8 w8 hown8 hg8 _ _; obtain ⟨g8, cap8, rfl⟩ := own_succ hown8; have hne8 : some sB ≠ (Value.slice AS l.length cS).ownBlock := (fun e => by have := own_base2 HX4.out.own sB e.symm; have := HSB.out; omega); have hb8 := blk_grown (blk_alloc HX4.out.blk _) hg8 hne8; have hc8 : w8.cell? ⟨sB, 2, none⟩ = some (.slice AS l.length cS) := (blk_cell hb8 2).trans rfl; have hf8 := blk_frozen hb8 2; have HX8 := Aside0.mk (HX4.out.push HSB.out hg8 hown8); clear hb8 hown8 hg8))
    go_roundg gi'
    case measure => omega
    case rel => exact ⟨i + 1, _, by go_num, by omega, by omega, by omega, by rw [HRF2.out]; exact HX8⟩
  ·have hj1 : ((i : Int) ≤ (A : Int)) = False := eq_false (by omega)
   have hj2 : decide ((i : Int) ≤ (A : Int)) = false := decide_eq_false (by omega)
   obtain rfl : i = A + 1 := by omega
   have hsets : (List.range (A + 1)).filter (conB G) = setsN G := by rw [← HA.out]; rfl
   rw [hsets] at HX
   have hsl : ∀ x ∈ setsN G, x < 2 ^ G.length := fun x hx => List.mem_range.1 (List.mem_filter.1 hx).1
   have HSL := Aside0.mk hsl
   have hll : (setsN G).length ≤ 512 := by rw [← hsets]; exact Nat.le_trans (List.length_filter_le _ _) (by rw [List.length_range]; omega)
   clear hsets hsl
   generalize setsN G = SS at *
   obtain ⟨AS, cS, rfl⟩ := ownsRow_form2 HX.out.own
   go_wp2_with ((go_at_call 66; refine (CALL.out _ HX.out.below).mono ?_; rintro e w3 ⟨rfl, hb⟩; have HX3 := Aside0.mk (HX.out.low hb); clear hb))
   have HLOW : Aside0 (∀ W, w3.grownBy W (some sB) → GL W ∧ Kd.C (Kd.int .i64) W A0 (gi G).length (gi G) ∧ Kd.C (Kd.int .i64) W A1 (gi P).length (gi P) ∧ Kd.C (Kd.int .i64) W AS (gi SS).length (gi SS)) := ⟨fun W hW => by
    have hB : Below w.heap.size w W := HX3.out.below.grown hW HX3.out.below.size (fun k e => by rw [← Option.some.inj e, HSB.out]; exact Nat.le_refl _)
    refine ⟨GL_below HGL.out hB, Kd.C_below HR0.out hB, Kd.C_below HR1.out hB, ?_⟩
    have ho := own_kept HX3.out.own hW (fun b hb e => by
     have := own_base2 HX3.out.own b hb
     have e2 : b = sB := Option.some.inj e
     have := HSB.out
     omega)
    rw [← gi_length SS] at ho
    exact (C_of_row ho).2⟩
   have hsB3 := blk_lt HX3.out.blk
   have HGROW : Aside0 (∀ W v (z : Nat), z ≤ 9 → SI w3 W sB (.slice A0 G.length c0) (.slice A1 P.length c1) (.slice AS SS.length cS) [] v → Calls Tryd.prog 92 #[.pointer (some ⟨sB, 0, none⟩), .int .i64 0, .int .i64 (z : Int)] W fun e w' => e = .returned (.bool (F z).isSome) ∧ ∃ v', SI w3 w' sB (.slice A0 G.length c0) (.slice A1 P.length c1) (.slice AS SS.length cS) ((F z).getD []) v') := ⟨fun W v z hz hV => by
    have := grow_calls sB w3 hsB3 A0 c0 G HG.out hc0 A1 c1 P hPl HP.out AS cS SS hll HSL.out HLOW.out P.length [] 0 z v W (by simp) (by simp) (by omega) hz hV
    rw [HFE.out z]
    exact this⟩
   have HS0 : Aside0 (SI w3 w3 sB (.slice A0 G.length c0) (.slice A1 P.length c1) (.slice AS SS.length cS) [] (.slice none 0 0)) := ⟨⟨HX3.out.blk, World.ownsRow_nil _ _ _ _, ⟨rfl, rfl, rfl, Nat.le_refl _, fun _ _ _ => rfl⟩⟩⟩
   have HFIN : Aside0 (∀ W, w3.grownBy W (some sB) → Below w.heap.size w W) := ⟨fun W hW => HX3.out.below.grown hW HX3.out.below.size (fun k e => by rw [← Option.some.inj e, HSB.out]; exact Nat.le_refl _)⟩
   have HB3 : Aside0 (w.heap.size ≤ w3.heap.size) := ⟨HX3.out.below.size⟩
   have HFL : Aside0 (∀ z Rr, F z = some Rr → 1 ≤ Rr.length) := ⟨fun z Rr h => by
    rw [HFE.out z] at h
    obtain ⟨Q, h1, h2, _⟩ := growN_some _ _ _ _ _ _ _ _ h
    rw [h2, List.nil_append]
    omega⟩
   clear HX CALL CCON HX3 HLOW HSL HALL HFE
   go_loopg [7] T (fun kq v7 w' => ∃ (z : Nat) (v3 : Value), v7 = .int .i64 (z : Int) ∧ z + kq = P.length + T ∧ P.length ≤ z ∧ Aside0 (((List.range' P.length T).drop (z - P.length)).findSome? F = R) ∧ Aside0 (SI w3 w' sB (.slice A0 G.length c0) (.slice A1 P.length c1) (.slice AS SS.length cS) [] v3))
   case atStart => exact ⟨P.length, _, rfl, by omega, by omega, by rw [Nat.sub_self]; exact HRF, HS0⟩
   case round =>
    clear HRF HS0
    obtain ⟨z, v3, rfl, hz, hz1, HA2, HS⟩ := hrel
    by_cases hzl : z ≤ G.length
    ·have hj1 : ((z : Int) ≤ (G.length : Int)) = True := eq_true (by omega)
     have hj2 : decide ((z : Int) ≤ (G.length : Int)) = true := decide_eq_true (by omega)
     cases gk with
     | zero => omega
     | succ gi' =>
     have ha := HA2.out
     have hkl : z - P.length < (List.range' P.length T).length := by rw [List.length_range']; omega
     rw [List.drop_eq_getElem_cons hkl, List.findSome?_cons, List.getElem_range', show P.length + 1 * (z - P.length) = z by omega, show z - P.length + 1 = z + 1 - P.length by omega] at ha
     clear hkl HA2
     have HG1 := Aside0.mk (HGROW.out · · z (by omega) ·)
     cases hfz : F z with
     | none =>
      rw [hfz] at HG1 ha
      have HA3 : Aside0 (((List.range' P.length T).drop (z + 1 - P.length)).findSome? F = R) := ⟨ha⟩
      clear ha hfz
      go_wp2_with ((go_at_call 92; refine (HG1.out _ _ HS.out).mono ?_; rintro e w5 ⟨rfl, v5, hS5⟩; have HS5 := Aside0.mk hS5; clear hS5))
      go_roundg gi'
      case measure => omega
      case rel => exact ⟨z + 1, v5, by go_num, by omega, by omega, HA3, HS5⟩
     | some Rr =>
      rw [hfz] at HG1 ha
      have hr2 : R = some Rr := ha.symm
      subst hr2
      have hl1 := HFL.out z Rr hfz
      clear ha hfz
      go_wp2_with ((go_at_call 92; refine (HG1.out _ _ HS.out).mono ?_; rintro e w5 ⟨rfl, v5, hS5⟩; have hS5b : SI w3 w5 sB (.slice A0 G.length c0) (.slice A1 P.length c1) (.slice AS SS.length cS) Rr v5 := hS5; obtain ⟨A5, c5, rfl⟩ := ownsRow_form2 hS5b.own; have hc5 : w5.cell? ⟨sB, 3, none⟩ = some (.slice A5 Rr.length c5) := (blk_cell hS5b.blk 3).trans rfl; have HS5 := Aside0.mk hS5b; clear hS5 hS5b))
      go_ret
      have ho := HS5.out.own
      refine ⟨_, rfl, ?_, .inr ⟨rfl, ?_⟩, HFIN.out _ HS5.out.grown⟩
      ·have h2 : w5.ownsRow w3.heap.size 3 1 (.slice A5 Rr.length c5) (gi Rr).length ((gi Rr).map (Value.int .i64)) := by rw [gi_length]; exact ho
       exact Kd.R_lower (Kd.R_of_own (ok := fun _ => True) h2 (fun _ _ => trivial)) HB3.out
      ·obtain ⟨k, hk⟩ : ∃ k, Rr.length = k + 1 := ⟨Rr.length - 1, by omega⟩
       rw [hk] at ho
       obtain ⟨g, c, e⟩ := own_succ ho
       rw [hk, e]
       exact ⟨_, _, _, rfl⟩
    ·have hj1 : ((z : Int) ≤ (G.length : Int)) = False := eq_false (by omega)
     have hj2 : decide ((z : Int) ≤ (G.length : Int)) = false := decide_eq_false (by omega)
     have ha := HA2.out
     rw [List.drop_eq_nil_of_le (by rw [List.length_range']; omega)] at ha
     have hr2 : R = none := ha.symm
     subst hr2
     clear ha HA2
     go_wp2
     go_ret
     exact ⟨_, rfl, Kd.R_nil _ _ _ _ _, rfl, HFIN.out _ HS.out.grown⟩
end Go.Proofs.YtjloppfdagfpmaaDoor.X
end
section
namespace Go.Proofs.YtjloppfdagfpmaaDoor.X
open Go.RowKit YtjloppfdagfpmaaDoorW.PrintWords YtjloppfdagfpmaaDoorW.PrintLast YtjloppfdagfpmaaDoorW.PrintMore
attribute [local go_sem] max2_int min2_int max_two min_two max_three min_three max_four min_four
noncomputable section
mutual
def minor_read.j0 : Nat → List Int → Int → Bool → Option (List Int × Bool)
 | 0, _, _, _ => none
 | k + 1, x0, x6, x18 => if x18 = true then (some (([] : List Int), false)) else (minor_read.l0 k x0 x6 x0 (x0.length : Int) 0)
def minor_read.l0 : Nat → List Int → Int → List Int → Int → Int → Option (List Int × Bool)
 | 0, _, _, _, _, _ => none
 | k + 1, x0, x6, x19, x20, x21 => if x21 < x20 then (if 0 ≤ x21 then (if x21 < (x19.length : Int) then (if (rd x19 x21) < 0 then (minor_read.j2 k x0 x6 x21 (rd x19 x21) x19 x20 x21 true) else (if 0 ≤ x6 then (if (rd x19 x21) ≥ (shl .i64 1 x6) then (minor_read.j2 k x0 x6 x21 (rd x19 x21) x19 x20 x21 true) else (minor_read.j2 k x0 x6 x21 (rd x19 x21) x19 x20 x21 ((Go.bits .and .i64 (shr .i64 (rd x19 x21) x21) 1) == 1))) else (none))) else (none)) else (none)) else (some (x0, true))
def minor_read.j2 : Nat → List Int → Int → Int → Int → List Int → Int → Int → Bool → Option (List Int × Bool)
 | 0, _, _, _, _, _, _, _, _ => none
 | k + 1, x0, x6, x7, x8, x19, x20, x21, x40 => if x40 = true then (some (([] : List Int), false)) else (minor_read.l1 k x0 x6 x7 x8 x19 x20 x21 x6 0)
def minor_read.l1 : Nat → List Int → Int → Int → Int → List Int → Int → Int → Int → Int → Option (List Int × Bool)
 | 0, _, _, _, _, _, _, _, _, _ => none
 | k + 1, x0, x6, x7, x8, x19, x20, x21, x41, x42 => if x42 < x41 then (if 0 ≤ x42 then (if x42 < (x0.length : Int) then (if 0 ≤ x7 then (if (Go.bits .and .i64 (shr .i64 x8 x42) 1) = (Go.bits .and .i64 (shr .i64 (rd x0 x42) x7) 1) then (minor_read.l1 k x0 x6 x7 x8 x19 x20 x21 x41 (wrap64 (x42 + 1))) else (some (([] : List Int), false))) else (none)) else (none)) else (none)) else (minor_read.l0 k x0 x6 x19 x20 (wrap64 (x21 + 1)))
end
def minor_read.f (k : Nat) (l0 : List Int) (a1 : Int) : Option (List Int × Bool) := if (l0.length : Int) < 1 then (minor_read.j0 k l0 (l0.length : Int) true) else (minor_read.j0 k l0 (l0.length : Int) (decide ((l0.length : Int) > a1)))
set_option maxHeartbeats 8000000 in
set_option maxRecDepth 100000 in
theorem minor_read.calls (k : Nat) (P0_ : Nat → Prop) (A0 : Option Addr) (c0 : Nat) (l0 : List Int) (a1 : Int) (r1 : List Int) (r2 : Bool) (w : World) (hs0 : Kd.V (Kd.int .i64) 3 w w.heap.size (fun k_ => P0_ k_) (.slice A0 l0.length c0) l0) (h : minor_read.f k l0 a1 = some (r1, r2)) :
  Calls Tryd.prog 63 #[.slice A0 l0.length c0, .int .i64 a1] w fun e w' => ∃ v0_ : Value, e = .returned (.tuple #[v0_, .bool r2]) ∧ Kd.V (Kd.int .i64) 3 w' w.heap.size (fun k_ => (P0_ k_ ∨ w.heap.size ≤ k_)) v0_ r1 ∧ Below w.heap.size w w' := by
 have HO0 := Aside0.mk (show Kd.V (Kd.int .i64) 3 w w.heap.size (fun k_ => (P0_ k_ ∨ w.heap.size ≤ k_)) (.slice A0 l0.length c0) l0 from Kd.V_mono hs0 (fun k_ hk => .inl hk))
 have HB := Aside0.mk (Below.refl w.heap.size w)
 have H : (if (l0.length : Int) < 1 then (minor_read.j0 k l0 (l0.length : Int) true) else (minor_read.j0 k l0 (l0.length : Int) (decide ((l0.length : Int) > a1)))) = some (r1, r2) := h
 clear h
 have HC3 := Aside0.mk H
 clear H
 go_enter Tryd.func63, Tryd.ntmps63
 go_upto_region 2 with (fail)
 repeat (go_quiet (fail); go_upto_region 2 with (fail))
 go_cut [18] (fun v18 wc => ∃ (kq : Nat) (x18_2 : Bool), v18 = .bool x18_2 ∧ Aside0 (minor_read.j0 kq l0 (l0.length : Int) x18_2 = some (r1, r2)) ∧ Aside0 (kq ≤ k) ∧ Aside0 (Kd.V (Kd.int .i64) 3 wc w.heap.size (fun k_ => (P0_ k_ ∨ w.heap.size ≤ k_)) (.slice A0 l0.length c0) l0) ∧ Aside0 (Below w.heap.size w wc))
 case first =>
  have H := HC3.out
  clear HC3
  by_cases c4 : (l0.length : Int) < 1
  ·rw [if_pos c4] at H
   have c4b0 : decide ((l0.length : Int) < 1) = true := decide_eq_true c4
   have c4b1 : decide (l0.length < 1) = true := decide_eq_true (by omega)
   clear c4
   (first | rw [c4b0] | (simp only [i64_w, i32_w]; rw [c4b0]) | skip)
   have H' := Aside0.mk H
   clear H
   go_wp2
   repeat (go_quiet (fail); try go_wp2)
   go_meet
   case rel => exact ⟨_, (true), (Qrs), H', ⟨by first | omega | exact Nat.le_refl _⟩, ⟨by (with_reducible repeat (first | apply Kd.V_alloc | apply Kd.V_drewN | apply Kd.V_drew)); exact HO0.out⟩, ⟨by repeat (first | (with_reducible first | exact HB.out | apply below_alloc | apply pw_below_drewN | apply below_drew1) | exact HB.out)⟩⟩
  ·rw [if_neg c4] at H
   have c4b0 : decide ((l0.length : Int) < 1) = false := decide_eq_false c4
   have c4b1 : decide (l0.length < 1) = false := decide_eq_false (by omega)
   clear c4
   (first | rw [c4b0] | (simp only [i64_w, i32_w]; rw [c4b0]) | skip)
   have H' := Aside0.mk H
   clear H
   go_wp2
   repeat (go_quiet (fail); try go_wp2)
   go_meet
   case rel => exact ⟨_, (decide ((l0.length : Int) > a1)), (Qrs), H', ⟨by first | omega | exact Nat.le_refl _⟩, ⟨by (with_reducible repeat (first | apply Kd.V_alloc | apply Kd.V_drewN | apply Kd.V_drew)); exact HO0.out⟩, ⟨by repeat (first | (with_reducible first | exact HB.out | apply below_alloc | apply pw_below_drewN | apply below_drew1) | exact HB.out)⟩⟩
 case rest =>
  clear HC3
  try clear p2
  try clear c4
  try clear c4b0
  try clear c4b1
  obtain ⟨kq, x18_2, rfl, HA, HJ2, HO_0, HB⟩ := hcut
  cases kq with
  | zero => exact absurd HA.out (by simp [minor_read.j0])
  | succ kj2 =>
   have H := HA.out
   clear HA
   simp only [minor_read.j0] at H
   by_cases c5 : x18_2 = true
   ·subst c5
    have H1 : (some (([] : List Int), false)) = some (r1, r2) := by rw [if_pos rfl] at H; exact H
    clear H
    have H := H1
    clear H1
    simp only [Option.some.injEq, Prod.mk.injEq] at H
    obtain ⟨rfl, rfl⟩ := H
    go_wp2
    repeat (go_quiet (fail); try go_wp2)
    go_ret2
    exact ⟨_, by first | rfl | (simp [errW_none, errW_some] <;> rfl) | (simp [*, errW_none, errW_some] <;> rfl), Kd.V_nil _ _ _ _ _, by repeat (first | (with_reducible first | exact HB.out | apply below_alloc | apply pw_below_drewN | apply below_drew1) | exact HB.out)⟩
   ·replace c5 := Bool.eq_false_iff.mpr c5
    subst c5
    have H1 : (minor_read.l0 kj2 l0 (l0.length : Int) l0 (l0.length : Int) 0) = some (r1, r2) := by rw [if_neg (show ¬ (false = true) by decide)] at H; exact H
    clear H
    have H := H1
    clear H1
    have H' := Aside0.mk H
    clear H
    go_wp2
    repeat (go_quiet (fail); try go_wp2)
    go_loopg [21] kj2 (fun kq v21 w' => ∃ (x21_2 : Int), v21 = .int .i64 x21_2 ∧ Aside0 (minor_read.l0 kq l0 (l0.length : Int) l0 (l0.length : Int) x21_2 = some (r1, r2)) ∧ Aside0 (kq ≤ kj2) ∧ Aside0 (Kd.V (Kd.int .i64) 3 w' w.heap.size (fun k_ => (P0_ k_ ∨ w.heap.size ≤ k_)) (.slice A0 l0.length c0) l0) ∧ Aside0 (Kd.V (Kd.int .i64) 3 w' w.heap.size (fun k_ => (P0_ k_ ∨ w.heap.size ≤ k_)) (.slice A0 l0.length c0) l0) ∧ Aside0 (Below w.heap.size w w'))
    case atStart => exact ⟨(0), (Qrs), H', ⟨Nat.le_refl _⟩, ⟨by (with_reducible repeat (first | apply Kd.V_alloc | apply Kd.V_drewN | apply Kd.V_drew)); exact HO_0.out⟩, ⟨by (with_reducible repeat (first | apply Kd.V_alloc | apply Kd.V_drewN | apply Kd.V_drew)); exact HO_0.out⟩, ⟨by repeat (first | (with_reducible first | exact HB.out | apply below_alloc | apply pw_below_drewN | apply below_drew1) | exact HB.out)⟩⟩
    case round =>
     clear H'
     try clear p2
     try clear c4
     try clear c4b0
     try clear c4b1
     try clear c5
     try clear p2
     obtain ⟨x21_2, rfl, HA, HK2, HO_0, HO_19, HB⟩ := hrel
     cases gk with
     | zero => exact absurd HA.out (by simp [minor_read.l0])
     | succ k2 =>
      have H := HA.out
      clear HA
      simp only [minor_read.l0] at H
      by_cases c6 : x21_2 < (l0.length : Int)
      ·rw [if_pos c6] at H
       have c6b0 : decide (x21_2 < (l0.length : Int)) = true := decide_eq_true c6
       clear c6
       by_cases c7 : 0 ≤ x21_2
       ·rw [if_pos c7] at H
        have c7b0 : decide (0 ≤ x21_2) = true := decide_eq_true c7
        clear c7
        by_cases c8 : x21_2 < (l0.length : Int)
        ·rw [if_pos c8] at H
         have c8b0 : decide (x21_2 < (l0.length : Int)) = true := decide_eq_true c8
         clear c8
         have HC9 := Aside0.mk H
         clear H
         have p104 : 0 ≤ (x21_2 : Int) := of_decide_eq_true (Qas)
         have q104 : x21_2 < (l0.length : Int) := of_decide_eq_true (Qas)
         obtain ⟨ad104, e104, hx104_0⟩ := Kd.at_int (Kd.V_reads' HO_19.out).2.2 x21_2 p104 q104
         cases e104
         replace p104 := eq_true p104
         replace q104 := eq_true q104
         go_upto_region 7 with (fail)
         repeat (go_quiet (fail); go_upto_region 7 with (fail))
         go_cut [40] (fun v40 wc => ∃ (kq : Nat) (x40_8 : Bool), v40 = .bool x40_8 ∧ Aside0 (minor_read.j2 kq l0 (l0.length : Int) x21_2 (rd l0 x21_2) l0 (l0.length : Int) x21_2 x40_8 = some (r1, r2)) ∧ Aside0 (kq ≤ k2) ∧ Aside0 (Kd.V (Kd.int .i64) 3 wc w.heap.size (fun k_ => (P0_ k_ ∨ w.heap.size ≤ k_)) (.slice (some ad104) l0.length c0) l0) ∧ Aside0 (Kd.V (Kd.int .i64) 3 wc w.heap.size (fun k_ => (P0_ k_ ∨ w.heap.size ≤ k_)) (.slice (some ad104) l0.length c0) l0) ∧ Aside0 (Below w.heap.size w wc))
         case first =>
          have H := HC9.out
          clear HC9
          by_cases c10 : (rd l0 x21_2) < 0
          ·rw [if_pos c10] at H
           have c10b0 : decide ((rd l0 x21_2) < 0) = true := decide_eq_true c10
           clear c10
           (first | rw [c10b0] | (simp only [i64_w, i32_w]; rw [c10b0]) | skip)
           have H' := Aside0.mk H
           clear H
           go_wp2
           repeat (go_quiet (fail); try go_wp2)
           go_meet
           case rel => exact ⟨_, (true), (Qrs), H', ⟨by have := HJ2.out; have := HK2.out; first | omega | exact Nat.le_refl _⟩, ⟨by (with_reducible repeat (first | apply Kd.V_alloc | apply Kd.V_drewN | apply Kd.V_drew)); exact HO_0.out⟩, ⟨by (with_reducible repeat (first | apply Kd.V_alloc | apply Kd.V_drewN | apply Kd.V_drew)); exact HO_19.out⟩, ⟨by repeat (first | (with_reducible first | exact HB.out | apply below_alloc | apply pw_below_drewN | apply below_drew1) | exact HB.out)⟩⟩
          ·rw [if_neg c10] at H
           have c10b0 : decide ((rd l0 x21_2) < 0) = false := decide_eq_false c10
           clear c10
           (first | rw [c10b0] | (simp only [i64_w, i32_w]; rw [c10b0]) | skip)
           by_cases c11 : 0 ≤ (l0.length : Int)
           ·rw [if_pos c11] at H
            have c11b0 := eq_true c11
            have c11b1 : decide (0 ≤ (l0.length : Int)) = true := decide_eq_true c11
            clear c11
            obtain ⟨ji12, hji12⟩ : ∃ j_ : Int, (shl .i64 1 (l0.length : Int)) = j_ := ⟨_, rfl⟩
            replace H : (if (rd l0 x21_2) ≥ (ji12) then (minor_read.j2 k2 l0 (l0.length : Int) x21_2 (rd l0 x21_2) l0 (l0.length : Int) x21_2 true) else (minor_read.j2 k2 l0 (l0.length : Int) x21_2 (rd l0 x21_2) l0 (l0.length : Int) x21_2 ((Go.bits .and .i64 (shr .i64 (rd l0 x21_2) x21_2) 1) == 1))) = some (r1, r2) := by first | (rw [hji12] at H; exact H) | (simp only [hji12] at H ⊢; exact H)
            have hji12_ : (IntKind.i64.wrap (1 * 2 ^ min (l0.length : Int).toNat 64)) = ji12 := hji12
            have hji12z : (l0.length : Int) ≤ 64 → (IntKind.i64.wrap (1 * 2 ^ (l0.length : Int).toNat)) = ji12 := shl_small hji12
            have hji12p : (IntKind.i64.wrap (1 * 2 ^ min l0.length 64)) = ji12 := hji12_
            have hji12q : (l0.length : Int) ≤ 64 → (IntKind.i64.wrap (1 * 2 ^ l0.length)) = ji12 := hji12z
            have hji12r : (IntKind.i64.wrap (2 ^ min l0.length 64)) = ji12 := by have h_ := hji12p; rw [Int.one_mul] at h_; exact h_
            have hji12s : (l0.length : Int) ≤ 64 → (IntKind.i64.wrap (2 ^ l0.length)) = ji12 := fun hle_ => by have h_ := hji12q hle_; rw [Int.one_mul] at h_; exact h_
            have hji12u : (IntKind.i64.wrap (2 ^ min (l0.length : Int).toNat 64)) = ji12 := by have h_ := hji12_; rw [Int.one_mul] at h_; exact h_
            have hji12v : (l0.length : Int) ≤ 64 → (IntKind.i64.wrap (2 ^ (l0.length : Int).toNat)) = ji12 := fun hle_ => by have h_ := hji12z hle_; rw [Int.one_mul] at h_; exact h_
            have hji12y : (wrap64 (1 * 2 ^ min (l0.length : Int).toNat 64)) = ji12 := (i64_w _).symm.trans hji12_
            have hji12x : (l0.length : Int) ≤ 64 → (wrap64 (1 * 2 ^ (l0.length : Int).toNat)) = ji12 := fun h_ => (i64_w _).symm.trans (hji12z h_)
            by_cases c13 : (rd l0 x21_2) ≥ (ji12)
            ·rw [if_pos c13] at H
             have c13b0 : decide ((ji12) ≤ (rd l0 x21_2)) = true := decide_eq_true c13
             clear c13
             have H' := Aside0.mk H
             clear H
             go_wp2
             repeat (go_quiet (fail); try go_wp2)
             go_meet
             case rel => exact ⟨_, (true), (Qrs), H', ⟨by have := HJ2.out; have := HK2.out; first | omega | exact Nat.le_refl _⟩, ⟨by (with_reducible repeat (first | apply Kd.V_alloc | apply Kd.V_drewN | apply Kd.V_drew)); exact HO_0.out⟩, ⟨by (with_reducible repeat (first | apply Kd.V_alloc | apply Kd.V_drewN | apply Kd.V_drew)); exact HO_19.out⟩, ⟨by repeat (first | (with_reducible first | exact HB.out | apply below_alloc | apply pw_below_drewN | apply below_drew1) | exact HB.out)⟩⟩
            ·rw [if_neg c13] at H
             have c13b0 : decide ((ji12) ≤ (rd l0 x21_2)) = false := decide_eq_false c13
             clear c13
             have c14b0 := eq_true (of_decide_eq_true (Qas) : 0 ≤ x21_2)
             obtain ⟨ji15, hji15⟩ : ∃ j_ : Int, (shr .i64 (rd l0 x21_2) x21_2) = j_ := ⟨_, rfl⟩
             replace H : (minor_read.j2 k2 l0 (l0.length : Int) x21_2 (rd l0 x21_2) l0 (l0.length : Int) x21_2 ((Go.bits .and .i64 (ji15) 1) == 1)) = some (r1, r2) := by first | (rw [hji15] at H; exact H) | (simp only [hji15] at H ⊢; exact H)
             have hji15_ : ((rd l0 x21_2) / 2 ^ min x21_2.toNat 64) = ji15 := hji15
             have hji15z : x21_2 ≤ 64 → ((rd l0 x21_2) / 2 ^ x21_2.toNat) = ji15 := shr_small hji15
             have H' := Aside0.mk H
             clear H
             go_wp2
             repeat (go_quiet (fail); try go_wp2)
             go_meet
             case rel => exact ⟨_, (((Go.bits .and .i64 (ji15) 1) == 1)), (by first | rfl | (simp; done) | (simp only [← hji15] <;> (first | rfl | simp)) | (simp [*]; done)), H', ⟨by have := HJ2.out; have := HK2.out; first | omega | exact Nat.le_refl _⟩, ⟨by (with_reducible repeat (first | apply Kd.V_alloc | apply Kd.V_drewN | apply Kd.V_drew)); exact HO_0.out⟩, ⟨by (with_reducible repeat (first | apply Kd.V_alloc | apply Kd.V_drewN | apply Kd.V_drew)); exact HO_19.out⟩, ⟨by repeat (first | (with_reducible first | exact HB.out | apply below_alloc | apply pw_below_drewN | apply below_drew1) | exact HB.out)⟩⟩
           ·rw [if_neg c11] at H
            exact absurd H (by simp)
         case rest =>
          clear HC9
          try clear c1
          try clear p1
          try clear q1
          try clear hx1
          try clear p2
          try clear c4
          try clear c4b0
          try clear c4b1
          try clear c5
          try clear c6
          try clear c6b0
          try clear p6
          try clear c7
          try clear c7b0
          try clear c8
          try clear c8b0
          try clear c10
          try clear c10b0
          try clear p10
          try clear q10
          try clear hx10
          try clear c11
          try clear c11b0
          try clear c11b1
          try clear c13
          try clear c13b0
          try clear c14
          try clear c14b0
          try clear hx104_0
          try clear p104
          try clear p2
          try clear q104
          obtain ⟨kq, x40_8, rfl, HA, HJ8, HO_0, HO_19, HB⟩ := hcut
          cases kq with
          | zero => exact absurd HA.out (by simp [minor_read.j2])
          | succ kj8 =>
           have H := HA.out
           clear HA
           simp only [minor_read.j2] at H
           by_cases c16 : x40_8 = true
           ·subst c16
            have H1 : (some (([] : List Int), false)) = some (r1, r2) := by rw [if_pos rfl] at H; exact H
            clear H
            have H := H1
            clear H1
            simp only [Option.some.injEq, Prod.mk.injEq] at H
            obtain ⟨rfl, rfl⟩ := H
            go_wp2
            repeat (go_quiet (fail); try go_wp2)
            go_ret2
            exact ⟨_, by first | rfl | (simp [errW_none, errW_some] <;> rfl) | (simp [*, errW_none, errW_some] <;> rfl), Kd.V_nil _ _ _ _ _, by repeat (first | (with_reducible first | exact HB.out | apply below_alloc | apply pw_below_drewN | apply below_drew1) | exact HB.out)⟩
           ·replace c16 := Bool.eq_false_iff.mpr c16
            subst c16
            have H1 : (minor_read.l1 kj8 l0 (l0.length : Int) x21_2 (rd l0 x21_2) l0 (l0.length : Int) x21_2 (l0.length : Int) 0) = some (r1, r2) := by rw [if_neg (show ¬ (false = true) by decide)] at H; exact H
            clear H
            have H := H1
            clear H1
            have H' := Aside0.mk H
            clear H
            go_wp2
            repeat (go_quiet (fail); try go_wp2)
            go_loopg [42] kj8 (fun kq v42 w' => ∃ (x42_4 : Int), v42 = .int .i64 x42_4 ∧ Aside0 (minor_read.l1 kq l0 (l0.length : Int) x21_2 (rd l0 x21_2) l0 (l0.length : Int) x21_2 (l0.length : Int) x42_4 = some (r1, r2)) ∧ Aside0 (kq ≤ kj8) ∧ Aside0 (Kd.V (Kd.int .i64) 3 w' w.heap.size (fun k_ => (P0_ k_ ∨ w.heap.size ≤ k_)) (.slice (some ad104) l0.length c0) l0) ∧ Aside0 (Kd.V (Kd.int .i64) 3 w' w.heap.size (fun k_ => (P0_ k_ ∨ w.heap.size ≤ k_)) (.slice (some ad104) l0.length c0) l0) ∧ Aside0 (Below w.heap.size w w'))
            case atStart => exact ⟨(0), (Qrs), H', ⟨Nat.le_refl _⟩, ⟨by (with_reducible repeat (first | apply Kd.V_alloc | apply Kd.V_drewN | apply Kd.V_drew)); exact HO_0.out⟩, ⟨by (with_reducible repeat (first | apply Kd.V_alloc | apply Kd.V_drewN | apply Kd.V_drew)); exact HO_19.out⟩, ⟨by repeat (first | (with_reducible first | exact HB.out | apply below_alloc | apply pw_below_drewN | apply below_drew1) | exact HB.out)⟩⟩
            case round =>
             clear H'
             try clear c1
             try clear p1
             try clear q1
             try clear hx1
             try clear p2
             try clear c4
             try clear c4b0
             try clear c4b1
             try clear c5
             try clear c6
             try clear c6b0
             try clear p6
             try clear c7
             try clear c7b0
             try clear c8
             try clear c8b0
             try clear c10
             try clear c10b0
             try clear p10
             try clear q10
             try clear hx10
             try clear c11
             try clear c11b0
             try clear c11b1
             try clear c13
             try clear c13b0
             try clear c14
             try clear c14b0
             try clear c16
             try clear hx104_0
             try clear p1
             try clear p10
             try clear p104
             try clear p2
             try clear p6
             try clear q1
             try clear q10
             try clear q104
             obtain ⟨x42_4, rfl, HA, HK4, HO_0, HO_19, HB⟩ := hrel
             cases gk with
             | zero => exact absurd HA.out (by simp [minor_read.l1])
             | succ k4 =>
              have H := HA.out
              clear HA
              simp only [minor_read.l1] at H
              by_cases c17 : x42_4 < (l0.length : Int)
              ·rw [if_pos c17] at H
               have c17b0 : decide (x42_4 < (l0.length : Int)) = true := decide_eq_true c17
               clear c17
               by_cases c18 : 0 ≤ x42_4
               ·rw [if_pos c18] at H
                have c18b0 := eq_true c18
                have c18b1 : decide (0 ≤ x42_4) = true := decide_eq_true c18
                clear c18
                obtain ⟨ji19, hji19⟩ : ∃ j_ : Int, (shr .i64 (rd l0 x21_2) x42_4) = j_ := ⟨_, rfl⟩
                replace H : (if x42_4 < (l0.length : Int) then (if 0 ≤ x21_2 then (if (Go.bits .and .i64 (ji19) 1) = (Go.bits .and .i64 (shr .i64 (rd l0 x42_4) x21_2) 1) then (minor_read.l1 k4 l0 (l0.length : Int) x21_2 (rd l0 x21_2) l0 (l0.length : Int) x21_2 (l0.length : Int) (wrap64 (x42_4 + 1))) else (some (([] : List Int), false))) else (none)) else (none)) = some (r1, r2) := by first | (rw [hji19] at H; exact H) | (simp only [hji19] at H ⊢; exact H)
                have hji19_ : ((rd l0 x21_2) / 2 ^ min x42_4.toNat 64) = ji19 := hji19
                have hji19z : x42_4 ≤ 64 → ((rd l0 x21_2) / 2 ^ x42_4.toNat) = ji19 := shr_small hji19
                by_cases c20 : x42_4 < (l0.length : Int)
                ·rw [if_pos c20] at H
                 have c20b0 : decide (x42_4 < (l0.length : Int)) = true := decide_eq_true c20
                 clear c20
                 by_cases c21 : 0 ≤ x21_2
                 ·rw [if_pos c21] at H
                  have c21b0 := eq_true c21
                  have c21b1 : decide (0 ≤ x21_2) = true := decide_eq_true c21
                  clear c21
                  obtain ⟨ji22, hji22⟩ : ∃ j_ : Int, (shr .i64 (rd l0 x42_4) x21_2) = j_ := ⟨_, rfl⟩
                  replace H : (if (Go.bits .and .i64 (ji19) 1) = (Go.bits .and .i64 (ji22) 1) then (minor_read.l1 k4 l0 (l0.length : Int) x21_2 (rd l0 x21_2) l0 (l0.length : Int) x21_2 (l0.length : Int) (wrap64 (x42_4 + 1))) else (some (([] : List Int), false))) = some (r1, r2) := by first | (rw [hji22] at H; exact H) | (simp only [hji22] at H ⊢; exact H)
                  have hji22_ : ((rd l0 x42_4) / 2 ^ min x21_2.toNat 64) = ji22 := hji22
                  have hji22z : x21_2 ≤ 64 → ((rd l0 x42_4) / 2 ^ x21_2.toNat) = ji22 := shr_small hji22
                  by_cases c23 : (Go.bits .and .i64 (ji19) 1) = (Go.bits .and .i64 (ji22) 1)
                  ·rw [if_pos c23] at H
                   have c23b0 : ((Go.bits .and .i64 (ji19) 1) == (Go.bits .and .i64 (ji22) 1)) = true := beq_iff_eq.mpr c23
                   have c23b1 : ((Go.bits .and .i64 (ji19) 1) != (Go.bits .and .i64 (ji22) 1)) = false := bne_eq_false_iff_eq.mpr c23
                   clear c23
                   have H' := Aside0.mk H
                   clear H
                   have p105 : 0 ≤ (x42_4 : Int) := of_decide_eq_true (Qas)
                   have q105 : x42_4 < (l0.length : Int) := of_decide_eq_true (Qas)
                   obtain ⟨ad105, e105, hx105_0⟩ := Kd.at_int (Kd.V_reads' HO_0.out).2.2 x42_4 p105 q105
                   obtain rfl : ad104 = ad105 := (by injection e105)
                   replace p105 := eq_true p105
                   replace q105 := eq_true q105
                   go_wp2
                   repeat (go_quiet (fail); try go_wp2)
                   go_roundg k4
                   case measure => have := HJ2.out; have := HK2.out; have := HJ8.out; have := HK4.out; omega
                   case rel => exact ⟨(wrap64 (x42_4 + 1)), (Qrs), H', ⟨by have := HJ2.out; have := HK2.out; have := HJ8.out; have := HK4.out; omega⟩, ⟨by (with_reducible repeat (first | apply Kd.V_alloc | apply Kd.V_drewN | apply Kd.V_drew)); exact HO_0.out⟩, ⟨by (with_reducible repeat (first | apply Kd.V_alloc | apply Kd.V_drewN | apply Kd.V_drew)); exact HO_19.out⟩, ⟨by repeat (first | (with_reducible first | exact HB.out | apply below_alloc | apply pw_below_drewN | apply below_drew1) | exact HB.out)⟩⟩
                  ·rw [if_neg c23] at H
                   have c23b0 : ((Go.bits .and .i64 (ji19) 1) == (Go.bits .and .i64 (ji22) 1)) = false := beq_eq_false_iff_ne.mpr c23
                   have c23b1 : ((Go.bits .and .i64 (ji19) 1) != (Go.bits .and .i64 (ji22) 1)) = true := bne_iff_ne.mpr c23
                   simp only [Option.some.injEq, Prod.mk.injEq] at H
                   obtain ⟨rfl, rfl⟩ := H
                   have p105 : 0 ≤ (x42_4 : Int) := of_decide_eq_true (Qas)
                   have q105 : x42_4 < (l0.length : Int) := of_decide_eq_true (Qas)
                   obtain ⟨ad105, e105, hx105_0⟩ := Kd.at_int (Kd.V_reads' HO_0.out).2.2 x42_4 p105 q105
                   obtain rfl : ad104 = ad105 := (by injection e105)
                   replace p105 := eq_true p105
                   replace q105 := eq_true q105
                   go_wp2
                   repeat (go_quiet (fail); try go_wp2)
                   go_ret2
                   exact ⟨_, by first | rfl | (simp [errW_none, errW_some] <;> rfl) | (simp only [← hji19, ← hji22]; first | rfl | (simp [errW_none, errW_some] <;> rfl)) | (simp [*, errW_none, errW_some] <;> rfl), Kd.V_nil _ _ _ _ _, by repeat (first | (with_reducible first | exact HB.out | apply below_alloc | apply pw_below_drewN | apply below_drew1) | exact HB.out)⟩
                 ·rw [if_neg c21] at H
                  exact absurd H (by simp)
                ·rw [if_neg c20] at H
                 exact absurd H (by simp)
               ·rw [if_neg c18] at H
                exact absurd H (by simp)
              ·rw [if_neg c17] at H
               have c17b0 : decide (x42_4 < (l0.length : Int)) = false := decide_eq_false c17
               clear c17
               have H' := Aside0.mk H
               clear H
               go_wp2
               repeat (go_quiet (fail); try go_wp2)
               go_roundg k4
               case measure => have := HJ2.out; have := HK2.out; have := HJ8.out; have := HK4.out; omega
               case rel => exact ⟨(wrap64 (x21_2 + 1)), (Qrs), H', ⟨by have := HJ2.out; have := HK2.out; have := HJ8.out; have := HK4.out; omega⟩, ⟨by (with_reducible repeat (first | apply Kd.V_alloc | apply Kd.V_drewN | apply Kd.V_drew)); exact HO_0.out⟩, ⟨by (with_reducible repeat (first | apply Kd.V_alloc | apply Kd.V_drewN | apply Kd.V_drew)); exact HO_19.out⟩, ⟨by repeat (first | (with_reducible first | exact HB.out | apply below_alloc | apply pw_below_drewN | apply below_drew1) | exact HB.out)⟩⟩
        ·rw [if_neg c8] at H
         exact absurd H (by simp)
       ·rw [if_neg c7] at H
        exact absurd H (by simp)
      ·rw [if_neg c6] at H
       have c6b0 : decide (x21_2 < (l0.length : Int)) = false := decide_eq_false c6
       clear c6
       simp only [Option.some.injEq, Prod.mk.injEq] at H
       obtain ⟨rfl, rfl⟩ := H
       go_wp2
       repeat (go_quiet (fail); try go_wp2)
       go_ret2
       exact ⟨_, by first | rfl | (simp [errW_none, errW_some] <;> rfl) | (simp [*, errW_none, errW_some] <;> rfl), by (with_reducible repeat (first | apply Kd.V_alloc | apply Kd.V_drewN | apply Kd.V_drew)); exact HO_0.out, by repeat (first | (with_reducible first | exact HB.out | apply below_alloc | apply pw_below_drewN | apply below_drew1) | exact HB.out)⟩
end
end Go.Proofs.YtjloppfdagfpmaaDoor.X
end
section
namespace Go.Proofs.YtjloppfdagfpmaaDoor.X
open Go.RowKit YtjloppfdagfpmaaDoorW.PrintWords YtjloppfdagfpmaaDoorW.PrintLast YtjloppfdagfpmaaDoorW.PrintMore YtjloppfdagfpmaaDoor.T
theorem read_l1 (g : List Int) (hn : g.length ≤ 9) (i : Nat) (hi : i < g.length) (r : List Int × Bool)
  (hrest : Ev (fun k => minor_read.l0 k g (g.length : Int) g (g.length : Int) ((i + 1 : Nat) : Int)) r) :
  ∀ d j, j + d = g.length → Ev (fun k => minor_read.l1 k g (g.length : Int) (i : Int) (rd g (i : Int)) g (g.length : Int) (i : Int) (g.length : Int) (j : Int))
   (cond (allFrom (fun j => decide (ibit (rd g (i : Int)) j = ibit (rd g (j : Int)) i)) g.length d j) r (([] : List Int), false)) := by
 intro d
 induction d with
 | zero =>
  intro j hj
  refine Ev.step (fun k => ?_) hrest
  rw [minor_read.l1, if_neg (by omega), wrap_succ i (by omega)]
 | succ d ih =>
  intro j hj
  simp only [allFrom]
  by_cases hb : ibit (rd g (i : Int)) j = ibit (rd g (j : Int)) i
  ·refine Ev.step (f := fun k => minor_read.l1 k g (g.length : Int) (i : Int) (rd g (i : Int)) g (g.length : Int) (i : Int) (g.length : Int) ((j + 1 : Nat) : Int)) (fun k => ?_) ?_
   ·rw [minor_read.l1, if_pos (by omega), if_pos (by omega), if_pos (by omega), if_pos (by omega), wrap_succ j (by omega)]
    exact if_pos hb
   ·have := ih (j + 1) (by omega)
    simpa [hb] using this
  ·refine Ev.step (f := fun _ => some (([] : List Int), false)) (fun k => ?_) (Ev.some (by simp [hb]))
   rw [minor_read.l1, if_pos (by omega), if_pos (by omega), if_pos (by omega), if_pos (by omega)]
   exact if_neg hb
theorem read_l0 (g : List Int) (hn : g.length ≤ 9) :
  ∀ d i, i + d = g.length → Ev (fun k => minor_read.l0 k g (g.length : Int) g (g.length : Int) (i : Int)) (cond (allFrom (rowOk g) g.length d i) (g, true) (([] : List Int), false)) := by
 intro d
 induction d with
 | zero =>
  intro i hi
  refine Ev.step (f := fun _ => some (g, true)) (fun k => ?_) (Ev.some (by simp [allFrom]))
  rw [minor_read.l0, if_neg (by omega)]
 | succ d ih =>
  intro i hi
  have stop : ∀ k, minor_read.j2 (k + 1) g (g.length : Int) (i : Int) (rd g (i : Int)) g (g.length : Int) (i : Int) true = some (([] : List Int), false) := fun k => by
   rw [minor_read.j2, if_pos rfl]
  simp only [allFrom, rowOk]
  by_cases h1 : rd g (i : Int) < 0
  ·refine Ev.step (fun k => ?_) (f := fun k => minor_read.j2 k g (g.length : Int) (i : Int) (rd g (i : Int)) g (g.length : Int) (i : Int) true) ?_
   ·rw [minor_read.l0, if_pos (by omega), if_pos (by omega), if_pos (by omega), if_pos h1]
   ·exact Ev.step stop (Ev.some (by simp [h1]))
  ·by_cases h2 : rd g (i : Int) ≥ shl .i64 1 (g.length : Int)
   ·refine Ev.step (fun k => ?_) (f := fun k => minor_read.j2 k g (g.length : Int) (i : Int) (rd g (i : Int)) g (g.length : Int) (i : Int) true) ?_
    ·rw [minor_read.l0, if_pos (by omega), if_pos (by omega), if_pos (by omega), if_neg h1, if_pos (by omega), if_pos h2]
    ·exact Ev.step stop (Ev.some (by simp [h2]))
   ·refine Ev.step (fun k => ?_) (f := fun k => minor_read.j2 k g (g.length : Int) (i : Int) (rd g (i : Int)) g (g.length : Int) (i : Int) (ibit (rd g (i : Int)) i == 1)) ?_
    ·rw [minor_read.l0, if_pos (by omega), if_pos (by omega), if_pos (by omega), if_neg h1, if_pos (by omega), if_neg h2]
     rfl
    ·by_cases h3 : (ibit (rd g (i : Int)) i == 1) = true
     ·simp only [h3]
      exact Ev.step stop (Ev.some (by simp))
     ·refine Ev.step (fun k => by rw [minor_read.j2, if_neg h3]) ?_
      have := read_l1 g hn i (by omega) _ (ih (i + 1) (by omega)) g.length 0 (by omega)
      have h3' : (ibit (rd g (i : Int)) i == 1) = false := by simpa using h3
      simp only [h1, h2, h3', decide_false, Bool.not_false, Bool.true_and]
      cases h4 : allFrom (fun j => decide (ibit (rd g (i : Int)) j = ibit (rd g (j : Int)) i)) g.length g.length 0
      ·simpa [h4] using this
      ·simpa [h4] using this
theorem read_ev (m : Nat) (hm : m ≤ 9) (g : List Int) (hg : g.length < 2 ^ 60) : Ev (fun k => minor_read.f k g (m : Int)) (cond (chk m g) (g, true) (([] : List Int), false)) := by
 have stop : ∀ k, minor_read.j0 (k + 1) g (g.length : Int) true = some (([] : List Int), false) := fun k => by
  rw [minor_read.j0, if_pos rfl]
 by_cases h1 : g.length < 1
 ·refine Ev.congr (f := fun k => minor_read.j0 k g (g.length : Int) true) (fun k => ?_) (Ev.step stop (Ev.some ?_))
  ·rw [minor_read.f, if_pos (by omega)]
  ·have : ¬ 1 ≤ g.length := by omega
   simp [chk, this]
 ·refine Ev.congr (f := fun k => minor_read.j0 k g (g.length : Int) (decide ((g.length : Int) > (m : Int)))) (fun k => ?_) ?_
  ·rw [minor_read.f, if_neg (by omega)]
  ·by_cases h2 : g.length ≤ m
   ·have e : decide ((g.length : Int) > (m : Int)) = false := decide_eq_false (by omega)
    rw [e]
    refine Ev.step (fun k => by rw [minor_read.j0, if_neg (by simp)]) ?_
    have := read_l0 g (by omega) g.length 0 (by omega)
    have h3 : decide (1 ≤ g.length) = true := decide_eq_true (by omega)
    simpa [chk, h2, h3] using this
   ·have e : decide ((g.length : Int) > (m : Int)) = true := decide_eq_true (by omega)
    rw [e]
    refine Ev.step stop (Ev.some ?_)
    simp [chk, h2]
theorem gi_toNat (G : List Nat) : (gi G).map Int.toNat = G := by
 unfold gi
 rw [List.map_map]
 exact (List.map_congr_left (fun x _ => Int.toNat_natCast x)).trans (List.map_id _)
theorem read_yes (m : Nat) (hm : m ≤ 9) {G : List Nat} (hG : Gr m G) (A0 : Option Addr) (c0 : Nat) (w : World) (hr0 : Kd.C (Kd.int .i64) w A0 (gi G).length (gi G)) (hc0 : G.length ≤ c0) :
  Calls Tryd.prog 63 #[.slice A0 G.length c0, .int .i64 (m : Int)] w fun e w' => ∃ A1 c1, e = .returned (.tuple #[.slice A1 G.length c1, .bool true]) ∧ G.length ≤ c1 ∧ Kd.C (Kd.int .i64) w' A1 (gi G).length (gi G) ∧ Below w.heap.size w w' := by
 obtain ⟨K, hK⟩ := read_ev m hm (gi G) (by rw [gi_length]; have := hG.most; omega)
 have hk := hK K (Nat.le_refl _)
 rw [(chk_iff m (by omega) _).2 ⟨G, rfl, hG⟩] at hk
 have hl := gi_length G
 have := minor_read.calls K (fun k_ => k_ < w.heap.size) A0 c0 (gi G) (m : Int) (gi G) true w (Kd.V_mk (by rw [hl]; exact hc0) (Kd.F_below (Kd.C_F (Kd.heap_int .i64) hr0) (Below.refl _ _))) hk
 rw [hl] at this
 refine this.mono ?_
 rintro e w' ⟨v, rfl, hv, hb⟩
 obtain ⟨A1, c1, rfl⟩ := Kd.V_slice hv
 have h2 := Kd.V_reads' hv
 rw [hl] at *
 exact ⟨A1, c1, rfl, h2.2.1, h2.2.2, hb⟩
theorem read_no (m : Nat) (hm : m ≤ 9) {g : List Int} (hl : g.length < 2 ^ 60) (hg : chk m g = false) (A0 : Option Addr) (c0 : Nat) (w : World) (hr0 : Kd.C (Kd.int .i64) w A0 g.length g) (hc0 : g.length ≤ c0) :
  Calls Tryd.prog 63 #[.slice A0 g.length c0, .int .i64 (m : Int)] w fun e w' => ∃ v, e = .returned (.tuple #[v, .bool false]) ∧ Below w.heap.size w w' := by
 obtain ⟨K, hK⟩ := read_ev m hm g hl
 have hk := hK K (Nat.le_refl _)
 rw [hg] at hk
 refine (minor_read.calls K (fun k_ => k_ < w.heap.size) A0 c0 g (m : Int) [] false w (Kd.V_mk hc0 (Kd.F_below (Kd.C_F (Kd.heap_int .i64) hr0) (Below.refl _ _))) hk).mono ?_
 rintro e w' ⟨v, rfl, hv, hb⟩
 exact ⟨v, rfl, hb⟩
theorem read_any (m : Nat) (hm : m ≤ 9) {g : List Int} (hl : g.length < 2 ^ 60) (A0 : Option Addr) (c0 : Nat) (w : World) (hr0 : Kd.C (Kd.int .i64) w A0 g.length g) (hc0 : g.length ≤ c0) :
  Calls Tryd.prog 63 #[.slice A0 g.length c0, .int .i64 (m : Int)] w fun e w' => ∃ v, e = .returned (.tuple #[v, .bool (chk m g)]) ∧ (chk m g = true → ∃ A1 c1, v = .slice A1 g.length c1 ∧ g.length ≤ c1 ∧ Kd.C (Kd.int .i64) w' A1 g.length g) ∧ Below w.heap.size w w' := by
 cases h : chk m g
 ·refine (read_no m hm hl h A0 c0 w hr0 hc0).mono ?_
  rintro e w' ⟨v, rfl, hb⟩
  exact ⟨v, rfl, (fun h => by cases h), hb⟩
 ·obtain ⟨G, rfl, hG⟩ := (chk_iff m (by omega) _).1 h
  have := read_yes m hm hG A0 c0 w hr0 (by rw [gi_length] at hc0; exact hc0)
  rw [gi_length] at *
  refine this.mono ?_
  rintro e w' ⟨A1, c1, rfl, h1, h2, hb⟩
  exact ⟨_, rfl, fun _ => ⟨A1, c1, rfl, h1, h2⟩, hb⟩
def minor_Model.f (g p : List Int) : Option (List Int × Int) :=
 if g.length < 1000 ∧ p.length < 1000 then some (if (chk 8 g && chk 6 p) = true then ((findN (g.map Int.toNat) (p.map Int.toNat)).elim ([], 4) fun M => (gi M, 0)) else ([], 2)) else none
set_option maxHeartbeats 4000000 in
set_option maxRecDepth 100000 in
theorem minor_Model.calls (A0 : Option Addr) (c0 : Nat) (l0 : List Int) (A1 : Option Addr) (c1 : Nat) (l1 : List Int) (r1 : List Int) (r2 : Int) (w : World) (hGL : GL w) (hr0 : Kd.C (Kd.int .i64) w A0 l0.length l0) (hc0 : l0.length ≤ c0) (hr1 : Kd.C (Kd.int .i64) w A1 l1.length l1) (hc1 : l1.length ≤ c1) (h : minor_Model.f l0 l1 = some (r1, r2)) :
  Calls Tryd.prog 21 #[.slice A0 l0.length c0, .slice A1 l1.length c1] w fun e w' => ∃ v, e = .returned (.tuple #[v, .int .i64 r2]) ∧ Kd.R (Kd.int .i64) 3 w' w.heap.size (fun _ => True) v r1 ∧ Below w.heap.size w w' := by
 unfold minor_Model.f at h
 by_cases hlen : l0.length < 1000 ∧ l1.length < 1000
 ·rw [if_pos hlen] at h
  have h := Option.some.inj h
  have HC1 : Aside0 (∀ W, Below w.heap.size w W → Calls Tryd.prog 63 #[.slice A0 l0.length c0, .int .i64 8] W fun e w' => ∃ v, e = .returned (.tuple #[v, .bool (chk 8 l0)]) ∧ (chk 8 l0 = true → ∃ A1 c1, v = .slice A1 l0.length c1 ∧ l0.length ≤ c1 ∧ Kd.C (Kd.int .i64) w' A1 l0.length l0) ∧ Below W.heap.size W w') := ⟨fun W hW => read_any 8 (by omega) (by omega) A0 c0 W (Kd.C_below hr0 hW) hc0⟩
  have HC2 : Aside0 (∀ W, Below w.heap.size w W → Calls Tryd.prog 63 #[.slice A1 l1.length c1, .int .i64 6] W fun e w' => ∃ v, e = .returned (.tuple #[v, .bool (chk 6 l1)]) ∧ (chk 6 l1 = true → ∃ A c, v = .slice A l1.length c ∧ l1.length ≤ c ∧ Kd.C (Kd.int .i64) w' A l1.length l1) ∧ Below W.heap.size W w') := ⟨fun W hW => read_any 6 (by omega) (by omega) A1 c1 W (Kd.C_below hr1 hW) hc1⟩
  have HGL := Aside0.mk hGL
  cases hg : chk 8 l0
  ·rw [hg] at h HC1
   injection h with h1 h2
   subst h1 h2
   clear hg hr0 hr1
   go_enter Tryd.func21, Tryd.ntmps21
   go_wp2_with (first
    | (go_at_call 63; refine (HC2.out _ HB1.out).mono ?_; rintro e w2 ⟨v2, rfl, _, hb2⟩; have HB2 := Aside0.mk (below_step HB1.out hb2); clear hb2)
    | (go_at_call 63; refine (HC1.out _ (Below.refl _ _)).mono ?_; rintro e w1 ⟨v1, rfl, _, hb1⟩; have HB1 := Aside0.mk hb1; clear hb1))
   go_ret2
   exact ⟨_, rfl, Kd.R_nil _ _ _ _ _, HB2.out⟩
  ·cases hp : chk 6 l1
   ·rw [hg, hp] at h
    rw [hg] at HC1
    rw [hp] at HC2
    injection h with h1 h2
    subst h1 h2
    clear hg hp hr0 hr1
    go_enter Tryd.func21, Tryd.ntmps21
    go_wp2_with (first
     | (go_at_call 63; refine (HC2.out _ HB1.out).mono ?_; rintro e w2 ⟨v2, rfl, _, hb2⟩; have HB2 := Aside0.mk (below_step HB1.out hb2); clear hb2)
     | (go_at_call 63; refine (HC1.out _ (Below.refl _ _)).mono ?_; rintro e w1 ⟨v1, rfl, _, hb1⟩; have HB1 := Aside0.mk hb1; clear hb1))
    go_ret2
    exact ⟨_, rfl, Kd.R_nil _ _ _ _ _, HB2.out⟩
   ·rw [hg, hp] at h
    rw [hg] at HC1
    rw [hp] at HC2
    obtain ⟨G, rfl, hG⟩ := (chk_iff 8 (by omega) _).1 hg
    obtain ⟨P, rfl, hP⟩ := (chk_iff 6 (by omega) _).1 hp
    rw [gi_toNat, gi_toNat] at h
    simp only [gi_length] at HC1 HC2 hr0 hr1 hc0 hc1 ⊢
    have hn := hG.most
    have hpn := hP.most
    have HFD : Aside0 (∀ W A c A' c', Below w.heap.size w W → G.length ≤ c → Kd.C (Kd.int .i64) W A G.length (gi G) → Kd.C (Kd.int .i64) W A' P.length (gi P) → Calls Tryd.prog 64 #[.slice A G.length c, .slice A' P.length c'] W fun e w' => ∃ v, e = .returned v ∧ Kd.R (Kd.int .i64) 3 w' W.heap.size (fun _ => True) v ((findN G P).elim [] gi) ∧ ((findN G P = none ∧ v = .slice none 0 0) ∨ ((findN G P).isSome = true ∧ ∃ a n c, v = .slice (some a) n c)) ∧ Below W.heap.size W w') := ⟨fun W A c A' c' hW hc hA hA' =>
     find_calls A c G (gr_mono hG (by omega)) hc A' c' P hP.pos (by omega) (fun x hx => small P (by omega) (by
      obtain ⟨i, hi, e⟩ := List.getElem_of_mem hx
      have := hP.row i
      rw [List.getD_eq_getElem?_getD, List.getElem?_eq_getElem hi] at this
      rw [← e]
      exact this)) W (GL_below HGL.out hW) (by rw [gi_length]; exact hA) (by rw [gi_length]; exact hA')⟩
    clear hg hp hr0 hr1 hG hP hGL
    cases hf : findN G P with
    | none =>
     rw [hf] at HFD h
     injection h with h1 h2
     subst h1 h2
     clear hf
     have heq_ := fun (w : World) (a : Option Addr) (n c : Nat) => Lib.run_eql_slice_nil (P := Tryd.prog) w 22 3 a n c 0 0 Tryd.underlying22
     go_enter Tryd.func21, Tryd.ntmps21
     go_wp2_with (first
      | (go_at_call 63; refine (HC2.out _ HB1.out).mono ?_; rintro e w2 ⟨v2, rfl, hv2, hb2⟩; obtain ⟨A6, c6, rfl, hc6, hC6⟩ := hv2 trivial; have HB2 := Aside0.mk (below_step HB1.out hb2); have HB12 := Aside0.mk hb2; have HC6 := Aside0.mk hC6; clear hb2 hv2 hC6)
      | (go_at_call 63; refine (HC1.out _ (Below.refl _ _)).mono ?_; rintro e w1 ⟨v1, rfl, hv1, hb1⟩; obtain ⟨A5, c5, rfl, hc5, hC5⟩ := hv1 trivial; have HB1 := Aside0.mk hb1; have HC5 := Aside0.mk hC5; clear hb1 hv1 hC5)
      | (go_at_call 64; refine (HFD.out _ _ _ _ _ HB2.out hc5 (Kd.C_below HC5.out HB12.out) HC6.out).mono ?_; rintro e w3 ⟨v3, rfl, _, hv3, hb3⟩; have hv4 : v3 = .slice none 0 0 := hv3.elim (fun h => h.2) (fun h => by cases h.1); subst hv4; have HB3 := Aside0.mk (below_step HB2.out hb3); clear hb3))
     go_ret2
     exact ⟨_, rfl, Kd.R_nil _ _ _ _ _, HB3.out⟩
    | some M =>
     rw [hf] at HFD h
     injection h with h1 h2
     subst h1 h2
     clear hf
     have heq_ := fun (w : World) (a : Option Addr) (n c : Nat) => Lib.run_eql_slice_nil (P := Tryd.prog) w 22 3 a n c 0 0 Tryd.underlying22
     go_enter Tryd.func21, Tryd.ntmps21
     go_wp2_with (first
      | (go_at_call 63; refine (HC2.out _ HB1.out).mono ?_; rintro e w2 ⟨v2, rfl, hv2, hb2⟩; obtain ⟨A6, c6, rfl, hc6, hC6⟩ := hv2 trivial; have HB2 := Aside0.mk (below_step HB1.out hb2); have HB12 := Aside0.mk hb2; have HC6 := Aside0.mk hC6; clear hb2 hv2 hC6)
      | (go_at_call 63; refine (HC1.out _ (Below.refl _ _)).mono ?_; rintro e w1 ⟨v1, rfl, hv1, hb1⟩; obtain ⟨A5, c5, rfl, hc5, hC5⟩ := hv1 trivial; have HB1 := Aside0.mk hb1; have HC5 := Aside0.mk hC5; clear hb1 hv1 hC5)
      | (go_at_call 64; refine (HFD.out _ _ _ _ _ HB2.out hc5 (Kd.C_below HC5.out HB12.out) HC6.out).mono ?_; rintro e w3 ⟨v3, rfl, hR3, hv3, hb3⟩; obtain ⟨a3, n3, c3, rfl⟩ : ∃ a n c, v3 = .slice (some a) n c := hv3.elim (fun h => by cases h.1) (fun h => h.2); have HB3 := Aside0.mk (below_step HB2.out hb3); have HR3 := Aside0.mk hR3; clear hb3 hR3))
     go_ret2
     exact ⟨_, rfl, Kd.R_lower HR3.out HB2.out.size, HB3.out⟩
 ·rw [if_neg hlen] at h
  cases h
end Go.Proofs.YtjloppfdagfpmaaDoor.X
end
section
namespace Go.Proofs.YtjloppfdagfpmaaDoor.X
open Go.RowKit YtjloppfdagfpmaaDoorW.PrintWords YtjloppfdagfpmaaDoorW.PrintLast YtjloppfdagfpmaaDoorW.PrintMore
attribute [local go_sem] max2_int min2_int max_two min_two max_three min_three max_four min_four
noncomputable section
def slices_Equal_int_int.l0 : Nat → List Int → List Int → Int → Int → Option (Bool)
 | 0, _, _, _, _ => none
 | k + 1, x0, x1, x12, x13 => if x13 < x12 then (if 0 ≤ x13 then (if x13 < (x0.length : Int) then (if x13 < (x1.length : Int) then (if (rd x0 x13) = (rd x1 x13) then (slices_Equal_int_int.l0 k x0 x1 x12 (wrap64 (x13 + 1))) else (some false)) else (none)) else (none)) else (none)) else (some true)
def slices_Equal_int_int.f (k : Nat) (l0 : List Int) (l1 : List Int) : Option (Bool) := if (l0.length : Int) = (l1.length : Int) then (slices_Equal_int_int.l0 k l0 l1 (l0.length : Int) 0) else (some false)
theorem slices_Equal_int_int.mono_l : ∀ k, (∀ y0 y1 y2 y3, LeO (slices_Equal_int_int.l0 k y0 y1 y2 y3) (slices_Equal_int_int.l0 (k + 1) y0 y1 y2 y3))
 | 0 => fun _ _ _ _ r h => by simp [slices_Equal_int_int.l0] at h
 | k + 1 => by
  have ih0 := slices_Equal_int_int.mono_l k
  ·intro y0 y1 y2 y3
   unfold slices_Equal_int_int.l0
   repeat' first
   | (with_reducible exact ih0 _ _ _ _)
   | (with_reducible exact LeO.refl _)
   | (with_reducible exact LeO.none _)
   | (with_reducible refine LeO.ite ?_ ?_)
   | (with_reducible refine LeO.bind ?_ (fun _ => ?_))
   | exact ih0 _ _ _ _
   | exact LeO.none _
   | refine LeO.ite ?_ ?_
   | refine LeO.bind ?_ (fun _ => ?_)
theorem slices_Equal_int_int.mono : ∀ a0 a1 k, LeO (slices_Equal_int_int.f k a0 a1) (slices_Equal_int_int.f (k + 1) a0 a1) := by
 intro a0 a1 k
 have ih0 := slices_Equal_int_int.mono_l k
 unfold slices_Equal_int_int.f
 repeat' first
   | (with_reducible exact ih0 _ _ _ _)
   | (with_reducible exact LeO.refl _)
   | (with_reducible exact LeO.none _)
   | (with_reducible refine LeO.ite ?_ ?_)
   | (with_reducible refine LeO.bind ?_ (fun _ => ?_))
   | exact ih0 _ _ _ _
   | exact LeO.none _
   | refine LeO.ite ?_ ?_
   | refine LeO.bind ?_ (fun _ => ?_)
set_option maxHeartbeats 8000000 in
set_option maxRecDepth 100000 in
theorem slices_Equal_int_int.calls (k : Nat) (A0 : Option Addr) (c0 : Nat) (l0 : List Int) (A1 : Option Addr) (c1 : Nat) (l1 : List Int) (r : Bool) (w : World) (hr0 : Kd.C (Kd.int .i64) w A0 l0.length l0) (hc0 : l0.length ≤ c0) (hr1 : Kd.C (Kd.int .i64) w A1 l1.length l1) (hc1 : l1.length ≤ c1) (h : slices_Equal_int_int.f k l0 l1 = some r) :
  Calls Tryd.prog 27 #[.slice A0 l0.length c0, .slice A1 l1.length c1] w fun e w' => e = .returned (.bool r) ∧ Drawn0 w w' := by
 have HR0 := Aside0.mk hr0
 have HC0 := Aside0.mk hc0
 clear hr0 hc0
 have HR1 := Aside0.mk hr1
 have HC1 := Aside0.mk hc1
 clear hr1 hc1
 have H : (if (l0.length : Int) = (l1.length : Int) then (slices_Equal_int_int.l0 k l0 l1 (l0.length : Int) 0) else (some false)) = some r := h
 clear h
 by_cases c3 : (l0.length : Int) = (l1.length : Int)
 ·rw [if_pos c3] at H
  have c3b0 : ((l0.length : Int) == (l1.length : Int)) = true := beq_iff_eq.mpr c3
  have c3b1 : ((l0.length : Int) != (l1.length : Int)) = false := bne_eq_false_iff_eq.mpr c3
  have c3b2 : (l0.length == l1.length) = true := by first | simpa using c3 | (simp at c3 ⊢; omega)
  clear c3
  have H' := Aside0.mk H
  clear H
  go_enter Tryd.func27, Tryd.ntmps27
  go_wp2
  repeat (go_quiet (fail); try go_wp2)
  go_loopg [13] k (fun kq v13 w' => ∃ (x13_1 : Int), v13 = .int .i64 x13_1 ∧ Aside0 (slices_Equal_int_int.l0 kq l0 l1 (l0.length : Int) x13_1 = some r) ∧ Aside0 (kq ≤ k) ∧ Drawn0 w w')
  case atStart => exact ⟨(0), (Qrs), H', ⟨Nat.le_refl _⟩, by repeat (first | exact Drawn0.refl _ | apply Drawn0.step)⟩
  case round =>
   clear H'
   try clear c1
   try clear c2
   try clear p2
   try clear c3
   try clear c3b0
   try clear c3b1
   try clear c3b2
   obtain ⟨x13_1, rfl, HA, HK1, ⟨m1, rfl⟩⟩ := hrel
   cases gk with
   | zero => exact absurd HA.out (by simp [slices_Equal_int_int.l0])
   | succ k1 =>
    have H := HA.out
    clear HA
    simp only [slices_Equal_int_int.l0] at H
    by_cases c4 : x13_1 < (l0.length : Int)
    ·rw [if_pos c4] at H
     have c4b0 : decide (x13_1 < (l0.length : Int)) = true := decide_eq_true c4
     clear c4
     by_cases c5 : 0 ≤ x13_1
     ·rw [if_pos c5] at H
      have c5b0 : decide (0 ≤ x13_1) = true := decide_eq_true c5
      clear c5
      by_cases c6 : x13_1 < (l0.length : Int)
      ·rw [if_pos c6] at H
       have c6b0 : decide (x13_1 < (l0.length : Int)) = true := decide_eq_true c6
       clear c6
       by_cases c7 : x13_1 < (l1.length : Int)
       ·rw [if_pos c7] at H
        have c7b0 : decide (x13_1 < (l1.length : Int)) = true := decide_eq_true c7
        clear c7
        by_cases c8 : (rd l0 x13_1) = (rd l1 x13_1)
        ·rw [if_pos c8] at H
         have c8b0 : ((rd l0 x13_1) == (rd l1 x13_1)) = true := beq_iff_eq.mpr c8
         have c8b1 : ((rd l0 x13_1) != (rd l1 x13_1)) = false := bne_eq_false_iff_eq.mpr c8
         clear c8
         have H' := Aside0.mk H
         clear H
         have p127 : 0 ≤ (x13_1 : Int) := of_decide_eq_true (Qas)
         have q127 : x13_1 < (l0.length : Int) := of_decide_eq_true (Qas)
         obtain ⟨ad127, e127, hx127_0⟩ := Kd.at_int HR0.out x13_1 p127 q127
         cases e127
         replace p127 := eq_true p127
         replace q127 := eq_true q127
         have p128 : 0 ≤ (x13_1 : Int) := of_decide_eq_true (Qas)
         have q128 : x13_1 < (l1.length : Int) := of_decide_eq_true (Qas)
         obtain ⟨ad128, e128, hx128_0⟩ := Kd.at_int HR1.out x13_1 p128 q128
         cases e128
         replace p128 := eq_true p128
         replace q128 := eq_true q128
         go_wp2
         repeat (go_quiet (fail); try go_wp2)
         go_roundg k1
         case measure => have := HK1.out; omega
         case rel => exact ⟨(wrap64 (x13_1 + 1)), (Qrs), H', ⟨by have := HK1.out; omega⟩, by repeat (first | exact Drawn0.refl _ | apply Drawn0.step)⟩
        ·rw [if_neg c8] at H
         have c8b0 : ((rd l0 x13_1) == (rd l1 x13_1)) = false := beq_eq_false_iff_ne.mpr c8
         have c8b1 : ((rd l0 x13_1) != (rd l1 x13_1)) = true := bne_iff_ne.mpr c8
         obtain rfl := Option.some.inj H
         have p127 : 0 ≤ (x13_1 : Int) := of_decide_eq_true (Qas)
         have q127 : x13_1 < (l0.length : Int) := of_decide_eq_true (Qas)
         obtain ⟨ad127, e127, hx127_0⟩ := Kd.at_int HR0.out x13_1 p127 q127
         cases e127
         replace p127 := eq_true p127
         replace q127 := eq_true q127
         have p128 : 0 ≤ (x13_1 : Int) := of_decide_eq_true (Qas)
         have q128 : x13_1 < (l1.length : Int) := of_decide_eq_true (Qas)
         obtain ⟨ad128, e128, hx128_0⟩ := Kd.at_int HR1.out x13_1 p128 q128
         cases e128
         replace p128 := eq_true p128
         replace q128 := eq_true q128
         go_wp2
         repeat (go_quiet (fail); try go_wp2)
         go_ret
         exact ⟨by first | rfl | (simp; done) | (simp [*]; done), by repeat (first | exact Drawn0.refl _ | apply Drawn0.step)⟩
       ·rw [if_neg c7] at H
        exact absurd H (by simp)
      ·rw [if_neg c6] at H
       exact absurd H (by simp)
     ·rw [if_neg c5] at H
      exact absurd H (by simp)
    ·rw [if_neg c4] at H
     have c4b0 : decide (x13_1 < (l0.length : Int)) = false := decide_eq_false c4
     clear c4
     obtain rfl := Option.some.inj H
     go_wp2
     repeat (go_quiet (fail); try go_wp2)
     go_ret
     exact ⟨by first | rfl | (simp; done) | (simp [*]; done), by repeat (first | exact Drawn0.refl _ | apply Drawn0.step)⟩
 ·rw [if_neg c3] at H
  have c3b0 : ((l0.length : Int) == (l1.length : Int)) = false := beq_eq_false_iff_ne.mpr c3
  have c3b1 : ((l0.length : Int) != (l1.length : Int)) = true := bne_iff_ne.mpr c3
  have c3b2 : (l0.length == l1.length) = false := by first | simpa using c3 | (simp at c3 ⊢; omega)
  obtain rfl := Option.some.inj H
  go_enter Tryd.func27, Tryd.ntmps27
  go_wp2
  repeat (go_quiet (fail); try go_wp2)
  go_ret
  exact ⟨by first | rfl | (simp; done) | (simp [*]; done), by repeat (first | exact Drawn0.refl _ | apply Drawn0.step)⟩
end
noncomputable section
def lampblacklaw07_awake.f (k : Nat)  : Option (Bool) := (minor_Model.f (([2, 1] : List Int)) (([2, 1] : List Int))).bind fun bt135 => (if bt135.2 = 0 then ((slices_Equal_int_int.f k bt135.1 (([1, 2] : List Int))).bind fun t142 => (some t142)) else (some false))
theorem lampblacklaw07_awake.mono : ∀ k, LeO (lampblacklaw07_awake.f k ) (lampblacklaw07_awake.f (k + 1) ) := by
 intro  k
 unfold lampblacklaw07_awake.f
 repeat' first
   | (with_reducible exact slices_Equal_int_int.mono _ _ _)
   | (with_reducible exact LeO.refl _)
   | (with_reducible exact LeO.none _)
   | (with_reducible refine LeO.ite ?_ ?_)
   | (with_reducible refine LeO.bind ?_ (fun _ => ?_))
   | exact slices_Equal_int_int.mono _ _ _
   | exact LeO.none _
   | refine LeO.ite ?_ ?_
   | refine LeO.bind ?_ (fun _ => ?_)
set_option maxHeartbeats 8000000 in
set_option maxRecDepth 100000 in
theorem lampblacklaw07_awake.calls (k : Nat)  (r : Bool) (w : World) (hGL : GL w) (h : lampblacklaw07_awake.f k  = some r) :
  Calls Tryd.prog 17 #[] w fun e w' => e = .returned (.bool r) ∧ Below w.heap.size w w' := by
 have HGL := Aside0.mk hGL
 clear hGL
 have HB := Aside0.mk (Below.refl w.heap.size w)
 have H : ((minor_Model.f (([2, 1] : List Int)) (([2, 1] : List Int))).bind fun bt135 => (if bt135.2 = 0 then ((slices_Equal_int_int.f k bt135.1 (([1, 2] : List Int))).bind fun t142 => (some t142)) else (some false))) = some r := h
 clear h
 obtain ⟨y129, hy129⟩ : ∃ y_ : List Int, y_ = (([2, 1] : List Int)) := ⟨_, rfl⟩
 replace H : ((minor_Model.f y129 (([2, 1] : List Int))).bind fun bt135 => (if bt135.2 = 0 then ((slices_Equal_int_int.f k bt135.1 (([1, 2] : List Int))).bind fun t142 => (some t142)) else (some false))) = some r := by first | (rw [hy129]; with_reducible exact H) | (have H2_ := (Option.bind_some _ _).symm.trans H; rw [hy129]; with_reducible exact H2_) | (have H2_ := (Option.bind_some _ _).symm.trans H; with_reducible exact H2_) | with_reducible exact H | (rw [hy129]; exact H) | exact H
 have Ny129 := Aside0.mk hy129
 clear hy129
 obtain ⟨y132, hy132⟩ : ∃ y_ : List Int, y_ = (([2, 1] : List Int)) := ⟨_, rfl⟩
 replace H : ((minor_Model.f y129 y132).bind fun bt135 => (if bt135.2 = 0 then ((slices_Equal_int_int.f k bt135.1 (([1, 2] : List Int))).bind fun t142 => (some t142)) else (some false))) = some r := by first | (rw [hy132]; with_reducible exact H) | (have H2_ := (Option.bind_some _ _).symm.trans H; rw [hy132]; with_reducible exact H2_) | (have H2_ := (Option.bind_some _ _).symm.trans H; with_reducible exact H2_) | with_reducible exact H | (rw [hy132]; exact H) | exact H
 have Ny132 := Aside0.mk hy132
 clear hy132
 replace H := Option.bind_eq_some_iff.mp H
 obtain ⟨⟨t135, t136⟩, A10, H⟩ := H
 replace H : (if t136 = 0 then ((slices_Equal_int_int.f k t135 (([1, 2] : List Int))).bind fun t142 => (some t142)) else (some false)) = some r := H
 have A1 := Aside0.mk A10
 clear A10
 by_cases c2 : t136 = 0
 ·rw [if_pos c2] at H
  have c2b0 : (t136 == 0) = true := beq_iff_eq.mpr c2
  have c2b1 : (t136 != 0) = false := bne_eq_false_iff_eq.mpr c2
  clear c2
  obtain ⟨y139, hy139⟩ : ∃ y_ : List Int, y_ = (([1, 2] : List Int)) := ⟨_, rfl⟩
  replace H : ((slices_Equal_int_int.f k t135 y139).bind fun t142 => (some t142)) = some r := by first | (rw [hy139]; with_reducible exact H) | (have H2_ := (Option.bind_some _ _).symm.trans H; rw [hy139]; with_reducible exact H2_) | (have H2_ := (Option.bind_some _ _).symm.trans H; with_reducible exact H2_) | with_reducible exact H | (rw [hy139]; exact H) | exact H
  have Ny139 := Aside0.mk hy139
  clear hy139
  replace H := Option.bind_eq_some_iff.mp H
  obtain ⟨t142, A30, H⟩ := H
  replace H : (some t142) = some r := H
  have A3 := Aside0.mk A30
  clear A30
  obtain rfl := Option.some.inj H
  go_enter Tryd.func17, Tryd.ntmps17
  go_wp2_with (first | ((with_reducible refine gate_dst (N := 4) rfl ?_); (try (refine gate_guard (by rfl) ?_; dsimp only)); refine Kd.R_lit (Kd.int .i64) _ 3 ?hg (N := 4) ?hd (xs := ([2, 1] : List Int)) (inner := [.int .i64 2, .int .i64 1]) (ok := fun _ => True) (okp := fun _ => True) ?hr ?hp (fun _ hk => hk) trivial (Below.refl _ _) (Nat.le_refl _) (by simp) ?_; (case hd => rfl); (case hg => rfl); (case hr => first | (go_simp; done) | (go_simp; rfl)); (case hp => exact (Reps.one (show Kd.M (Kd.int .i64) _ _ _ 2 [.int .i64 2] from rfl) (Reps.one (show Kd.M (Kd.int .i64) _ _ _ 1 [.int .i64 1] from rfl) (Reps.none _ _)))); intro v130 w4 ho5 hb hg_ hnew_; clear hg_ hnew_; (first | rw [← Ny129.out] at ho5 | (simp only [Int.reduceToNat] at ho5; rw [← Ny129.out] at ho5)); have n0_ := Aside0.mk (Kd.R_lower ho5 (below_size (Qaw))); have n1_ := Aside0.mk (below_step (Qaw) hb); clear HB; have HO131 := n0_; have HB := n1_; clear n0_ n1_; clear hb ho5) | ((with_reducible refine gate_dst (N := 5) rfl ?_); (try (refine gate_guard (by rfl) ?_; dsimp only)); refine Kd.R_lit (Kd.int .i64) _ 3 ?hg (N := 5) ?hd (xs := ([2, 1] : List Int)) (inner := [.int .i64 2, .int .i64 1]) (ok := fun _ => True) (okp := fun _ => True) ?hr ?hp (fun _ hk => hk) trivial (Below.refl _ _) (Nat.le_refl _) (by simp) ?_; (case hd => rfl); (case hg => rfl); (case hr => first | (go_simp; done) | (go_simp; rfl)); (case hp => exact (Reps.one (show Kd.M (Kd.int .i64) _ _ _ 2 [.int .i64 2] from rfl) (Reps.one (show Kd.M (Kd.int .i64) _ _ _ 1 [.int .i64 1] from rfl) (Reps.none _ _)))); intro v133 w6 ho7 hb hg_ hnew_; clear hg_ hnew_; (first | rw [← Ny132.out] at ho7 | (simp only [Int.reduceToNat] at ho7; rw [← Ny132.out] at ho7)); have n0_ := Aside0.mk (Kd.R_elder' (Qro HO131.out) (Kd.R_base ho7) hb); have n1_ := Aside0.mk (Kd.R_lower (Kd.R_new' ho7 (Kd.R_lt (Qro HO131.out))) (below_size (Qaw))); have n2_ := Aside0.mk (below_step (Qaw) hb); clear HO131; clear HB; have HO131 := n0_; have HO134 := n1_; have HB := n2_; clear n0_ n1_ n2_; clear hb ho7; obtain ⟨Ao8, co8, eo8⟩ := Kd.R_slice HO131.out; subst eo8; obtain ⟨Ao9, co9, eo9⟩ := Kd.R_slice HO134.out; subst eo9) | ((with_reducible refine gate_callee (f := 21) rfl ?_); refine goesL_ (some 6) rfl rfl Tryd.func21 (by kernel_rfl) rfl #[.slice Ao8 y129.length co8, .slice Ao9 y132.length co9] rfl (Qls) ?_; (with_reducible refine (minor_Model.calls (hGL := (Qlg)) _ _ y129 _ _ y132 t135 t136 _ ?side1 ?side2 ?side3 ?side4 A1.out).mono ?_); (case side1 => exact Qsc (Kd.R_reads' HO131.out).2.2); (case side2 => exact (Kd.R_reads' HO131.out).2.1); (case side3 => exact Qsc (Kd.R_reads' HO134.out).2.2); (case side4 => exact (Kd.R_reads' HO134.out).2.1); rintro e w10 ⟨v137, rfl, ho0, hb⟩; refine ⟨_, rfl, ?_⟩; have n0_ := Aside0.mk (Kd.R_elder' (Qro HO131.out) (Kd.R_base ho0) hb); have n1_ := Aside0.mk (Kd.R_elder' (Qro HO134.out) (Kd.R_base ho0) hb); have n2_ := Aside0.mk (Kd.R_lower (Kd.R_new' (Kd.R_new' ho0 (Kd.R_lt (Qro HO131.out))) (Kd.R_lt (Qro HO134.out))) (below_size (Qaw))); have n3_ := Aside0.mk (below_step (Qaw) hb); clear HO131; clear HO134; clear HB; have HO131 := n0_; have HO134 := n1_; have HO138 := n2_; have HB := n3_; clear n0_ n1_ n2_ n3_; (try clear hb); (try clear hb2); (try clear hk); (try clear hi); (try clear ho0)) | ((with_reducible refine gate_dst (N := 13) rfl ?_); (try (refine gate_guard (by rfl) ?_; dsimp only)); refine Kd.R_lit (Kd.int .i64) _ 3 ?hg (N := 13) ?hd (xs := ([1, 2] : List Int)) (inner := [.int .i64 1, .int .i64 2]) (ok := fun _ => True) (okp := fun _ => True) ?hr ?hp (fun _ hk => hk) trivial (Below.refl _ _) (Nat.le_refl _) (by simp) ?_; (case hd => rfl); (case hg => rfl); (case hr => first | (go_simp; done) | (go_simp; rfl)); (case hp => exact (Reps.one (show Kd.M (Kd.int .i64) _ _ _ 1 [.int .i64 1] from rfl) (Reps.one (show Kd.M (Kd.int .i64) _ _ _ 2 [.int .i64 2] from rfl) (Reps.none _ _)))); intro v140 w11 ho12 hb hg_ hnew_; clear hg_ hnew_; (first | rw [← Ny139.out] at ho12 | (simp only [Int.reduceToNat] at ho12; rw [← Ny139.out] at ho12)); have n0_ := Aside0.mk (Kd.R_elder' (Qro HO131.out) (Kd.R_base ho12) hb); have n1_ := Aside0.mk (Kd.R_elder' (Qro HO134.out) (Kd.R_base ho12) hb); have n2_ := Aside0.mk (Kd.R_elder' (Qro HO138.out) (Kd.R_base ho12) hb); have n3_ := Aside0.mk (Kd.R_lower (Kd.R_new' (Kd.R_new' (Kd.R_new' ho12 (Kd.R_lt (Qro HO131.out))) (Kd.R_lt (Qro HO134.out))) (Kd.R_lt (Qro HO138.out))) (below_size (Qaw))); have n4_ := Aside0.mk (below_step (Qaw) hb); clear HO131; clear HO134; clear HO138; clear HB; have HO131 := n0_; have HO134 := n1_; have HO138 := n2_; have HO141 := n3_; have HB := n4_; clear n0_ n1_ n2_ n3_ n4_; clear hb ho12; obtain ⟨Ao13, co13, eo13⟩ := Kd.R_slice HO138.out; subst eo13; obtain ⟨Ao14, co14, eo14⟩ := Kd.R_slice HO141.out; subst eo14) | (go_at_call 27; (with_reducible refine (slices_Equal_int_int.calls k _ _ t135 _ _ y139 t142 _ ?side1 ?side2 ?side3 ?side4 A3.out).mono ?_); (case side1 => exact Qsc (Kd.R_reads' HO138.out).2.2); (case side2 => exact (Kd.R_reads' HO138.out).2.1); (case side3 => exact Qsc (Kd.R_reads' HO141.out).2.2); (case side4 => exact (Kd.R_reads' HO141.out).2.1); rintro e w' ⟨rfl, ⟨nd, rfl⟩⟩))
  go_ret
  exact ⟨by first | rfl | (simp [errW_none, errW_some] <;> rfl) | (simp [*, errW_none, errW_some] <;> rfl), by repeat (first | (with_reducible first | exact HB.out | apply below_alloc | apply pw_below_drewN | apply below_drew1) | exact HB.out)⟩
 ·rw [if_neg c2] at H
  have c2b0 : (t136 == 0) = false := beq_eq_false_iff_ne.mpr c2
  have c2b1 : (t136 != 0) = true := bne_iff_ne.mpr c2
  obtain rfl := Option.some.inj H
  go_enter Tryd.func17, Tryd.ntmps17
  go_wp2_with (first | ((with_reducible refine gate_dst (N := 4) rfl ?_); (try (refine gate_guard (by rfl) ?_; dsimp only)); refine Kd.R_lit (Kd.int .i64) _ 3 ?hg (N := 4) ?hd (xs := ([2, 1] : List Int)) (inner := [.int .i64 2, .int .i64 1]) (ok := fun _ => True) (okp := fun _ => True) ?hr ?hp (fun _ hk => hk) trivial (Below.refl _ _) (Nat.le_refl _) (by simp) ?_; (case hd => rfl); (case hg => rfl); (case hr => first | (go_simp; done) | (go_simp; rfl)); (case hp => exact (Reps.one (show Kd.M (Kd.int .i64) _ _ _ 2 [.int .i64 2] from rfl) (Reps.one (show Kd.M (Kd.int .i64) _ _ _ 1 [.int .i64 1] from rfl) (Reps.none _ _)))); intro v130 w15 ho16 hb hg_ hnew_; clear hg_ hnew_; (first | rw [← Ny129.out] at ho16 | (simp only [Int.reduceToNat] at ho16; rw [← Ny129.out] at ho16)); have n0_ := Aside0.mk (Kd.R_lower ho16 (below_size (Qaw))); have n1_ := Aside0.mk (below_step (Qaw) hb); clear HB; have HO131 := n0_; have HB := n1_; clear n0_ n1_; clear hb ho16) | ((with_reducible refine gate_dst (N := 5) rfl ?_); (try (refine gate_guard (by rfl) ?_; dsimp only)); refine Kd.R_lit (Kd.int .i64) _ 3 ?hg (N := 5) ?hd (xs := ([2, 1] : List Int)) (inner := [.int .i64 2, .int .i64 1]) (ok := fun _ => True) (okp := fun _ => True) ?hr ?hp (fun _ hk => hk) trivial (Below.refl _ _) (Nat.le_refl _) (by simp) ?_; (case hd => rfl); (case hg => rfl); (case hr => first | (go_simp; done) | (go_simp; rfl)); (case hp => exact (Reps.one (show Kd.M (Kd.int .i64) _ _ _ 2 [.int .i64 2] from rfl) (Reps.one (show Kd.M (Kd.int .i64) _ _ _ 1 [.int .i64 1] from rfl) (Reps.none _ _)))); intro v133 w17 ho18 hb hg_ hnew_; clear hg_ hnew_; (first | rw [← Ny132.out] at ho18 | (simp only [Int.reduceToNat] at ho18; rw [← Ny132.out] at ho18)); have n0_ := Aside0.mk (Kd.R_elder' (Qro HO131.out) (Kd.R_base ho18) hb); have n1_ := Aside0.mk (Kd.R_lower (Kd.R_new' ho18 (Kd.R_lt (Qro HO131.out))) (below_size (Qaw))); have n2_ := Aside0.mk (below_step (Qaw) hb); clear HO131; clear HB; have HO131 := n0_; have HO134 := n1_; have HB := n2_; clear n0_ n1_ n2_; clear hb ho18; obtain ⟨Ao19, co19, eo19⟩ := Kd.R_slice HO131.out; subst eo19; obtain ⟨Ao20, co20, eo20⟩ := Kd.R_slice HO134.out; subst eo20) | ((with_reducible refine gate_callee (f := 21) rfl ?_); refine goesL_ (some 6) rfl rfl Tryd.func21 (by kernel_rfl) rfl #[.slice Ao19 y129.length co19, .slice Ao20 y132.length co20] rfl (Qls) ?_; (with_reducible refine (minor_Model.calls (hGL := (Qlg)) _ _ y129 _ _ y132 t135 t136 _ ?side1 ?side2 ?side3 ?side4 A1.out).mono ?_); (case side1 => exact Qsc (Kd.R_reads' HO131.out).2.2); (case side2 => exact (Kd.R_reads' HO131.out).2.1); (case side3 => exact Qsc (Kd.R_reads' HO134.out).2.2); (case side4 => exact (Kd.R_reads' HO134.out).2.1); rintro e w21 ⟨v137, rfl, ho0, hb⟩; refine ⟨_, rfl, ?_⟩; have n0_ := Aside0.mk (Kd.R_elder' (Qro HO131.out) (Kd.R_base ho0) hb); have n1_ := Aside0.mk (Kd.R_elder' (Qro HO134.out) (Kd.R_base ho0) hb); have n2_ := Aside0.mk (Kd.R_lower (Kd.R_new' (Kd.R_new' ho0 (Kd.R_lt (Qro HO131.out))) (Kd.R_lt (Qro HO134.out))) (below_size (Qaw))); have n3_ := Aside0.mk (below_step (Qaw) hb); clear HO131; clear HO134; clear HB; have HO131 := n0_; have HO134 := n1_; have HO138 := n2_; have HB := n3_; clear n0_ n1_ n2_ n3_; (try clear hb); (try clear hb2); (try clear hk); (try clear hi); (try clear ho0)))
  go_ret
  exact ⟨by first | rfl | (simp [errW_none, errW_some] <;> rfl) | (simp [*, errW_none, errW_some] <;> rfl), by repeat (first | (with_reducible first | exact HB.out | apply below_alloc | apply pw_below_drewN | apply below_drew1) | exact HB.out)⟩
end
noncomputable section
def slices_Clone_Graph.f (l0 : List Int) : Option (List Int) := (some (([] : List Int) : List Int)).bind fun y154 => (if y154.length + l0.length < 17592186044416 then (some (y154 ++ l0)) else (none))
set_option maxHeartbeats 8000000 in
set_option maxRecDepth 100000 in
theorem slices_Clone_Graph.calls_some (a0 : Addr) (c0 : Nat) (l0 : List Int) (r : List Int) (w : World) (hr0 : Kd.C (Kd.int .i64) w (some a0) l0.length l0) (hc0 : l0.length ≤ c0) (h : slices_Clone_Graph.f l0 = some r) :
  Calls Tryd.prog 65 #[.slice (some a0) l0.length c0] w fun e w' => ∃ v0_ : Value, e = .returned (v0_) ∧ Kd.R (Kd.int .i64) 3 w' w.heap.size (fun _ => True) v0_ r ∧ Below w.heap.size w w' := by
 have HR0 := Aside0.mk hr0
 have HC0 := Aside0.mk hc0
 clear hr0 hc0
 have HB := Aside0.mk (Below.refl w.heap.size w)
 have H : ((some (([] : List Int) : List Int)).bind fun y154 => (if y154.length + l0.length < 17592186044416 then (some (y154 ++ l0)) else (none))) = some r := h
 clear h
 obtain ⟨y154, hy154⟩ : ∃ y_ : List Int, y_ = (([] : List Int)) := ⟨_, rfl⟩
 replace H : (if y154.length + l0.length < 17592186044416 then (some (y154 ++ l0)) else (none)) = some r := by first | (rw [hy154]; with_reducible exact H) | (have H2_ := (Option.bind_some _ _).symm.trans H; rw [hy154]; with_reducible exact H2_) | (have H2_ := (Option.bind_some _ _).symm.trans H; with_reducible exact H2_) | with_reducible exact H | (rw [hy154]; exact H) | exact H
 have Ny154 := Aside0.mk hy154
 clear hy154
 by_cases c2 : y154.length + l0.length < 17592186044416
 ·rw [if_pos c2] at H
  have LMc2 := Aside0.mk c2
  clear c2
  obtain ⟨y157, hy157⟩ : ∃ y_ : List Int, y_ = (y154 ++ l0) := ⟨_, rfl⟩
  replace H : (some y157) = some r := by first | (rw [hy157]; with_reducible exact H) | (have H2_ := (Option.bind_some _ _).symm.trans H; rw [hy157]; with_reducible exact H2_) | (have H2_ := (Option.bind_some _ _).symm.trans H; with_reducible exact H2_) | with_reducible exact H | (rw [hy157]; exact H) | exact H
  have Ny157 := Aside0.mk hy157
  clear hy157
  obtain rfl := Option.some.inj H
  have heq_ := fun (w : World) => Lib.run_eql_slice_nil (P := Tryd.prog) w 23 3 (some a0) l0.length c0 0 0 Tryd.underlying23
  go_enter Tryd.func65, Tryd.ntmps65
  go_wp2_with (first | ((with_reducible refine gate_dst (N := 5) rfl ?_); refine Kd.R_lit (Kd.int .i64) _ 3 ?hg (N := 5) ?hd (xs := ([] : List Int)) (inner := []) (ok := fun _ => True) (okp := fun _ => True) ?hr ?hp (fun _ hk => hk) trivial (Below.refl _ _) (Nat.le_refl _) (by simp) ?_; (case hd => rfl); (case hg => rfl); (case hr => first | (go_simp; done) | (go_simp; rfl)); (case hp => exact (Reps.none _ _)); intro v155 w3 ho4 hb hg_ hnew_; clear hg_ hnew_; (first | rw [← Ny154.out] at ho4 | (simp only [Int.reduceToNat] at ho4; rw [← Ny154.out] at ho4)); have n0_ := Aside0.mk (Kd.R_lower ho4 (below_size (Qaw))); have n1_ := Aside0.mk (below_step (Qaw) hb); clear HB; have HO156 := n0_; have HB := n1_; clear n0_ n1_; clear hb ho4) | ((with_reducible refine gate_builtin (b := .append) (xs := #[.tmp 5, .tmp 6]) rfl ?_); at_builtin; refine Kd.R_append_rows (Kd.int .i64) (w0 := w) w.heap.size rfl (.tmp 5) (.tmp 6) 23 3 (.int .i64 0) 8 rfl Tryd.underlying23 info3 rfl (by decide) (by omega) v155 y154 l0 _ _ _ (fun _ => True) (fun _ => False) rfl rfl ?aO ?aR (fun _ _ h => h) (fun _ h => h.elim) ?aF ?aB ?aS ?aL ?_; (case aR => exact Qsc (Kd.C_below HR0.out HB.out)); (case aB => exact (Qaw)); (case aF => exact (fun _ _ => trivial)); (case aO => exact (Qro HO156.out)); (case aS => exact (below_size (Qaw))); (case aL => have := LMc2.out; omega); intro v158 w5 ho hb hg hat; rw [← Ny157.out] at ho; have n0_ := Aside0.mk (hb); have n1_ := Aside0.mk (ho); clear HB; clear HO156; have HB := n0_; have HO159 := n1_; clear n0_ n1_; clear ho hb hg hat))
  go_ret
  exact ⟨_, by first | rfl | (simp [errW_none, errW_some] <;> rfl) | (simp [*, errW_none, errW_some] <;> rfl), by (with_reducible repeat (first | apply Kd.R_alloc | apply Kd.R_drewN | apply Kd.R_drew)); exact HO159.out, by repeat (first | (with_reducible first | exact HB.out | apply below_alloc | apply pw_below_drewN | apply below_drew1) | exact HB.out)⟩
 ·rw [if_neg c2] at H
  exact absurd H (by simp)
theorem slices_Clone_Graph.calls (A0 : Option Addr) (c0 : Nat) (l0 : List Int) (r : List Int) (w : World) (hr0 : Kd.C (Kd.int .i64) w A0 l0.length l0) (hc0 : l0.length ≤ c0) (h : slices_Clone_Graph.f l0 = some r) :
  Calls Tryd.prog 65 #[.slice A0 l0.length c0] w fun e w' => ∃ v0_ : Value, e = .returned (v0_) ∧ Kd.R (Kd.int .i64) 3 w' w.heap.size (fun _ => True) v0_ r ∧ Below w.heap.size w w' := by
 cases A0 with
 | some a0 => exact slices_Clone_Graph.calls_some a0 c0 l0 r w hr0 hc0 h
 | none =>
  have hl : l0 = [] := by
   rcases Nat.eq_zero_or_pos l0.length with h0 | h0
   ·exact List.length_eq_zero_iff.mp h0
   ·obtain ⟨ad, he, _⟩ := hr0.2.2 h0
    cases he
  subst hl
  obtain rfl : [] = r := by simpa [slices_Clone_Graph.f] using h
  clear h hr0 hc0
  have heq_ := fun (w : World) => Lib.run_eql_slice_nil (P := Tryd.prog) w 23 3 none 0 c0 0 0 Tryd.underlying23
  go_enter Tryd.func65, Tryd.ntmps65
  go_wp2
  go_ret
  exact ⟨_, rfl, Kd.R_nil _ _ _ _ _, Below.refl _ _⟩
end
noncomputable section
def lampblacklaw07_Few.f (l0 : List Int) : Option (List Int) := if 0 ≤ (mn (l0.length : Int) 12) then (if (mn (l0.length : Int) 12) ≤ (l0.length : Int) then ((slices_Clone_Graph.f (l0.take ((mn (l0.length : Int) 12) : Int).toNat)).bind fun t161 => (some t161)) else (none)) else (none)
set_option maxHeartbeats 8000000 in
set_option maxRecDepth 100000 in
theorem lampblacklaw07_Few.calls (A0 : Option Addr) (c0 : Nat) (l0 : List Int) (r : List Int) (w : World) (hr0 : Kd.C (Kd.int .i64) w A0 l0.length l0) (hc0 : l0.length ≤ c0) (h : lampblacklaw07_Few.f l0 = some r) :
  Calls Tryd.prog 22 #[.slice A0 l0.length c0] w fun e w' => ∃ v0_ : Value, e = .returned (v0_) ∧ Kd.R (Kd.int .i64) 3 w' w.heap.size (fun _ => True) v0_ r ∧ Below w.heap.size w w' := by
 have HR0 := Aside0.mk hr0
 have HC0 := Aside0.mk hc0
 clear hr0 hc0
 have HB := Aside0.mk (Below.refl w.heap.size w)
 have H : (if 0 ≤ (mn (l0.length : Int) 12) then (if (mn (l0.length : Int) 12) ≤ (l0.length : Int) then ((slices_Clone_Graph.f (l0.take ((mn (l0.length : Int) 12) : Int).toNat)).bind fun t161 => (some t161)) else (none)) else (none)) = some r := h
 clear h
 obtain ⟨ji2, hji2⟩ : ∃ j_ : Int, (mn (l0.length : Int) 12) = j_ := ⟨_, rfl⟩
 replace H : (if 0 ≤ (ji2) then (if (ji2) ≤ (l0.length : Int) then ((slices_Clone_Graph.f (l0.take ((ji2) : Int).toNat)).bind fun t161 => (some t161)) else (none)) else (none)) = some r := by first | (rw [hji2] at H; exact H) | (simp only [hji2] at H ⊢; exact H)
 (try (have hji2h : ji2 ≤ 12 := by (rw [← hji2]; unfold mn; (repeat' split) <;> omega)))
 (try (have hji2g : ji2 ≤ 64 := by omega))
 (try (have hji2l : 0 ≤ ji2 := by (rw [← hji2]; unfold mn; (repeat' split) <;> omega)))
 (try (have hji2m : 0 ≤ ji2 := by omega))
 have hji2_ : (if 12 < (l0.length : Int) then 12 else (l0.length : Int)) = ji2 := hji2
 by_cases c3 : 0 ≤ (ji2)
 ·rw [if_pos c3] at H
  have c3b0 := eq_true c3
  have c3b1 : decide (0 ≤ (ji2)) = true := decide_eq_true c3
  clear c3
  by_cases c4 : (ji2) ≤ (l0.length : Int)
  ·rw [if_pos c4] at H
   have c4b0 := eq_true c4
   have c4b1 : decide ((ji2) ≤ (l0.length : Int)) = true := decide_eq_true c4
   clear c4
   replace H := Option.bind_eq_some_iff.mp H
   obtain ⟨t161, A50, H⟩ := H
   replace H : (some t161) = some r := H
   have A5 := Aside0.mk A50
   clear A50
   obtain rfl := Option.some.inj H
   obtain ⟨i06, hi06, _, hsz6, _⟩ := info_parts info3
   obtain ⟨hcut6, hA6, hC6⟩ := print_take_of (P := Tryd.prog) (Value.int .i64) 0 23 3 .i64 Tryd.underlying23 hi06 hsz6 A0 c0 l0 (ji2) (of_decide_eq_true (Qas)) (of_decide_eq_true (Qas)) HC0.out
   have HR160 := Aside0.mk (Kd.C_of_reads (h1 := fun _ => rfl) (hA6 _ (Kd.reads_of_C HR0.out)))
   have HC160 := Aside0.mk hC6
   clear hA6 hC6 hi06 hsz6
   go_enter Tryd.func22, Tryd.ntmps22
   go_wp2_with (first | ((with_reducible refine gate_callee (f := 65) rfl ?_); refine goesL_ (some 8) rfl rfl Tryd.func65 (by kernel_rfl) rfl #[.slice A0 (l0.take ((ji2) : Int).toNat).length c0] rfl (by (try simp only [List.map_toArray, List.map_cons, List.map_nil]); first | done | (rw [show (l0.take ((ji2) : Int).toNat).length = (ji2).toNat from (by rw [List.length_take]; have h_ : ((ji2) : Int) ≤ (l0.length : Int) := of_decide_eq_true (Qas); omega)] <;> rfl) | (simp only [hji2]; rfl) | rfl | (simp only [List.length_drop, List.length_take]; rfl)) ?_; (with_reducible refine (slices_Clone_Graph.calls _ _ (l0.take ((ji2) : Int).toNat) t161 _ ?side1 ?side2 A5.out).mono ?_); (case side1 => exact Qsc HR160.out); (case side2 => exact HC160.out); rintro e w7 ⟨v162, rfl, ho0, hb⟩; refine ⟨_, rfl, ?_⟩; have n0_ := Aside0.mk (Kd.R_lower ho0 (below_size (Qaw))); have n1_ := Aside0.mk (below_step (Qaw) hb); clear HB; have HO163 := n0_; have HB := n1_; clear n0_ n1_; (try clear hb); (try clear hb2); (try clear hk); (try clear hi); (try clear ho0)))
   go_ret
   exact ⟨_, by first | rfl | (simp [errW_none, errW_some] <;> rfl) | (simp only [← hji2]; first | rfl | (simp [errW_none, errW_some] <;> rfl)) | (simp [*, errW_none, errW_some] <;> rfl), by (with_reducible repeat (first | apply Kd.R_alloc | apply Kd.R_drewN | apply Kd.R_drew)); exact HO163.out, by repeat (first | (with_reducible first | exact HB.out | apply below_alloc | apply pw_below_drewN | apply below_drew1) | exact HB.out)⟩
  ·rw [if_neg c4] at H
   exact absurd H (by simp)
 ·rw [if_neg c3] at H
  exact absurd H (by simp)
end
noncomputable section
mutual
def lampblackref01_IsGraph.l0 : Nat → List Int → Int → List Int → Int → Int → Option (Bool)
 | 0, _, _, _, _, _ => none
 | k + 1, x0, x1, x8, x9, x10 => if x10 < x9 then (if 0 ≤ x10 then (if x10 < (x8.length : Int) then (if (x0.length : Int) > x1 then (lampblackref01_IsGraph.j1 k x0 x1 x10 (rd x8 x10) x8 x9 x10 true) else (if (rd x8 x10) < 0 then (lampblackref01_IsGraph.j1 k x0 x1 x10 (rd x8 x10) x8 x9 x10 true) else (if (rd x8 x10) ≥ (shl .i64 1 (x0.length : Int)) then (lampblackref01_IsGraph.j1 k x0 x1 x10 (rd x8 x10) x8 x9 x10 true) else (lampblackref01_IsGraph.j1 k x0 x1 x10 (rd x8 x10) x8 x9 x10 ((Go.bits .and .i64 (shr .i64 (rd x8 x10) x10) 1) == 1))))) else (none)) else (none)) else (if (x0.length : Int) ≥ 1 then (some (decide ((x0.length : Int) ≤ x1))) else (some false))
def lampblackref01_IsGraph.j1 : Nat → List Int → Int → Int → Int → List Int → Int → Int → Bool → Option (Bool)
 | 0, _, _, _, _, _, _, _, _ => none
 | k + 1, x0, x1, x5, x6, x8, x9, x10, x36 => if x36 = true then (some false) else (lampblackref01_IsGraph.l1 k x0 x1 x5 x6 x8 x9 x10 (x0.length : Int) 0)
def lampblackref01_IsGraph.l1 : Nat → List Int → Int → Int → Int → List Int → Int → Int → Int → Int → Option (Bool)
 | 0, _, _, _, _, _, _, _, _, _ => none
 | k + 1, x0, x1, x5, x6, x8, x9, x10, x38, x39 => if x39 < x38 then (if 0 ≤ x39 then (if x39 < (x0.length : Int) then (if 0 ≤ x5 then (if (Go.bits .and .i64 (shr .i64 x6 x39) 1) = (Go.bits .and .i64 (shr .i64 (rd x0 x39) x5) 1) then (lampblackref01_IsGraph.l1 k x0 x1 x5 x6 x8 x9 x10 x38 (wrap64 (x39 + 1))) else (some false)) else (none)) else (none)) else (none)) else (lampblackref01_IsGraph.l0 k x0 x1 x8 x9 (wrap64 (x10 + 1)))
end
end
noncomputable section
mutual
def lampblackref01_Reached.l0 : Nat → List Int → Int → Int → Int → Int → Option (Int)
 | 0, _, _, _, _, _ => none
 | k + 1, x0, x1, x7, x12, x13 => if x13 < x12 then (lampblackref01_Reached.l1 k x0 x1 x7 x12 x13 (x0.length : Int) 0) else (some x7)
def lampblackref01_Reached.l1 : Nat → List Int → Int → Int → Int → Int → Int → Int → Option (Int)
 | 0, _, _, _, _, _, _, _ => none
 | k + 1, x0, x1, x7, x12, x13, x16, x17 => if x17 < x16 then (if 0 ≤ x17 then (if (Go.bits .and .i64 (shr .i64 x7 x17) 1) = 1 then (if x17 < (x0.length : Int) then (lampblackref01_Reached.l1 k x0 x1 (Go.bits .or .i64 x7 (Go.bits .and .i64 (rd x0 x17) x1)) x12 x13 x16 (wrap64 (x17 + 1))) else (none)) else (lampblackref01_Reached.l1 k x0 x1 x7 x12 x13 x16 (wrap64 (x17 + 1)))) else (none)) else (lampblackref01_Reached.l0 k x0 x1 x7 x12 (wrap64 (x13 + 1)))
end
def lampblackref01_Reached.f (k : Nat) (l0 : List Int) (a1 : Int) (a2 : Int) : Option (Int) := if 0 ≤ a2 then (lampblackref01_Reached.l0 k l0 a1 (shl .i64 1 a2) (l0.length : Int) 0) else (none)
end
noncomputable section
mutual
def lampblackref02_Connected.j0 : Nat → List Int → Int → Bool → Option (Bool)
 | 0, _, _, _ => none
 | k + 1, x0, x1, x14 => if x14 = true then (some false) else (lampblackref02_Connected.l0 k x0 x1 0)
def lampblackref02_Connected.l0 : Nat → List Int → Int → Int → Option (Bool)
 | 0, _, _, _ => none
 | k + 1, x0, x1, x5 => if 0 ≤ x5 then (if (Go.bits .and .i64 (shr .i64 x1 x5) 1) = 0 then (lampblackref02_Connected.l0 k x0 x1 (wrap64 (x5 + 1))) else ((lampblackref01_Reached.f k x0 x1 x5).bind fun t144 => (some (t144 == x1)))) else (none)
end
end
noncomputable section
def lampblackref02_Around.l0 : Nat → List Int → Int → Int → Int → Int → Option (Int)
 | 0, _, _, _, _, _ => none
 | k + 1, x0, x1, x5, x8, x9 => if x9 < x8 then (if 0 ≤ x9 then (if (Go.bits .and .i64 (shr .i64 x1 x9) 1) = 1 then (if x9 < (x0.length : Int) then (lampblackref02_Around.l0 k x0 x1 (Go.bits .or .i64 x5 (rd x0 x9)) x8 (wrap64 (x9 + 1))) else (none)) else (lampblackref02_Around.l0 k x0 x1 x5 x8 (wrap64 (x9 + 1)))) else (none)) else (some x5)
def lampblackref02_Around.f (k : Nat) (l0 : List Int) (a1 : Int) : Option (Int) := lampblackref02_Around.l0 k l0 a1 0 (l0.length : Int) 0
end
noncomputable section
def lampblackref02_Size.l0 : Nat → Int → Int → Option (Int)
 | 0, _, _ => none
 | k + 1, x0, x3 => if x0 > 0 then (lampblackref02_Size.l0 k (Go.bits .and .i64 x0 (wrap64 (x0 - 1))) (wrap64 (x3 + 1))) else (some x3)
end
noncomputable section
end
noncomputable section
end
noncomputable section
def api_Graph_int_30.l0 : Nat → List Int → List Int → Int → Int → Option (Bool)
 | 0, _, _, _, _ => none
 | k + 1, x0, x1, x12, x13 => if x13 < x12 then (if 0 ≤ x13 then (if x13 < (x0.length : Int) then (if x13 < (x1.length : Int) then (if (rd x0 x13) = (rd x1 x13) then (api_Graph_int_30.l0 k x0 x1 x12 (wrap64 (x13 + 1))) else (some false)) else (none)) else (none)) else (none)) else (some true)
end
end Go.Proofs.YtjloppfdagfpmaaDoor.X
end
section
namespace Go.Proofs.YtjloppfdagfpmaaDoor.X
open Go.RowKit YtjloppfdagfpmaaDoorW.PrintWords YtjloppfdagfpmaaDoorW.PrintLast YtjloppfdagfpmaaDoorW.PrintMore YtjloppfdagfpmaaDoor.T
theorem mn_nat (a b : Nat) : mn (a : Int) (b : Int) = ((min a b : Nat) : Int) := by unfold mn; split <;> omega
def low (a : Nat) : Nat := (els a 9).headD 0
theorem few_eq (g : List Int) (hg : g.length < 2 ^ 44) : ∃ h, lampblacklaw07_Few.f g = some h ∧ (chk 8 g = true → h = g) ∧ (chk 8 g = false → chk 8 h = false) ∧ h.length ≤ 12 := by
 have hm : mn (g.length : Int) 12 = ((min g.length 12 : Nat) : Int) := mn_nat g.length 12
 refine ⟨g.take (min g.length 12), ?_, ?_, ?_, ?_⟩
 ·unfold lampblacklaw07_Few.f slices_Clone_Graph.f
  simp only [hm, Int.toNat_natCast]
  rw [if_pos (by omega), if_pos (by omega)]
  simp only [Option.bind_some, List.length_nil, List.nil_append]
  rw [if_pos (by rw [List.length_take]; omega)]
  rfl
 ·intro h
  simp only [chk, Bool.and_eq_true, decide_eq_true_eq] at h
  exact List.take_of_length_le (by omega)
 ·intro h
  by_cases hl : g.length ≤ 12
  ·rw [List.take_of_length_le (by omega)]; exact h
  ·unfold chk
   have : ¬ (List.take (min g.length 12) g).length ≤ 8 := by rw [List.length_take]; omega
   rw [decide_eq_false this, Bool.and_false, Bool.false_and]
 ·rw [List.length_take]; omega
theorem awake_ev : Ev (fun k => lampblacklaw07_awake.f k) true := Ev.of (lampblacklaw07_awake.mono) (k := 40) (by decide +kernel)
end Go.Proofs.YtjloppfdagfpmaaDoor.X
end
section
namespace Go.Proofs.YtjloppfdagfpmaaDoor.X
open Go.RowKit YtjloppfdagfpmaaDoorW.PrintWords YtjloppfdagfpmaaDoorW.PrintLast YtjloppfdagfpmaaDoorW.PrintMore
attribute [local go_sem] max2_int min2_int max_two min_two max_three min_three max_four min_four
noncomputable section
mutual
def minor_town_crosses.l0 : Nat → List Int → List Int → Int → List Int → Int → Int → Option (Bool)
 | 0, _, _, _, _, _, _ => none
 | k + 1, x0, x1, x5, x15, x16, x17 => if x17 < x16 then (if 0 ≤ x17 then (if x17 < (x15.length : Int) then (if 0 ≤ (rd x15 x17) then (if (rd x15 x17) < (x0.length : Int) then (if 0 ≤ x5 then (if x5 < (x1.length : Int) then (if 0 ≤ (rd x1 x5) then (if (Go.bits .and .i64 (shr .i64 (rd x0 (rd x15 x17)) (rd x1 x5)) 1) = 0 then (minor_town_crosses.l0 k x0 x1 x5 x15 x16 (wrap64 (x17 + 1))) else (minor_town_crosses.l1 k x0 x1 x5 x17 x15 x16 x17 x17 0)) else (none)) else (none)) else (none)) else (none)) else (none)) else (none)) else (none)) else (some false)
def minor_town_crosses.l1 : Nat → List Int → List Int → Int → Int → List Int → Int → Int → Int → Int → Option (Bool)
 | 0, _, _, _, _, _, _, _, _, _ => none
 | k + 1, x0, x1, x5, x6, x15, x16, x17, x33, x34 => if x34 < x33 then (minor_town_crosses.l2 k x0 x1 x5 x6 x34 (wrap64 (x6 + 1)) x15 x16 x17 x33 x34) else (minor_town_crosses.l0 k x0 x1 x5 x15 x16 (wrap64 (x17 + 1)))
def minor_town_crosses.l2 : Nat → List Int → List Int → Int → Int → Int → Int → List Int → Int → Int → Int → Int → Option (Bool)
 | 0, _, _, _, _, _, _, _, _, _, _, _ => none
 | k + 1, x0, x1, x5, x6, x8, x9, x15, x16, x17, x33, x34 => if x9 < x5 then (if 0 ≤ x8 then (if x8 < (x1.length : Int) then (if 0 ≤ (rd x1 x8) then (if (rd x1 x8) < (x0.length : Int) then (if 0 ≤ x9 then (if x9 < (x1.length : Int) then (if 0 ≤ (rd x1 x9) then (if (Go.bits .and .i64 (shr .i64 (rd x0 (rd x1 x8)) (rd x1 x9)) 1) = 1 then (some true) else (minor_town_crosses.l2 k x0 x1 x5 x6 x8 (wrap64 (x9 + 1)) x15 x16 x17 x33 x34)) else (none)) else (none)) else (none)) else (none)) else (none)) else (none)) else (none)) else (minor_town_crosses.l1 k x0 x1 x5 x6 x15 x16 x17 x33 (wrap64 (x34 + 1)))
end
def minor_town_crosses.f (k : Nat) (l0 : List Int) (l1 : List Int) : Option (Bool) := if 0 ≤ (wrap64 ((l1.length : Int) - 1)) then (if (wrap64 ((l1.length : Int) - 1)) ≤ (l1.length : Int) then (minor_town_crosses.l0 k l0 l1 (wrap64 ((l1.length : Int) - 1)) (l1.take ((wrap64 ((l1.length : Int) - 1)) : Int).toNat) ((l1.take ((wrap64 ((l1.length : Int) - 1)) : Int).toNat).length : Int) 0) else (none)) else (none)
set_option maxHeartbeats 8000000 in
set_option maxRecDepth 100000 in
theorem minor_town_crosses.calls (k : Nat) (A0 : Option Addr) (c0 : Nat) (l0 : List Int) (A1 : Option Addr) (c1 : Nat) (l1 : List Int) (r : Bool) (w : World) (hr0 : Kd.C (Kd.int .i64) w A0 l0.length l0) (hc0 : l0.length ≤ c0) (hr1 : Kd.C (Kd.int .i64) w A1 l1.length l1) (hc1 : l1.length ≤ c1) (h : minor_town_crosses.f k l0 l1 = some r) :
  Calls Tryd.prog 83 #[.slice A0 l0.length c0, .slice A1 l1.length c1] w fun e w' => e = .returned (.bool r) ∧ Drawn0 w w' := by
 have HR0 := Aside0.mk hr0
 have HC0 := Aside0.mk hc0
 clear hr0 hc0
 have HR1 := Aside0.mk hr1
 have HC1 := Aside0.mk hc1
 clear hr1 hc1
 have H : (if 0 ≤ (wrap64 ((l1.length : Int) - 1)) then (if (wrap64 ((l1.length : Int) - 1)) ≤ (l1.length : Int) then (minor_town_crosses.l0 k l0 l1 (wrap64 ((l1.length : Int) - 1)) (l1.take ((wrap64 ((l1.length : Int) - 1)) : Int).toNat) ((l1.take ((wrap64 ((l1.length : Int) - 1)) : Int).toNat).length : Int) 0) else (none)) else (none)) = some r := h
 clear h
 obtain ⟨ji3, hji3⟩ : ∃ j_ : Int, (wrap64 ((l1.length : Int) - 1)) = j_ := ⟨_, rfl⟩
 replace H : (if 0 ≤ (ji3) then (if (ji3) ≤ (l1.length : Int) then (minor_town_crosses.l0 k l0 l1 ji3 (l1.take ((ji3) : Int).toNat) ((l1.take ((ji3) : Int).toNat).length : Int) 0) else (none)) else (none)) = some r := by first | (rw [hji3] at H; exact H) | (simp only [hji3] at H ⊢; exact H)
 have hji3w : (IntKind.i64.wrap ((l1.length : Int) - 1)) = ji3 := (i64_w _).trans hji3
 by_cases c4 : 0 ≤ (ji3)
 ·rw [if_pos c4] at H
  have c4b0 := eq_true c4
  have c4b1 : decide (0 ≤ (ji3)) = true := decide_eq_true c4
  clear c4
  by_cases c5 : (ji3) ≤ (l1.length : Int)
  ·rw [if_pos c5] at H
   have c5b0 := eq_true c5
   have c5b1 : decide ((ji3) ≤ (l1.length : Int)) = true := decide_eq_true c5
   clear c5
   have H' := Aside0.mk H
   clear H
   obtain ⟨i06, hi06, _, hsz6, _⟩ := info_parts info3
   obtain ⟨hcut6, hA6, hC6⟩ := print_take_of (P := Tryd.prog) (Value.int .i64) 0 22 3 .i64 Tryd.underlying22 hi06 hsz6 A1 c1 l1 (ji3) (of_decide_eq_true (Qas)) (of_decide_eq_true (Qas)) HC1.out
   have HR521 := Aside0.mk (Kd.C_of_reads (h1 := fun _ => rfl) (hA6 _ (Kd.reads_of_C HR1.out)))
   have HC521 := Aside0.mk hC6
   clear hA6 hC6 hi06 hsz6
   generalize l1.take ((ji3) : Int).toNat = yc6 at *
   go_enter Tryd.func83, Tryd.ntmps83
   go_wp2
   repeat (go_quiet (fail); try go_wp2)
   go_loopg [17] k (fun kq v17 w' => ∃ (x17_1 : Int), v17 = .int .i64 x17_1 ∧ Aside0 (minor_town_crosses.l0 kq l0 l1 ji3 yc6 (yc6.length : Int) x17_1 = some r) ∧ Aside0 (kq ≤ k) ∧ Drawn0 w w')
   case atStart => exact ⟨(0), (Qrs), H', ⟨Nat.le_refl _⟩, by repeat (first | exact Drawn0.refl _ | apply Drawn0.step)⟩
   case round =>
    clear H'
    try clear c1
    try clear p2
    try clear c4
    try clear c4b0
    try clear c4b1
    try clear c5
    try clear c5b0
    try clear c5b1
    try clear p6
    obtain ⟨x17_1, rfl, HA, HK1, ⟨m1, rfl⟩⟩ := hrel
    cases gk with
    | zero => exact absurd HA.out (by simp [minor_town_crosses.l0])
    | succ k1 =>
     have H := HA.out
     clear HA
     simp only [minor_town_crosses.l0] at H
     by_cases c7 : x17_1 < (yc6.length : Int)
     ·rw [if_pos c7] at H
      have c7b0 : decide (x17_1 < (yc6.length : Int)) = true := decide_eq_true c7
      clear c7
      by_cases c8 : 0 ≤ x17_1
      ·rw [if_pos c8] at H
       have c8b0 : decide (0 ≤ x17_1) = true := decide_eq_true c8
       clear c8
       by_cases c9 : x17_1 < (yc6.length : Int)
       ·rw [if_pos c9] at H
        have c9b0 : decide (x17_1 < (yc6.length : Int)) = true := decide_eq_true c9
        clear c9
        by_cases c10 : 0 ≤ (rd yc6 x17_1)
        ·rw [if_pos c10] at H
         have c10b0 : decide (0 ≤ (rd yc6 x17_1)) = true := decide_eq_true c10
         clear c10
         by_cases c11 : (rd yc6 x17_1) < (l0.length : Int)
         ·rw [if_pos c11] at H
          have c11b0 : decide ((rd yc6 x17_1) < (l0.length : Int)) = true := decide_eq_true c11
          clear c11
          by_cases c12 : 0 ≤ ji3
          ·rw [if_pos c12] at H
           have c12b0 : decide (0 ≤ ji3) = true := decide_eq_true c12
           clear c12
           by_cases c13 : ji3 < (l1.length : Int)
           ·rw [if_pos c13] at H
            have c13b0 : decide (ji3 < (l1.length : Int)) = true := decide_eq_true c13
            clear c13
            by_cases c14 : 0 ≤ (rd l1 ji3)
            ·rw [if_pos c14] at H
             have c14b0 := eq_true c14
             have c14b1 : decide (0 ≤ (rd l1 ji3)) = true := decide_eq_true c14
             clear c14
             obtain ⟨ji15, hji15⟩ : ∃ j_ : Int, (shr .i64 (rd l0 (rd yc6 x17_1)) (rd l1 ji3)) = j_ := ⟨_, rfl⟩
             replace H : (if (Go.bits .and .i64 (ji15) 1) = 0 then (minor_town_crosses.l0 k1 l0 l1 ji3 yc6 (yc6.length : Int) (wrap64 (x17_1 + 1))) else (minor_town_crosses.l1 k1 l0 l1 ji3 x17_1 yc6 (yc6.length : Int) x17_1 x17_1 0)) = some r := by first | (rw [hji15] at H; exact H) | (simp only [hji15] at H ⊢; exact H)
             have hji15_ : ((rd l0 (rd yc6 x17_1)) / 2 ^ min (rd l1 ji3).toNat 64) = ji15 := hji15
             have hji15z : (rd l1 ji3) ≤ 64 → ((rd l0 (rd yc6 x17_1)) / 2 ^ (rd l1 ji3).toNat) = ji15 := shr_small hji15
             by_cases c16 : (Go.bits .and .i64 (ji15) 1) = 0
             ·rw [if_pos c16] at H
              have c16b0 : ((Go.bits .and .i64 (ji15) 1) == 0) = true := beq_iff_eq.mpr c16
              have c16b1 : ((Go.bits .and .i64 (ji15) 1) != 0) = false := bne_eq_false_iff_eq.mpr c16
              clear c16
              have H' := Aside0.mk H
              clear H
              have p522 : 0 ≤ (x17_1 : Int) := of_decide_eq_true (Qas)
              have q522 : x17_1 < (yc6.length : Int) := of_decide_eq_true (Qas)
              obtain ⟨ad522, e522, hx522_0⟩ := Kd.at_int HR521.out x17_1 p522 q522
              cases e522
              replace p522 := eq_true p522
              replace q522 := eq_true q522
              have p523 : 0 ≤ ((rd yc6 x17_1) : Int) := of_decide_eq_true (Qas)
              have q523 : (rd yc6 x17_1) < (l0.length : Int) := of_decide_eq_true (Qas)
              obtain ⟨ad523, e523, hx523_0⟩ := Kd.at_int HR0.out (rd yc6 x17_1) p523 q523
              cases e523
              replace p523 := eq_true p523
              replace q523 := eq_true q523
              have p524 : 0 ≤ (ji3 : Int) := of_decide_eq_true (Qas)
              have q524 : ji3 < (l1.length : Int) := of_decide_eq_true (Qas)
              obtain ⟨ad524, e524, hx524_0⟩ := Kd.at_int HR1.out ji3 p524 q524
              obtain rfl : ad522 = ad524 := (by injection e524)
              replace p524 := eq_true p524
              replace q524 := eq_true q524
              go_wp2
              repeat (go_quiet (fail); try go_wp2)
              go_roundg k1
              case measure => have := HK1.out; omega
              case rel => exact ⟨(wrap64 (x17_1 + 1)), (Qrs), H', ⟨by have := HK1.out; omega⟩, by repeat (first | exact Drawn0.refl _ | apply Drawn0.step)⟩
             ·rw [if_neg c16] at H
              have c16b0 : ((Go.bits .and .i64 (ji15) 1) == 0) = false := beq_eq_false_iff_ne.mpr c16
              have c16b1 : ((Go.bits .and .i64 (ji15) 1) != 0) = true := bne_iff_ne.mpr c16
              have H' := Aside0.mk H
              clear H
              have p522 : 0 ≤ (x17_1 : Int) := of_decide_eq_true (Qas)
              have q522 : x17_1 < (yc6.length : Int) := of_decide_eq_true (Qas)
              obtain ⟨ad522, e522, hx522_0⟩ := Kd.at_int HR521.out x17_1 p522 q522
              cases e522
              replace p522 := eq_true p522
              replace q522 := eq_true q522
              have p523 : 0 ≤ ((rd yc6 x17_1) : Int) := of_decide_eq_true (Qas)
              have q523 : (rd yc6 x17_1) < (l0.length : Int) := of_decide_eq_true (Qas)
              obtain ⟨ad523, e523, hx523_0⟩ := Kd.at_int HR0.out (rd yc6 x17_1) p523 q523
              cases e523
              replace p523 := eq_true p523
              replace q523 := eq_true q523
              have p524 : 0 ≤ (ji3 : Int) := of_decide_eq_true (Qas)
              have q524 : ji3 < (l1.length : Int) := of_decide_eq_true (Qas)
              obtain ⟨ad524, e524, hx524_0⟩ := Kd.at_int HR1.out ji3 p524 q524
              obtain rfl : ad522 = ad524 := (by injection e524)
              replace p524 := eq_true p524
              replace q524 := eq_true q524
              go_wp2
              repeat (go_quiet (fail); try go_wp2)
              go_loopg [34] k1 (fun kq v34 w' => ∃ (x34_2 : Int), v34 = .int .i64 x34_2 ∧ Aside0 (minor_town_crosses.l1 kq l0 l1 ji3 x17_1 yc6 (yc6.length : Int) x17_1 x17_1 x34_2 = some r) ∧ Aside0 (kq ≤ k1) ∧ Drawn0 w w')
              case atStart => exact ⟨(0), (Qrs), H', ⟨Nat.le_refl _⟩, by repeat (first | exact Drawn0.refl _ | apply Drawn0.step)⟩
              case round =>
               clear H'
               try clear c1
               try clear p2
               try clear c4
               try clear c4b0
               try clear c4b1
               try clear c5
               try clear c5b0
               try clear c5b1
               try clear p5
               try clear q5
               try clear hx5
               try clear p6
               try clear c7
               try clear c7b0
               try clear c8
               try clear c8b0
               try clear c9
               try clear c9b0
               try clear c10
               try clear c10b0
               try clear c11
               try clear c11b0
               try clear c12
               try clear c12b0
               try clear c13
               try clear c13b0
               try clear c14
               try clear c14b0
               try clear c14b1
               try clear c16
               try clear c16b0
               try clear c16b1
               try clear hx522_0
               try clear hx523_0
               try clear hx524_0
               try clear p2
               try clear p522
               try clear p523
               try clear p524
               try clear p6
               try clear q522
               try clear q523
               try clear q524
               obtain ⟨x34_2, rfl, HA, HK2, ⟨m2, rfl⟩⟩ := hrel
               cases gk with
               | zero => exact absurd HA.out (by simp [minor_town_crosses.l1])
               | succ k2 =>
                have H := HA.out
                clear HA
                simp only [minor_town_crosses.l1] at H
                by_cases c17 : x34_2 < x17_1
                ·rw [if_pos c17] at H
                 have c17b0 : decide (x34_2 < x17_1) = true := decide_eq_true c17
                 clear c17
                 have H' := Aside0.mk H
                 clear H
                 go_wp2
                 repeat (go_quiet (fail); try go_wp2)
                 go_loopg [9] k2 (fun kq v9 w' => ∃ (x9_3 : Int), v9 = .int .i64 x9_3 ∧ Aside0 (minor_town_crosses.l2 kq l0 l1 ji3 x17_1 x34_2 x9_3 yc6 (yc6.length : Int) x17_1 x17_1 x34_2 = some r) ∧ Aside0 (kq ≤ k2) ∧ Drawn0 w w')
                 case atStart => exact ⟨(wrap64 (x17_1 + 1)), (Qrs), H', ⟨Nat.le_refl _⟩, by repeat (first | exact Drawn0.refl _ | apply Drawn0.step)⟩
                 case round =>
                  clear H'
                  try clear c1
                  try clear p2
                  try clear c4
                  try clear c4b0
                  try clear c4b1
                  try clear c5
                  try clear c5b0
                  try clear c5b1
                  try clear p5
                  try clear q5
                  try clear hx5
                  try clear p6
                  try clear c7
                  try clear c7b0
                  try clear c8
                  try clear c8b0
                  try clear c9
                  try clear c9b0
                  try clear c10
                  try clear c10b0
                  try clear c11
                  try clear c11b0
                  try clear c12
                  try clear c12b0
                  try clear c13
                  try clear c13b0
                  try clear c14
                  try clear c14b0
                  try clear c14b1
                  try clear c16
                  try clear c16b0
                  try clear c16b1
                  try clear c17
                  try clear c17b0
                  try clear hx522_0
                  try clear hx523_0
                  try clear hx524_0
                  try clear p2
                  try clear p5
                  try clear p522
                  try clear p523
                  try clear p524
                  try clear p6
                  try clear q5
                  try clear q522
                  try clear q523
                  try clear q524
                  obtain ⟨x9_3, rfl, HA, HK3, ⟨m3, rfl⟩⟩ := hrel
                  cases gk with
                  | zero => exact absurd HA.out (by simp [minor_town_crosses.l2])
                  | succ k3 =>
                   have H := HA.out
                   clear HA
                   simp only [minor_town_crosses.l2] at H
                   by_cases c18 : x9_3 < ji3
                   ·rw [if_pos c18] at H
                    have c18b0 : decide (x9_3 < ji3) = true := decide_eq_true c18
                    clear c18
                    by_cases c19 : 0 ≤ x34_2
                    ·rw [if_pos c19] at H
                     have c19b0 : decide (0 ≤ x34_2) = true := decide_eq_true c19
                     clear c19
                     by_cases c20 : x34_2 < (l1.length : Int)
                     ·rw [if_pos c20] at H
                      have c20b0 : decide (x34_2 < (l1.length : Int)) = true := decide_eq_true c20
                      clear c20
                      by_cases c21 : 0 ≤ (rd l1 x34_2)
                      ·rw [if_pos c21] at H
                       have c21b0 : decide (0 ≤ (rd l1 x34_2)) = true := decide_eq_true c21
                       clear c21
                       by_cases c22 : (rd l1 x34_2) < (l0.length : Int)
                       ·rw [if_pos c22] at H
                        have c22b0 : decide ((rd l1 x34_2) < (l0.length : Int)) = true := decide_eq_true c22
                        clear c22
                        by_cases c23 : 0 ≤ x9_3
                        ·rw [if_pos c23] at H
                         have c23b0 : decide (0 ≤ x9_3) = true := decide_eq_true c23
                         clear c23
                         by_cases c24 : x9_3 < (l1.length : Int)
                         ·rw [if_pos c24] at H
                          have c24b0 : decide (x9_3 < (l1.length : Int)) = true := decide_eq_true c24
                          clear c24
                          by_cases c25 : 0 ≤ (rd l1 x9_3)
                          ·rw [if_pos c25] at H
                           have c25b0 := eq_true c25
                           have c25b1 : decide (0 ≤ (rd l1 x9_3)) = true := decide_eq_true c25
                           clear c25
                           obtain ⟨ji26, hji26⟩ : ∃ j_ : Int, (shr .i64 (rd l0 (rd l1 x34_2)) (rd l1 x9_3)) = j_ := ⟨_, rfl⟩
                           replace H : (if (Go.bits .and .i64 (ji26) 1) = 1 then (some true) else (minor_town_crosses.l2 k3 l0 l1 ji3 x17_1 x34_2 (wrap64 (x9_3 + 1)) yc6 (yc6.length : Int) x17_1 x17_1 x34_2)) = some r := by first | (rw [hji26] at H; exact H) | (simp only [hji26] at H ⊢; exact H)
                           have hji26_ : ((rd l0 (rd l1 x34_2)) / 2 ^ min (rd l1 x9_3).toNat 64) = ji26 := hji26
                           have hji26z : (rd l1 x9_3) ≤ 64 → ((rd l0 (rd l1 x34_2)) / 2 ^ (rd l1 x9_3).toNat) = ji26 := shr_small hji26
                           by_cases c27 : (Go.bits .and .i64 (ji26) 1) = 1
                           ·rw [if_pos c27] at H
                            have c27b0 : ((Go.bits .and .i64 (ji26) 1) == 1) = true := beq_iff_eq.mpr c27
                            have c27b1 : ((Go.bits .and .i64 (ji26) 1) != 1) = false := bne_eq_false_iff_eq.mpr c27
                            clear c27
                            obtain rfl := Option.some.inj H
                            have p525 : 0 ≤ (x34_2 : Int) := of_decide_eq_true (Qas)
                            have q525 : x34_2 < (l1.length : Int) := of_decide_eq_true (Qas)
                            obtain ⟨ad525, e525, hx525_0⟩ := Kd.at_int HR1.out x34_2 p525 q525
                            obtain rfl : ad522 = ad525 := (by injection e525)
                            replace p525 := eq_true p525
                            replace q525 := eq_true q525
                            have p526 : 0 ≤ ((rd l1 x34_2) : Int) := of_decide_eq_true (Qas)
                            have q526 : (rd l1 x34_2) < (l0.length : Int) := of_decide_eq_true (Qas)
                            obtain ⟨ad526, e526, hx526_0⟩ := Kd.at_int HR0.out (rd l1 x34_2) p526 q526
                            obtain rfl : ad523 = ad526 := (by injection e526)
                            replace p526 := eq_true p526
                            replace q526 := eq_true q526
                            have p527 : 0 ≤ (x9_3 : Int) := of_decide_eq_true (Qas)
                            have q527 : x9_3 < (l1.length : Int) := of_decide_eq_true (Qas)
                            obtain ⟨ad527, e527, hx527_0⟩ := Kd.at_int HR1.out x9_3 p527 q527
                            obtain rfl : ad522 = ad527 := (by injection e527)
                            replace p527 := eq_true p527
                            replace q527 := eq_true q527
                            go_wp2
                            repeat (go_quiet (fail); try go_wp2)
                            go_ret
                            exact ⟨by first | rfl | (simp; done) | (simp only [← hji3, ← hji15, ← hji26] <;> (first | rfl | simp)) | (simp [*]; done), by repeat (first | exact Drawn0.refl _ | apply Drawn0.step)⟩
                           ·rw [if_neg c27] at H
                            have c27b0 : ((Go.bits .and .i64 (ji26) 1) == 1) = false := beq_eq_false_iff_ne.mpr c27
                            have c27b1 : ((Go.bits .and .i64 (ji26) 1) != 1) = true := bne_iff_ne.mpr c27
                            have H' := Aside0.mk H
                            clear H
                            have p525 : 0 ≤ (x34_2 : Int) := of_decide_eq_true (Qas)
                            have q525 : x34_2 < (l1.length : Int) := of_decide_eq_true (Qas)
                            obtain ⟨ad525, e525, hx525_0⟩ := Kd.at_int HR1.out x34_2 p525 q525
                            obtain rfl : ad522 = ad525 := (by injection e525)
                            replace p525 := eq_true p525
                            replace q525 := eq_true q525
                            have p526 : 0 ≤ ((rd l1 x34_2) : Int) := of_decide_eq_true (Qas)
                            have q526 : (rd l1 x34_2) < (l0.length : Int) := of_decide_eq_true (Qas)
                            obtain ⟨ad526, e526, hx526_0⟩ := Kd.at_int HR0.out (rd l1 x34_2) p526 q526
                            obtain rfl : ad523 = ad526 := (by injection e526)
                            replace p526 := eq_true p526
                            replace q526 := eq_true q526
                            have p527 : 0 ≤ (x9_3 : Int) := of_decide_eq_true (Qas)
                            have q527 : x9_3 < (l1.length : Int) := of_decide_eq_true (Qas)
                            obtain ⟨ad527, e527, hx527_0⟩ := Kd.at_int HR1.out x9_3 p527 q527
                            obtain rfl : ad522 = ad527 := (by injection e527)
                            replace p527 := eq_true p527
                            replace q527 := eq_true q527
                            go_wp2
                            repeat (go_quiet (fail); try go_wp2)
                            go_roundg k3
                            case measure => have := HK1.out; have := HK2.out; have := HK3.out; omega
                            case rel => exact ⟨(wrap64 (x9_3 + 1)), (Qrs), H', ⟨by have := HK1.out; have := HK2.out; have := HK3.out; omega⟩, by repeat (first | exact Drawn0.refl _ | apply Drawn0.step)⟩
                          ·rw [if_neg c25] at H
                           exact absurd H (by simp)
                         ·rw [if_neg c24] at H
                          exact absurd H (by simp)
                        ·rw [if_neg c23] at H
                         exact absurd H (by simp)
                       ·rw [if_neg c22] at H
                        exact absurd H (by simp)
                      ·rw [if_neg c21] at H
                       exact absurd H (by simp)
                     ·rw [if_neg c20] at H
                      exact absurd H (by simp)
                    ·rw [if_neg c19] at H
                     exact absurd H (by simp)
                   ·rw [if_neg c18] at H
                    have c18b0 : decide (x9_3 < ji3) = false := decide_eq_false c18
                    clear c18
                    have H' := Aside0.mk H
                    clear H
                    go_wp2
                    repeat (go_quiet (fail); try go_wp2)
                    go_roundg k3
                    case measure => have := HK1.out; have := HK2.out; have := HK3.out; omega
                    case rel => exact ⟨(wrap64 (x34_2 + 1)), (Qrs), H', ⟨by have := HK1.out; have := HK2.out; have := HK3.out; omega⟩, by repeat (first | exact Drawn0.refl _ | apply Drawn0.step)⟩
                ·rw [if_neg c17] at H
                 have c17b0 : decide (x34_2 < x17_1) = false := decide_eq_false c17
                 clear c17
                 have H' := Aside0.mk H
                 clear H
                 go_wp2
                 repeat (go_quiet (fail); try go_wp2)
                 go_roundg k2
                 case measure => have := HK1.out; have := HK2.out; omega
                 case rel => exact ⟨(wrap64 (x17_1 + 1)), (Qrs), H', ⟨by have := HK1.out; have := HK2.out; omega⟩, by repeat (first | exact Drawn0.refl _ | apply Drawn0.step)⟩
            ·rw [if_neg c14] at H
             exact absurd H (by simp)
           ·rw [if_neg c13] at H
            exact absurd H (by simp)
          ·rw [if_neg c12] at H
           exact absurd H (by simp)
         ·rw [if_neg c11] at H
          exact absurd H (by simp)
        ·rw [if_neg c10] at H
         exact absurd H (by simp)
       ·rw [if_neg c9] at H
        exact absurd H (by simp)
      ·rw [if_neg c8] at H
       exact absurd H (by simp)
     ·rw [if_neg c7] at H
      have c7b0 : decide (x17_1 < (yc6.length : Int)) = false := decide_eq_false c7
      clear c7
      obtain rfl := Option.some.inj H
      go_wp2
      repeat (go_quiet (fail); try go_wp2)
      go_ret
      exact ⟨by first | rfl | (simp; done) | (simp only [← hji3] <;> (first | rfl | simp)) | (simp [*]; done), by repeat (first | exact Drawn0.refl _ | apply Drawn0.step)⟩
  ·rw [if_neg c5] at H
   exact absurd H (by simp)
 ·rw [if_neg c4] at H
  exact absurd H (by simp)
end
noncomputable section
def lampblackref02_IsOrder.l0 : Nat → List Int → Int → Int → List Int → Int → Int → Option (Bool)
 | 0, _, _, _, _, _, _ => none
 | k + 1, x0, x1, x5, x8, x9, x10 => if x10 < x9 then (if 0 ≤ x10 then (if x10 < (x8.length : Int) then (if (rd x8 x10) < 0 then (some false) else (if (rd x8 x10) ≥ x1 then (some false) else (if 0 ≤ (rd x8 x10) then (if (Go.bits .and .i64 (shr .i64 x5 (rd x8 x10)) 1) = 1 then (some false) else (lampblackref02_IsOrder.l0 k x0 x1 (Go.bits .or .i64 x5 (shl .i64 1 (rd x8 x10))) x8 x9 (wrap64 (x10 + 1)))) else (none)))) else (none)) else (none)) else (some ((x0.length : Int) == x1))
end
noncomputable section
mutual
def lampblackref07_IsOuter.l0 : Nat → List Int → List Int → Int → Int → Option (Bool)
 | 0, _, _, _, _ => none
 | k + 1, x0, x1, x15, x16 => if x16 < x15 then (lampblackref07_IsOuter.l1 k x0 x1 x16 x15 x16 x16 0) else (some true)
def lampblackref07_IsOuter.l1 : Nat → List Int → List Int → Int → Int → Int → Int → Int → Option (Bool)
 | 0, _, _, _, _, _, _, _ => none
 | k + 1, x0, x1, x5, x15, x16, x19, x20 => if x20 < x19 then (lampblackref07_IsOuter.l2 k x0 x1 x5 x20 x15 x16 x19 x20 x20 0) else (lampblackref07_IsOuter.l0 k x0 x1 x15 (wrap64 (x16 + 1)))
def lampblackref07_IsOuter.l2 : Nat → List Int → List Int → Int → Int → Int → Int → Int → Int → Int → Int → Option (Bool)
 | 0, _, _, _, _, _, _, _, _, _, _ => none
 | k + 1, x0, x1, x5, x6, x15, x16, x19, x20, x23, x24 => if x24 < x23 then (lampblackref07_IsOuter.l3 k x0 x1 x5 x6 x24 x15 x16 x19 x20 x23 x24 x24 0) else (lampblackref07_IsOuter.l1 k x0 x1 x5 x15 x16 x19 (wrap64 (x20 + 1)))
def lampblackref07_IsOuter.l3 : Nat → List Int → List Int → Int → Int → Int → Int → Int → Int → Int → Int → Int → Int → Int → Option (Bool)
 | 0, _, _, _, _, _, _, _, _, _, _, _, _, _ => none
 | k + 1, x0, x1, x5, x6, x7, x15, x16, x19, x20, x23, x24, x27, x28 => if x28 < x27 then (if 0 ≤ x28 then (if x28 < (x1.length : Int) then (if 0 ≤ (rd x1 x28) then (if (rd x1 x28) < (x0.length : Int) then (if 0 ≤ x6 then (if x6 < (x1.length : Int) then (if 0 ≤ (rd x1 x6) then (if (Go.bits .and .i64 (shr .i64 (rd x0 (rd x1 x28)) (rd x1 x6)) 1) = 1 then (if 0 ≤ x7 then (if x7 < (x1.length : Int) then (if 0 ≤ (rd x1 x7) then (if (rd x1 x7) < (x0.length : Int) then (if 0 ≤ x5 then (if x5 < (x1.length : Int) then (if 0 ≤ (rd x1 x5) then (if (Go.bits .and .i64 (shr .i64 (rd x0 (rd x1 x7)) (rd x1 x5)) 1) = 1 then (some false) else (lampblackref07_IsOuter.l3 k x0 x1 x5 x6 x7 x15 x16 x19 x20 x23 x24 x27 (wrap64 (x28 + 1)))) else (none)) else (none)) else (none)) else (none)) else (none)) else (none)) else (none)) else (lampblackref07_IsOuter.l3 k x0 x1 x5 x6 x7 x15 x16 x19 x20 x23 x24 x27 (wrap64 (x28 + 1)))) else (none)) else (none)) else (none)) else (none)) else (none)) else (none)) else (none)) else (lampblackref07_IsOuter.l2 k x0 x1 x5 x6 x15 x16 x19 x20 x23 (wrap64 (x24 + 1)))
end
end
end Go.Proofs.YtjloppfdagfpmaaDoor.X
end
section
namespace Go.Proofs.YtjloppfdagfpmaaDoor.X
open Go.RowKit YtjloppfdagfpmaaDoorW.PrintWords YtjloppfdagfpmaaDoorW.PrintLast YtjloppfdagfpmaaDoorW.PrintMore YtjloppfdagfpmaaDoor.T
def cr (G l : List Nat) (i j : Nat) : Bool := (G.getD (l.getD i 0) 0).testBit (l.getD j 0)
def CrossAt (G l : List Nat) (m : Nat) : Prop := ∃ i j k, i < j ∧ j < k ∧ k < m ∧ cr G l i k = true ∧ cr G l j m = true
def crossB (G l : List Nat) : Bool := (List.range (l.length - 1)).any fun k => (List.range k).any fun j => (List.range j).any fun i => cr G l i k && cr G l j (l.length - 1)
theorem crossB_iff (G l : List Nat) : crossB G l = true ↔ CrossAt G l (l.length - 1) := by
 unfold crossB
 simp only [List.any_eq_true, List.mem_range, Bool.and_eq_true]
 exact ⟨fun ⟨k, h1, j, h2, i, h3, h4, h5⟩ => ⟨i, j, k, h3, h2, h1, h4, h5⟩, fun ⟨i, j, k, h3, h2, h1, h4, h5⟩ => ⟨k, h1, j, h2, i, h3, h4, h5⟩⟩
theorem getD_in {l : List Nat} {n i : Nat} (h : ∀ x ∈ l, x < n) (hi : i < l.length) : l.getD i 0 < n := by
 rw [List.getD_eq_getElem?_getD, List.getElem?_eq_getElem hi]
 exact h _ (List.getElem_mem hi)
theorem cr_int {G l : List Nat} (hn : G.length ≤ 9) (hG : ∀ x ∈ G, x < 512) (hl : ∀ x ∈ l, x < G.length) {i j : Nat} (hi : i < l.length) (hj : j < l.length) :
  (Go.bits .and .i64 (shr .i64 (rd (gi G) (rd (gi l) (i : Int))) (rd (gi l) (j : Int))) 1 = 1 ↔ cr G l i j = true) ∧ (Go.bits .and .i64 (shr .i64 (rd (gi G) (rd (gi l) (i : Int))) (rd (gi l) (j : Int))) 1 = 0 ↔ cr G l i j = false) := by
 have h1 := getD_in hl hi
 have h2 := getD_in hl hj
 have h3 := getD_in hG h1
 rw [rd_gi l i, rd_gi l j, rd_gi G]
 exact ⟨bit_one _ _ (by omega) (by omega), bit_zero _ _ (by omega) (by omega)⟩
theorem rd_in {G l : List Nat} (hl : ∀ x ∈ l, x < G.length) {i : Nat} (hi : i < l.length) : 0 ≤ rd (gi l) (i : Int) ∧ rd (gi l) (i : Int) < ((gi G).length : Int) := by
 have h1 := getD_in hl hi
 rw [rd_gi, gi_length]
 omega
section
variable {G l : List Nat} (hn : G.length ≤ 9) (hG : ∀ x ∈ G, x < 512) (hl : ∀ x ∈ l, x < G.length) (hll : l.length ≤ 1000)
include hn hG hl hll
theorem cross_l2 (m : Nat) (hm : m < l.length) (i j : Nat) (hij : i < j) (hjm : j < m) (l15 : List Int) (x16 x17 x33 : Int) (X : Bool)
  (hyes : (∃ k, j < k ∧ k < m ∧ cr G l i k = true) → X = true)
  (hno : (∀ k, j < k → k < m → cr G l i k = false) → Ev (fun n => minor_town_crosses.l1 n (gi G) (gi l) (m : Int) (j : Int) l15 x16 x17 x33 ((i + 1 : Nat) : Int)) X) :
  ∀ d k, k + d = m → j < k → (∀ k', j < k' → k' < k → cr G l i k' = false) → Ev (fun n => minor_town_crosses.l2 n (gi G) (gi l) (m : Int) (j : Int) (i : Int) (k : Int) l15 x16 x17 x33 (i : Int)) X := by
 intro d
 induction d with
 | zero =>
  intro k hk hjk hbe
  refine Ev.step (fun n => by rw [minor_town_crosses.l2, if_neg (by omega), wrap_succ i (by omega)]) (hno fun k' h1 h2 => hbe k' h1 (by omega))
 | succ d ih =>
  intro k hk hjk hbe
  have hi1 := rd_in hl (show i < l.length by omega)
  have hk1 := rd_in hl (show k < l.length by omega)
  have hb := cr_int hn hG hl (show i < l.length by omega) (show k < l.length by omega)
  have hgl := gi_length l
  by_cases h : cr G l i k = true
  ·rw [hyes ⟨k, hjk, by omega, h⟩]
   refine Ev.step (f := fun _ => some true) (fun n => ?_) (Ev.some rfl)
   rw [minor_town_crosses.l2, if_pos (by omega), if_pos (by omega), if_pos (by omega), if_pos hi1.1, if_pos hi1.2, if_pos (by omega), if_pos (by omega), if_pos hk1.1, if_pos (hb.1.2 h)]
  ·refine Ev.step (fun n => ?_) (ih (k + 1) (by omega) (by omega) fun k' h1 h2 => ?_)
   ·rw [minor_town_crosses.l2, if_pos (by omega), if_pos (by omega), if_pos (by omega), if_pos hi1.1, if_pos hi1.2, if_pos (by omega), if_pos (by omega), if_pos hk1.1, if_neg (fun e => h (hb.1.1 e)), wrap_succ k (by omega)]
   ·by_cases e : k' = k
    ·subst e; simpa using h
    ·exact hbe k' h1 (by omega)
theorem cross_l1 (m : Nat) (hm : m < l.length) (j : Nat) (hjm : j < m) (l15 : List Int) (x16 : Int) (X : Bool)
  (hyes : (∃ i k, i < j ∧ j < k ∧ k < m ∧ cr G l i k = true) → X = true)
  (hno : (∀ i k, i < j → j < k → k < m → cr G l i k = false) → Ev (fun n => minor_town_crosses.l0 n (gi G) (gi l) (m : Int) l15 x16 ((j + 1 : Nat) : Int)) X) :
  ∀ d i, i + d = j → (∀ i' k', i' < i → j < k' → k' < m → cr G l i' k' = false) → Ev (fun n => minor_town_crosses.l1 n (gi G) (gi l) (m : Int) (j : Int) l15 x16 (j : Int) (j : Int) (i : Int)) X := by
 intro d
 induction d with
 | zero =>
  intro i hi hbe
  refine Ev.step (fun n => by rw [minor_town_crosses.l1, if_neg (by omega), wrap_succ j (by omega)]) (hno fun i' k' h1 h2 h3 => hbe i' k' (by omega) h2 h3)
 | succ d ih =>
  intro i hi hbe
  refine Ev.step (fun n => by rw [minor_town_crosses.l1, if_pos (by omega), wrap_succ j (by omega)]) ?_
  refine cross_l2 hn hG hl hll m hm i j (by omega) hjm l15 x16 _ _ X (fun ⟨k, h1, h2, h3⟩ => hyes ⟨i, k, by omega, h1, h2, h3⟩) (fun hf => ih (i + 1) (by omega) fun i' k' h1 h2 h3 => ?_) (m - (j + 1)) (j + 1) (by omega) (by omega) (fun k' h1 h2 => by omega)
  by_cases e : i' = i
  ·subst e; exact hf k' h2 h3
  ·exact hbe i' k' (by omega) h2 h3
theorem cross_l0 (m : Nat) (hm : m + 1 = l.length) : ∀ d j, j + d = m → (∀ i' j' k', i' < j' → j' < j → j' < k' → k' < m → cr G l i' k' = true → cr G l j' m = false) →
  Ev (fun n => minor_town_crosses.l0 n (gi G) (gi l) (m : Int) ((gi l).take m) (m : Int) (j : Int)) (crossB G l) := by
 intro d
 have hm1 : l.length - 1 = m := by omega
 induction d with
 | zero =>
  intro j hj hbe
  have : crossB G l = false := by
   cases hc : crossB G l
   ·rfl
   ·obtain ⟨i, j', k, h1, h2, h3, h4, h5⟩ := (crossB_iff G l).1 hc
    rw [hm1] at h3 h5
    rw [hbe i j' k h1 (by omega) h2 h3 h4] at h5
    cases h5
  rw [this]
  exact Ev.step (f := fun _ => some false) (fun n => by rw [minor_town_crosses.l0, if_neg (by omega)]) (Ev.some rfl)
 | succ d ih =>
  intro j hj hbe
  have htl : ((gi l).take m).length = m := by rw [List.length_take, gi_length]; omega
  have htk : rd ((gi l).take m) (j : Int) = rd (gi l) (j : Int) := by
   unfold rd
   rw [Int.toNat_natCast, List.getD_eq_getElem?_getD, List.getD_eq_getElem?_getD, List.getElem?_take_of_lt (by omega)]
  have hj1 := rd_in hl (show j < l.length by omega)
  have hm2 := rd_in hl (show m < l.length by omega)
  have hb := cr_int hn hG hl (show j < l.length by omega) (show m < l.length by omega)
  have hgl := gi_length l
  by_cases h : cr G l j m = true
  ·refine Ev.step (fun n => ?_) (cross_l1 hn hG hl hll m (by omega) j (by omega) ((gi l).take m) (m : Int) (crossB G l) (fun ⟨i, k, h1, h2, h3, h4⟩ => (crossB_iff G l).2 (by rw [hm1]; exact ⟨i, j, k, h1, h2, h3, h4, h⟩)) (fun hf => ih (j + 1) (by omega) fun i' j' k' h1 h2 h3 h4 h5 => ?_) j 0 (by omega) (fun _ _ h => by omega))
   ·rw [minor_town_crosses.l0, htl, htk, if_pos (by omega), if_pos (by omega), if_pos (by omega), if_pos hj1.1, if_pos hj1.2, if_pos (by omega), if_pos (by omega), if_pos hm2.1, if_neg (fun e => by have := hb.2.1 e; rw [h] at this; cases this)]
    rfl
   ·by_cases e : j' = j
    ·subst e
     rw [hf i' k' h1 h3 h4] at h5
     cases h5
    ·exact hbe i' j' k' h1 (by omega) h3 h4 h5
  ·refine Ev.step (fun n => ?_) (ih (j + 1) (by omega) fun i' j' k' h1 h2 h3 h4 h5 => ?_)
   ·rw [minor_town_crosses.l0, htl, htk, if_pos (by omega), if_pos (by omega), if_pos (by omega), if_pos hj1.1, if_pos hj1.2, if_pos (by omega), if_pos (by omega), if_pos hm2.1, if_pos (hb.2.2 (by simpa using h)), wrap_succ j (by omega)]
   ·by_cases e : j' = j
    ·subst e; simpa using h
    ·exact hbe i' j' k' h1 (by omega) h3 h4 h5
theorem crosses_ev (h0 : 0 < l.length) : Ev (fun n => minor_town_crosses.f n (gi G) (gi l)) (crossB G l) := by
 have e : wrap64 (((gi l).length : Int) - 1) = ((l.length - 1 : Nat) : Int) := by
  rw [gi_length, w64_small _ (by omega) (by omega)]; omega
 have := cross_l0 hn hG hl hll (l.length - 1) (by omega) (l.length - 1) 0 (by omega) (fun _ _ _ _ h => by omega)
 unfold minor_town_crosses.f
 rw [e, Int.toNat_natCast, gi_length]
 refine Ev.if_pos (by omega) (Ev.if_pos (by omega) ?_)
 rw [List.length_take, gi_length, Nat.min_eq_left (by omega)]
 exact this
end
def outN (G : List Nat) : Nat → List Nat → Nat → Option (List Nat)
 | 0, M, _ => some M
 | d + 1, M, left => (els left 9).findSome? fun v => if crossB G (M ++ [v]) = true then none else outN G d (M ++ [v]) (diff left (2 ^ v))
end Go.Proofs.YtjloppfdagfpmaaDoor.X
end
