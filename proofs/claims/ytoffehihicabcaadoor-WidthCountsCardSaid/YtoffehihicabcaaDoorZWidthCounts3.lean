/- Part 3 of what WidthCounts rests on: contracts of the functions that it reaches, and what they compute, in plain words. -/
import Derived.Test.YtoffehihicabcaaDoorZWidthCounts2
import Derived.Test.YtoffehihicabcaaDoorZWidthCounts0
import Derived.Test.YtoffehihicabcaaDoorZWidthCounts1
import Derived.ArgAppend
import Derived.WalkSpells
import Derived.Outline
import Derived.ChangeSlices
import Derived.ChangeArms
import Derived.WideShapes
set_option linter.unusedVariables false
set_option linter.unusedSimpArgs false
section
namespace Go.Proofs.YtoffehihicabcaaDoor.X
open Go.RowKit YtoffehihicabcaaDoorW.PrintWords YtoffehihicabcaaDoorW.PrintLast YtoffehihicabcaaDoorW.PrintMore YtoffehihicabcaaDoor.T
attribute [local go_sem] max2_int min2_int max_two min_two max_three min_three max_four min_four run_makeMap
def numG (G : List Nat) (K : Nat) : Nat := num G K 0 0 (els (2 ^ G.length - 1) 9)
def width_Count.f (g B P : List Int) (K : Int) : Option (Int × Int) :=
 if chk 9 g = true then (if treeB (g.map Int.toNat) B P = true ∧ 0 ≤ K ∧ K ≤ 6 then some ((numG (g.map Int.toNat) K.toNat : Int), 0) else some (0, 2)) else if g.length < 1000 then some (0, 2) else none
theorem idx_l0 (l : List Int) (x : Int) (hl : l.length ≤ 1000) : ∀ d i, i + d = l.length → (∃ k : Nat, i ≤ k ∧ k < l.length ∧ x = rd l (k : Int)) → ∃ z : Nat, z < l.length ∧ x = rd l (z : Int) ∧ Ev (fun k => slices_Index_int_int.l0 k l x (l.length : Int) (i : Int)) (z : Int) := by
 intro d
 induction d with
 | zero =>
  rintro i hi ⟨k, h1, h2, _⟩
  omega
 | succ d ih =>
  rintro i hi ⟨k, h1, h2, h3⟩
  by_cases e : x = rd l (i : Int)
  ·exact ⟨i, by omega, e, Ev.step (f := fun _ => some (i : Int)) (fun m => by rw [slices_Index_int_int.l0, if_pos (by omega), if_pos (by omega), if_pos (by omega), if_pos e]) (Ev.some rfl)⟩
  ·obtain ⟨z, hz, hz2, hE⟩ := ih (i + 1) (by omega) ⟨k, by
    by_cases e2 : k = i
    ·subst e2; exact absurd h3 e
    ·omega, h2, h3⟩
   exact ⟨z, hz, hz2, Ev.step (fun m => by rw [slices_Index_int_int.l0, if_pos (by omega), if_pos (by omega), if_pos (by omega), if_neg e, wrap_succ i (by omega)]) hE⟩
theorem idx_calls (A : Option Addr) (c : Nat) (l : List Int) (x : Int) (hl : l.length ≤ 1000) (hx : ∃ k : Nat, k < l.length ∧ x = rd l (k : Int)) (w : World) (hr : Kd.C (Kd.int .i64) w A l.length l) (hc : l.length ≤ c) :
  ∃ z : Nat, z < l.length ∧ x = rd l (z : Int) ∧ Calls Tryd.prog 82 #[.slice A l.length c, .int .i64 x] w fun e w' => e = .returned (.int .i64 (z : Int)) ∧ Below w.heap.size w w' := by
 obtain ⟨k, k1, k2⟩ := hx
 obtain ⟨z, z1, z2, K, hK⟩ := idx_l0 l x hl l.length 0 (by omega) ⟨k, by omega, k1, k2⟩
 refine ⟨z, z1, z2, (slices_Index_int_int.calls K A c l x _ w hr hc (hK K (Nat.le_refl _))).mono ?_⟩
 rintro e w' ⟨rfl, hb⟩
 exact ⟨rfl, hb.below⟩
set_option maxHeartbeats 8000000 in
set_option maxRecDepth 100000 in
theorem count_no1 (Ag : Option Addr) (cg : Nat) (g : List Int) (A0 : Option Addr) (n0 c0 : Nat) (A1 : Option Addr) (n1 c1 : Nat) (K : Int) (w : World) (hrg : Kd.C (Kd.int .i64) w Ag g.length g) (hcg : g.length ≤ cg) (hl : g.length < 1000) (hchk : chk 9 g = false) :
  Calls Tryd.prog 56 #[.slice Ag g.length cg, .agg #[.slice A0 n0 c0, .slice A1 n1 c1], .int .i64 K] w fun e w' => e = .returned (.tuple #[.int .i64 0, .int .i64 2]) ∧ Below w.heap.size w w' := by
 have HRD : Aside0 (∀ W, Below w.heap.size w W → Calls Tryd.prog 59 #[.slice Ag g.length cg] W fun e w' => ∃ v, e = .returned (.tuple #[v, .bool false]) ∧ Below W.heap.size W w') := ⟨fun W hW => readN_no (by omega) hchk Ag cg W (Kd.C_below hrg hW) hcg⟩
 have hu53 := Tryd.underlying53
 clear hrg hcg hl hchk
 go_enter Tryd.func56, Tryd.ntmps56
 go_wp2_with (first | ((with_reducible refine gate_dst (N := 4) rfl ?_); refine box_event ?hg (N := 4) ?hd (cs := #[.slice A0 n0 c0, .slice A1 n1 c1]) (t := 53) ?hr ?_; (case hd => rfl); (case hg => rfl); (case hr => first | (go_simp; done) | (go_simp; rfl)); intro xB hxB w1 hbox hb1; have HB1 := Aside0.mk hb1; clear hbox hb1 hxB) | (go_at_call 59; refine (HRD.out _ HB1.out).mono ?_; rintro e w3 ⟨v, rfl, hb3⟩; have HB3 := Aside0.mk (below_step HB1.out hb3); clear hb3))
 go_ret2
 exact ⟨rfl, HB3.out⟩
set_option maxHeartbeats 8000000 in
set_option maxRecDepth 100000 in
theorem count_no2 {G : List Nat} (hG : Gr 9 G) (Ag : Option Addr) (cg : Nat) (A0 : Option Addr) (c0 : Nat) (B : List Int) (A1 : Option Addr) (c1 : Nat) (P : List Int) (K : Int) (w : World) (hGL : GL w) (hrg : Kd.C (Kd.int .i64) w Ag (gi G).length (gi G)) (hcg : (gi G).length ≤ cg) (hr0 : Kd.C (Kd.int .i64) w A0 B.length B) (hc0 : B.length ≤ c0) (hr1 : Kd.C (Kd.int .i64) w A1 P.length P) (hc1 : P.length ≤ c1) (bt : Bool) (hbt : treeB G B P = bt) (hno : bt = false ∨ K < 0 ∨ 6 < K) :
  Calls Tryd.prog 56 #[.slice Ag (gi G).length cg, .agg #[.slice A0 B.length c0, .slice A1 P.length c1], .int .i64 K] w fun e w' => e = .returned (.tuple #[.int .i64 0, .int .i64 2]) ∧ Below w.heap.size w w' := by
 have HRD : Aside0 (∀ W, Below w.heap.size w W → Calls Tryd.prog 59 #[.slice Ag (gi G).length cg] W fun e w' => ∃ A1 c1, e = .returned (.tuple #[.slice A1 (gi G).length c1, .bool true]) ∧ (gi G).length ≤ c1 ∧ Kd.C (Kd.int .i64) w' A1 (gi G).length (gi G) ∧ Below W.heap.size W w') := ⟨fun W hW => readN_yes hG Ag cg W (Kd.C_below hrg hW) hcg⟩
 have HTR : Aside0 (∀ W A2 c2, Below w.heap.size w W → (gi G).length ≤ c2 → Kd.C (Kd.int .i64) W A2 (gi G).length (gi G) → Calls Tryd.prog 78 #[.slice A2 (gi G).length c2, .agg #[.slice A0 B.length c0, .slice A1 P.length c1]] W fun e w' => e = .returned (.bool bt) ∧ Below W.heap.size W w') := ⟨fun W A2 c2 hW hc hC => width_town_tree.calls A2 c2 (gi G) A0 c0 B A1 c1 P bt W (GL_below hGL hW) hC hc (Kd.C_below hr0 hW) hc0 (Kd.C_below hr1 hW) hc1 (by unfold width_town_tree.f; rw [if_pos ((chk_iff 9 (by omega) _).2 ⟨G, rfl, hG⟩), gi_toNatN, hbt])⟩
 have hu53 := Tryd.underlying53
 have HNO := Aside0.mk hno
 clear hrg hcg hr0 hr1 hbt hGL hno
 generalize (gi G).length = n at *
 generalize gi G = g at *
 cases bt
 ·clear HNO
  go_enter Tryd.func56, Tryd.ntmps56
  go_wp2_with (first | ((with_reducible refine gate_dst (N := 4) rfl ?_); refine box_event ?hg (N := 4) ?hd (cs := #[.slice A0 B.length c0, .slice A1 P.length c1]) (t := 53) ?hr ?_; (case hd => rfl); (case hg => rfl); (case hr => first | (go_simp; done) | (go_simp; rfl)); intro xB hxB w1 hbox hb1; have HX1 := Aside0.mk hbox; have HB1 := Aside0.mk hb1; clear hbox hb1 hxB) | (go_at_call 59; refine (HRD.out _ HB1.out).mono ?_; rintro e w3 ⟨A2, c2, rfl, hc2, hC2, hb3⟩; have HX3 := Aside0.mk (blk_below HX1.out hb3); have HB3 := Aside0.mk (below_step HB1.out hb3); have HT3 := Aside0.mk (HTR.out w3 A2 c2 HB3.out hc2 hC2); have x0 : w3.cell? ⟨xB, 0, none⟩ = some (.slice A0 B.length c0) := (blk_cell HX3.out 0).trans rfl; have x1 : w3.cell? ⟨xB, 1, none⟩ = some (.slice A1 P.length c1) := (blk_cell HX3.out 1).trans rfl; clear hb3 hc2 hC2) | (go_at_call 78; refine HT3.out.mono ?_; rintro e w4 ⟨rfl, hb4⟩; have HB4 := Aside0.mk (below_step HB3.out hb4); clear hb4))
  go_ret2
  exact ⟨rfl, HB4.out⟩
 ·by_cases hK : K < 0
  ·have k1 : (K < 0) = True := eq_true hK
   have k2 : decide (K < 0) = true := decide_eq_true hK
   clear HNO hK
   go_enter Tryd.func56, Tryd.ntmps56
   go_wp2_with (first | ((with_reducible refine gate_dst (N := 4) rfl ?_); refine box_event ?hg (N := 4) ?hd (cs := #[.slice A0 B.length c0, .slice A1 P.length c1]) (t := 53) ?hr ?_; (case hd => rfl); (case hg => rfl); (case hr => first | (go_simp; done) | (go_simp; rfl)); intro xB hxB w1 hbox hb1; have HX1 := Aside0.mk hbox; have HB1 := Aside0.mk hb1; clear hbox hb1 hxB) | (go_at_call 59; refine (HRD.out _ HB1.out).mono ?_; rintro e w3 ⟨A2, c2, rfl, hc2, hC2, hb3⟩; have HX3 := Aside0.mk (blk_below HX1.out hb3); have HB3 := Aside0.mk (below_step HB1.out hb3); have HT3 := Aside0.mk (HTR.out w3 A2 c2 HB3.out hc2 hC2); have x0 : w3.cell? ⟨xB, 0, none⟩ = some (.slice A0 B.length c0) := (blk_cell HX3.out 0).trans rfl; have x1 : w3.cell? ⟨xB, 1, none⟩ = some (.slice A1 P.length c1) := (blk_cell HX3.out 1).trans rfl; clear hb3 hc2 hC2) | (go_at_call 78; refine HT3.out.mono ?_; rintro e w4 ⟨rfl, hb4⟩; have HB4 := Aside0.mk (below_step HB3.out hb4); clear hb4))
   go_ret2
   exact ⟨rfl, HB4.out⟩
  ·have h6 : 6 < K := by
    rcases HNO.out with h | h | h
    ·cases h
    ·exact absurd h hK
    ·exact h
   have k1 : (K < 0) = False := eq_false hK
   have k2 : decide (K < 0) = false := decide_eq_false hK
   have k3 : (6 < K) = True := eq_true h6
   have k4 : decide (6 < K) = true := decide_eq_true h6
   have k5 : decide (K > 6) = true := decide_eq_true h6
   clear HNO hK h6
   go_enter Tryd.func56, Tryd.ntmps56
   go_wp2_with (first | ((with_reducible refine gate_dst (N := 4) rfl ?_); refine box_event ?hg (N := 4) ?hd (cs := #[.slice A0 B.length c0, .slice A1 P.length c1]) (t := 53) ?hr ?_; (case hd => rfl); (case hg => rfl); (case hr => first | (go_simp; done) | (go_simp; rfl)); intro xB hxB w1 hbox hb1; have HX1 := Aside0.mk hbox; have HB1 := Aside0.mk hb1; clear hbox hb1 hxB) | (go_at_call 59; refine (HRD.out _ HB1.out).mono ?_; rintro e w3 ⟨A2, c2, rfl, hc2, hC2, hb3⟩; have HX3 := Aside0.mk (blk_below HX1.out hb3); have HB3 := Aside0.mk (below_step HB1.out hb3); have HT3 := Aside0.mk (HTR.out w3 A2 c2 HB3.out hc2 hC2); have x0 : w3.cell? ⟨xB, 0, none⟩ = some (.slice A0 B.length c0) := (blk_cell HX3.out 0).trans rfl; have x1 : w3.cell? ⟨xB, 1, none⟩ = some (.slice A1 P.length c1) := (blk_cell HX3.out 1).trans rfl; clear hb3 hc2 hC2) | (go_at_call 78; refine HT3.out.mono ?_; rintro e w4 ⟨rfl, hb4⟩; have HB4 := Aside0.mk (below_step HB3.out hb4); clear hb4))
   go_ret2
   exact ⟨rfl, HB4.out⟩
theorem decomp_callsC {G : List Nat} (hG : Gr 9 G) (W : World) (A : Option Addr) (c : Nat) (hc : G.length ≤ c) (hGL : GL W) (hr : Kd.C (Kd.int .i64) W A G.length (gi G)) :
  ∃ B P, TD G B P ∧ Calls Tryd.prog 83 #[.slice A G.length c] W fun e w' => ∃ A0 c0 A1 c1, e = .returned (.agg #[.slice A0 B.length c0, .slice A1 P.length c1]) ∧ B.length ≤ c0 ∧ P.length ≤ c1 ∧ Kd.C (Kd.int .i64) w' A0 B.length B ∧ Kd.C (Kd.int .i64) w' A1 P.length P ∧ Below W.heap.size W w' := by
 obtain ⟨Wd, hW, _⟩ := width_exists hG
 obtain ⟨o1, o2, o3, o4⟩ := ordL_is hG hW
 have hO : OrdL G (ordL G Wd) := ⟨o1, o2, o3⟩
 have hn := hG.most
 obtain ⟨K, hK⟩ := decompose_ev hG hW o2 (by omega)
 refine ⟨_, _, decomp_td hG hO, ?_⟩
 have := width_town_decompose.calls K A c (gi G) _ _ W hGL (by rw [gi_length]; exact hr) (by rw [gi_length]; exact hc) (hK K (Nat.le_refl _))
 rw [gi_length] at this
 refine this.mono ?_
 rintro e w' ⟨v0, v1, rfl, h0, h1, hb⟩
 obtain ⟨A0, c0, e0, p0, q0⟩ := Kd.R_reads h0
 obtain ⟨A1, c1, e1, p1, q1⟩ := Kd.R_reads h1
 subst e0 e1
 exact ⟨A0, c0, A1, c1, rfl, p0, p1, q0, q1, hb⟩
theorem root_is {G : List Nat} {B P : List Int} (hG : Gr 9 G) (h : TD G B P) : ∃ r : Nat, r < P.length ∧ (-1 : Int) = rd P (r : Int) ∧ r < B.length := by
 obtain ⟨r, r1, r2, _⟩ := (td_to hG h).root
 have r1 : r < B.length := r1
 refine ⟨r, by rw [h.len]; exact r1, ?_, r1⟩
 have h1 := (h.inn r r1).1
 unfold parO at r2
 by_cases hx : rd P (r : Int) < 0
 ·omega
 ·rw [if_neg hx] at r2; cases r2
set_option maxHeartbeats 8000000 in
set_option maxRecDepth 100000 in
theorem count_yes {G : List Nat} (hG : Gr 9 G) (Ag : Option Addr) (cg : Nat) (A0 : Option Addr) (c0 : Nat) (B : List Int) (A1 : Option Addr) (c1 : Nat) (P : List Int) (K : Nat) (hK : K ≤ 6) (w : World) (hGL : GL w) (hrg : Kd.C (Kd.int .i64) w Ag (gi G).length (gi G)) (hcg : (gi G).length ≤ cg) (hr0 : Kd.C (Kd.int .i64) w A0 B.length B) (hc0 : B.length ≤ c0) (hr1 : Kd.C (Kd.int .i64) w A1 P.length P) (hc1 : P.length ≤ c1) (hbt : treeB G B P = true) :
  Calls Tryd.prog 56 #[.slice Ag (gi G).length cg, .agg #[.slice A0 B.length c0, .slice A1 P.length c1], .int .i64 (K : Int)] w fun e w' => e = .returned (.tuple #[.int .i64 (numG G K : Int), .int .i64 0]) ∧ Below w.heap.size w w' := by
 have HRD : Aside0 (∀ W, Below w.heap.size w W → Calls Tryd.prog 59 #[.slice Ag (gi G).length cg] W fun e w' => ∃ A1 c1, e = .returned (.tuple #[.slice A1 (gi G).length c1, .bool true]) ∧ (gi G).length ≤ c1 ∧ Kd.C (Kd.int .i64) w' A1 (gi G).length (gi G) ∧ Below W.heap.size W w') := ⟨fun W hW => readN_yes hG Ag cg W (Kd.C_below hrg hW) hcg⟩
 have HTR : Aside0 (∀ W A2 c2, Below w.heap.size w W → (gi G).length ≤ c2 → Kd.C (Kd.int .i64) W A2 (gi G).length (gi G) → Calls Tryd.prog 78 #[.slice A2 (gi G).length c2, .agg #[.slice A0 B.length c0, .slice A1 P.length c1]] W fun e w' => e = .returned (.bool true) ∧ Below W.heap.size W w') := ⟨fun W A2 c2 hW hc hC => width_town_tree.calls A2 c2 (gi G) A0 c0 B A1 c1 P true W (GL_below hGL hW) hC hc (Kd.C_below hr0 hW) hc0 (Kd.C_below hr1 hW) hc1 (by unfold width_town_tree.f; rw [if_pos ((chk_iff 9 (by omega) _).2 ⟨G, rfl, hG⟩), gi_toNatN, hbt])⟩
 have hu53 := Tryd.underlying53
 have hgl : (gi G).length = G.length := gi_length G
 rw [hgl] at HRD HTR ⊢
 have HGL := Aside0.mk hGL
 have HG := Aside0.mk hG
 have k1 : ((K : Int) < 0) = False := eq_false (by omega)
 have k2 : decide ((K : Int) < 0) = false := decide_eq_false (by omega)
 have k3 : (6 < (K : Int)) = False := eq_false (by omega)
 have k4 : decide (6 < (K : Int)) = false := decide_eq_false (by omega)
 have k5 : decide ((K : Int) > 6) = false := decide_eq_false (by omega)
 have HKN := Aside0.mk hK
 clear hrg hcg hr0 hr1 hbt hGL hG hgl hK
 go_enter Tryd.func56, Tryd.ntmps56
 go_wp2_with (first | ((with_reducible refine gate_dst (N := 4) rfl ?_); refine box_event ?hg (N := 4) ?hd (cs := #[.slice A0 B.length c0, .slice A1 P.length c1]) (t := 53) ?hr ?_; (case hd => rfl); (case hg => rfl); (case hr => first | (go_simp; done) | (go_simp; rfl)); intro xB hxB w1 hbox hb1; have HX1 := Aside0.mk hbox; have HB1 := Aside0.mk hb1; clear hbox hb1 hxB) | (go_at_call 59; refine (HRD.out _ HB1.out).mono ?_; rintro e w3 ⟨A2, c2, rfl, hc2, hC2, hb3⟩; have HX3 := Aside0.mk (blk_below HX1.out hb3); have HB3 := Aside0.mk (below_step HB1.out hb3); have HT3 := Aside0.mk (HTR.out w3 A2 c2 HB3.out hc2 hC2); have HC3 := Aside0.mk hC2; have x0 : w3.cell? ⟨xB, 0, none⟩ = some (.slice A0 B.length c0) := (blk_cell HX3.out 0).trans rfl; have x1 : w3.cell? ⟨xB, 1, none⟩ = some (.slice A1 P.length c1) := (blk_cell HX3.out 1).trans rfl; have HC2 := Aside0.mk hc2; clear hb3 hc2 hC2) | (go_at_call 78; refine HT3.out.mono ?_; rintro e w4 ⟨rfl, hb4⟩; have HB4 := Aside0.mk (below_step HB3.out hb4); have HC4 := Aside0.mk (Kd.C_below HC3.out hb4); clear hb4) | (go_at_call 83; obtain ⟨B5, P5, hT5, hcall5⟩ := decomp_callsC HG.out w4 A2 c2 HC2.out (GL_below HGL.out HB4.out) HC4.out; refine hcall5.mono ?_; rintro e w5 ⟨A5, c5, A6, c6, rfl, h5, h6, h7, h8, hb5⟩; have HT5 := Aside0.mk hT5; have H56 := Aside0.mk (And.intro h5 h6); have HC5 := Aside0.mk (And.intro h7 h8); have HB5 := Aside0.mk (below_step HB4.out hb5); have HCg := Aside0.mk (Kd.C_below HC4.out hb5); clear hcall5 hT5 h5 h6 h7 h8 hb5))
 clear HRD HTR HT3 HX1 HX3 x0 x1 HB1 HB3 HC3 HC4
 obtain ⟨w6, hw6⟩ : ∃ W : World, W = w5.alloc (Obj.cells #[.slice A5 B5.length c5, .slice A6 P5.length c6] 53) := ⟨_, rfl⟩
 have hblk : w6.heap[w5.heap.size]? = some (.cells #[.slice A5 B5.length c5, .slice A6 P5.length c6] 53 (0, 0)) := by rw [hw6]; exact Array.getElem?_push_size
 have hB6 : Below w5.heap.size w5 w6 := by rw [hw6]; exact below_alloc (Below.refl _ _) _
 rw [← hw6]
 clear hw6
 have HX6 := Aside0.mk hblk
 have HB6 := Aside0.mk (below_step HB5.out hB6)
 have HC6 := Aside0.mk (And.intro (Kd.C_below HC5.out.1 hB6) (Kd.C_below HC5.out.2 hB6))
 have HC6g := Aside0.mk (Kd.C_below HCg.out hB6)
 clear hB6 hblk
 generalize w5.heap.size = xT at *
 obtain ⟨N, hN, h36⟩ : ∃ N, N < maxLen ∧ 2 ^ 36 ≤ N := ⟨2 ^ 36, by unfold maxLen; omega, Nat.le_refl _⟩
 obtain ⟨M, hM⟩ : ∃ M, ∀ k : Nat, k < B5.length → depF P5 B5.length (k : Int) ≤ M := by
  have : ∀ m, ∃ M, ∀ k : Nat, k < m → depF P5 B5.length (k : Int) ≤ M := by
   intro m
   induction m with
   | zero => exact ⟨0, fun k hk => by omega⟩
   | succ m ih =>
    obtain ⟨M, hM⟩ := ih
    refine ⟨M + depF P5 B5.length (m : Int), fun k hk => ?_⟩
    by_cases e : k = m
    ·rw [e]; omega
    ·have := hM k (by omega); omega
  exact this _
 obtain ⟨r0, r1, r2, r3⟩ := root_is HG.out HT5.out
 have hP30 : P5.length ≤ 30 := by have := HT5.out.most; have := HT5.out.len; omega
 obtain ⟨z, z1, z2, _⟩ := idx_calls A6 c6 P5 (-1) (by omega) ⟨r0, r1, r2⟩ w6 HC6.out.2 H56.out.2
 have HIX : Aside0 (∀ W, (W.cell? ⟨xT, 0, none⟩ = some (.slice A5 B5.length c5) ∧ W.cell? ⟨xT, 1, none⟩ = some (.slice A6 P5.length c6) ∧ Below w6.heap.size w6 W) → Calls Tryd.prog 82 #[.slice A6 P5.length c6, .int .i64 (-1)] W fun e w' => e = .returned (.int .i64 (z : Int)) ∧ w'.cell? ⟨xT, 0, none⟩ = some (.slice A5 B5.length c5) ∧ w'.cell? ⟨xT, 1, none⟩ = some (.slice A6 P5.length c6) ∧ Below w6.heap.size w6 w') := ⟨by
  rintro W ⟨s0, s1, s2⟩
  obtain ⟨K', hK'⟩ : ∃ z' : Nat, z' < P5.length ∧ (-1 : Int) = rd P5 (z' : Int) ∧ Calls Tryd.prog 82 #[.slice A6 P5.length c6, .int .i64 (-1)] W fun e w' => e = .returned (.int .i64 (z' : Int)) ∧ Below W.heap.size W w' := idx_calls A6 c6 P5 (-1) (by omega) ⟨r0, r1, r2⟩ W (Kd.C_below HC6.out.2 s2) H56.out.2
  have ez : K' = z := by
   have e1 := (td_to HG.out HT5.out).root
   obtain ⟨r, q1, q2, q3⟩ := e1
   have l := HT5.out.len
   rw [q3 K' (by omega) (by unfold parO; rw [if_pos (by omega)]), q3 z (by omega) (by unfold parO; rw [if_pos (by omega)])]
  rw [ez] at hK'
  refine hK'.2.2.mono ?_
  rintro e w' ⟨rfl, hb⟩
  exact ⟨rfl, (hb.cell (World.block_lt_of_cell? W _ s0)).trans s0, (hb.cell (World.block_lt_of_cell? W _ s1)).trans s1, below_step s2 hb⟩⟩
 have hzb : z < B5.length := by have := HT5.out.len; omega
 have HWY : Aside0 (∀ W, Below w6.heap.size w6 W → Calls Tryd.prog 85 #[.slice A2 G.length c2, .agg #[.slice A5 B5.length c5, .slice A6 P5.length c6], .int .i64 (z : Int), .int .i64 (K : Int)] W fun e w' => ∃ mB E, e = .returned (.map (some mB)) ∧ W.heap.size ≤ mB ∧ w'.ownsMap Tryd.prog 3 pI mB N E ∧ Tab (fun y => y ∈ clL G K 0 0 (els (bgI B5 z) 9)) (fun c => num G K (bgI B5 z) c (els (dnU (fun k => k < B5.length) (parO P5) (bgI B5) z) 9)) E ∧ Below W.heap.size W w') := ⟨fun W hW => ways_calls HG.out HKN.out A2 c2 HC2.out A5 c5 B5 H56.out.1 A6 c6 P5 H56.out.2 HT5.out N hN h36 M hM _ z W rfl hzb (GL_below HGL.out (below_step HB6.out hW)) (by rw [gi_length]; exact Kd.C_below HC6g.out hW) (Kd.C_below HC6.out.1 hW) (Kd.C_below HC6.out.2 hW)⟩
 have hb5 : bgI B5 z < 512 := bg_small (bg := bgI B5) (td_to HG.out HT5.out) HG.out hzb
 obtain ⟨cs, hcs⟩ : ∃ cs, cs = clL G K 0 0 (els (bgI B5 z) 9) := ⟨_, rfl⟩
 obtain ⟨F, hF⟩ : ∃ F : Nat → Nat, F = fun c => num G K (bgI B5 z) c (els (dnU (fun k => k < B5.length) (parO P5) (bgI B5) z) 9) := ⟨_, rfl⟩
 have HNM : Aside0 (sm cs F = numG G K) := ⟨by
  obtain ⟨r, q1, q2, q3⟩ := (td_to HG.out HT5.out).root
  have l := HT5.out.len
  have e1 := q3 z hzb (by unfold parO; rw [if_pos (by omega)])
  rw [hcs, hF]
  exact ways_root (bg := bgI B5) (td_to HG.out HT5.out) HG.out (by have := HKN.out; omega : K ≤ 16) hzb (fun k hk hp => (q3 k hk hp).trans e1.symm)⟩
 have HND : Aside0 cs.Nodup := ⟨by rw [hcs]; exact nodup_clL HG.out (by have := HKN.out; omega) (els_nodup _ 9) (fun v _ => ⟨zero_bset v, col_zero v⟩)⟩
 have HSL : Aside0 (sm cs F < 2 ^ 60) := ⟨by rw [hcs, hF]; exact Nat.lt_of_le_of_lt (sum6 HG.out HKN.out hb5) (by decide)⟩
 rw [← hcs, ← hF] at HWY
 have H36 := Aside0.mk h36
 have f0d : w6.drew.cell? ⟨xT, 0, none⟩ = some (.slice A5 B5.length c5) := (blk_cell HX6.out 0).trans rfl
 have f1d : w6.drew.cell? ⟨xT, 1, none⟩ = some (.slice A6 P5.length c6) := (blk_cell HX6.out 1).trans rfl
 have f2d : Below w6.heap.size w6 w6.drew := below_drew (Below.refl _ _)
 clear hcs hF hb5 hM h36 r1 r2 r3 z1 z2 hP30 hzb
 obtain ⟨kc, rfl⟩ : ∃ kc, kc = K := ⟨_, rfl⟩
 refine start_ (n := 8) (S := fun w' => w'.cell? ⟨xT, 0, none⟩ = some (.slice A5 B5.length c5) ∧ w'.cell? ⟨xT, 1, none⟩ = some (.slice A6 P5.length c6) ∧ Below w6.heap.size w6 w') (ds := [6, 7]) (Qbz 8 0) (by kernel_rfl) rfl rfl ⟨f0d, f1d, f2d⟩ (fun hHeld => ?_)
 refine Qpu 0 37 ?_ ?_ (Qbz 8 1) (by kernel_rfl) ?_
 refine Qpu 2 39 ?_ ?_ (Qbz 8 5) (by kernel_rfl) ?_
 refine Qpu 5 42 ?_ ?_ (Qbz 8 37) (by kernel_rfl) ?_
 refine take_ (i := 1) (N := some 38) (v := ?_) (a' := ?_) (Qbz 8 39) rfl rfl (by kernel_rfl) (fun _ _ _ h => h) (Or.inl ⟨by rfl, ?_⟩) hHeld ?_ ?_;rotate_left;(·rintro w' ⟨s0, s1, s2⟩;go_simp;with_reducible rfl);rotate_left;(·simp only [Act.put, Qp1, Qp2, Qp3, i64_w, i32_w];rfl)
 refine take_ (i := 3) (N := some 40) (v := ?_) (a' := ?_) (Qbz 8 47) rfl rfl (by kernel_rfl) (fun _ _ _ h => h) (Or.inl ⟨by rfl, ?_⟩) hHeld ?_ ?_;rotate_left;(·rintro w' ⟨s0, s1, s2⟩;go_simp;with_reducible rfl);rotate_left;(·simp only [Act.put, Qp1, Qp2, Qp3, i64_w, i32_w];rfl)
 refine one_ (i := 4) (N := some 41) (Qbz 8 63) rfl rfl (by kernel_rfl) (by decide) (fun K hK => ?_)
 refine goes_ Tryd.func82 (by kernel_rfl) rfl #[.slice A6 P5.length c6, .int .i64 (-1)] (by rfl) rfl rfl (by simp only [List.map_toArray, List.map_cons, List.map_nil]; rfl) ?_
 with_reducible refine (HIX.out _ hHeld).mono ?_
 rintro e w7 ⟨rfl, k0, k1, k2'⟩
 refine ⟨_, rfl, ?_⟩
 refine hK.out _ _ ⟨k0, k1, k2'⟩ (fun hHeld => ?_)
 clear hK K
 refine norm_ (a' := ?_) ?_ ?_
 rotate_left
 ·show Act.put _ (some 41) _ = _
  simp only [Act.put, Qp1, Qp2, Qp3, i64_w, i32_w]
  rfl
 refine last_ (i := 6) (N := some 43) (Qbz 8 127) rfl rfl (by kernel_rfl) (by decide) (fun K hK => ?_)
 refine goes_ Tryd.func85 (by kernel_rfl) rfl #[.slice A2 G.length c2, .agg #[.slice A5 B5.length c5, .slice A6 P5.length c6], .int .i64 (z : Int), .int .i64 (kc : Int)] (by rfl) rfl rfl (by simp only [List.map_toArray, List.map_cons, List.map_nil]; rfl) ?_
 with_reducible refine (HWY.out _ hHeld.2.2).mono ?_
 rintro e w8 ⟨mW, EW, rfl, hmW, hE1, hE2, hb8⟩
 have HE8 := Aside0.mk (And.intro hE1 hE2)
 have HB8 := Aside0.mk (below_step hHeld.2.2 hb8)
 have HMW := Aside0.mk hmW
 clear hE1 hE2 hb8 hmW
 refine ⟨_, rfl, ?_⟩
 refine hK.out _ _ ?_
 clear hK K
 refine norm_ (a' := ?_) ?_ ?_
 rotate_left
 ·show Act.put _ (some 43) _ = _
  simp only [Act.put, Qp1, Qp2, Qp3, i64_w, i32_w]
  rfl
 refine last_ (i := 7) (N := some 44) (Qbz 8 255) rfl rfl (by kernel_rfl) (by decide) (fun K hK => ?_)
 obtain ⟨w9, hrun9, hrg9, hg9, hs9⟩ := World.ownsMap.range HE8.out.1 law3 undT
 have HRG9 := Aside0.mk hrg9
 have HB9 := Aside0.mk (below_step HB8.out (grow_below hg9))
 have HRL : Aside0 (w8.heap.size < w9.heap.size) := ⟨by omega⟩
 clear hrg9 hg9 hs9
 refine value_ (w1 := w9) (v := .pointer (some ⟨w8.heap.size, 0, none⟩)) (by rfl) rfl ?_ ?_
 ·go_simp
 refine hK.out _ _ ?_
 clear hK K
 refine norm_ (a' := ?_) ?_ ?_
 rotate_left
 ·show Act.put _ (some 44) _ = _
  simp only [Act.put, Qp1, Qp2, Qp3, i64_w, i32_w]
  rfl
 refine done_ (by kernel_rfl) ?_
 clear HWY HIX HC6 HC6g HCg HC5 H56 HX6 HT5 f0d f1d f2d
 have HS0 : Aside0 (w9.ranges Tryd.prog 3 pI mW w8.heap.size N EW (Maps.has EW) (Maps.size EW) ∧ Below w.heap.size w w9) := ⟨HRG9.out, below_step HB6.out HB9.out⟩
 have HL0 : Aside0 (sm (cs.filter fun c => !(Maps.has EW) (kI c)) F = 0) := ⟨by
  have : (cs.filter fun c => !(Maps.has EW) (kI c)) = [] := List.filter_eq_nil_iff.2 fun c hc => by
   have := (HE8.out.2.has c).2 hc
   rw [this]; simp
  rw [this]; rfl⟩
 have HRW : Aside0 (w.heap.size ≤ w8.heap.size) := ⟨by
  have q1 := HB6.out.size
  have q2 := HB8.out.size
  omega⟩
 clear HRG9 HB9 HB8 HB6 HB5 HB4 HRL
 generalize w8.heap.size = r at *
 go_wp2
 go_loopg [10, 13] (Maps.size EW) (fun kq v10 v13 w' => ∃ left, v10 = .int .i64 ((sm (cs.filter fun c => !left (kI c)) F : Nat) : Int) ∧ Aside0 (w'.ranges Tryd.prog 3 pI mW r N EW left kq ∧ Below w.heap.size w w'))
 case atStart => exact ⟨_, by rw [HL0.out]; rfl, HS0⟩
 case round =>
  clear HS0 HL0
  obtain ⟨left, rfl, HR⟩ := hrel
  have hrg := HR.out.1
  go_wp2_with (at_next; refine wpList_next_ranges_ii _ rfl _ rfl 3 3 .i64 .i64 law3 und3 und3 mW r N EW left gk rfl hrg ?_ ?_)
  ·intro hc0' hl0
   clear hrg
   have e : left = fun _ => false := funext hl0
   subst e
   clear hl0
   have hall : sm (cs.filter fun c => !(fun _ : Lit => false) (kI c)) F = numG G kc := by
    rw [← HNM.out]
    congr 1
    exact List.filter_eq_self.2 fun _ _ => rfl
   rw [hall]
   clear hall
   go_wp2
   go_ret2
   exact ⟨rfl, HR.out.2⟩
  ·intro x0' cc w10 cnt2 hwx hwc hlx hat hrg10 hlt hg10 hs10 hen
   obtain ⟨g, hgc, rfl, rfl⟩ := HE8.out.2.step hat
   have HST := Aside0.mk (sm_strike HND.out hgc hlx F)
   have hle : sm (cs.filter fun c => !left (kI c)) F + F g ≤ sm cs F := by
    rw [← HST.out]
    exact sm_filter_le _ _ _
   have hadd := addC (Nat.le_trans hle (Nat.le_refl _)) HSL.out
   have HR10 : Aside0 (w10.ranges Tryd.prog 3 pI mW r N EW (fun z => left z && !z.sameKey (kI g)) cnt2 ∧ Below w.heap.size w w10) := ⟨hrg10, below_grow HR.out.2 hg10 HRW.out⟩
   clear hle hrg hrg10 hat hwx hwc hlx hg10 hgc HR
   generalize hsv : sm (cs.filter fun c => !left (kI c)) F = sv at *
   generalize hfg : F g = fg at *
   have HSV := Aside0.mk hsv
   have HFG := Aside0.mk hfg
   clear hsv hfg
   go_wp2
   go_roundg cnt2
   case measure => exact hlt
   case rel => exact ⟨_, by rw [HST.out, hadd], HR10⟩
theorem width_Count.calls (Ag : Option Addr) (cg : Nat) (g : List Int) (A0 : Option Addr) (c0 : Nat) (B : List Int) (A1 : Option Addr) (c1 : Nat) (P : List Int) (K : Int) (r1 r2 : Int) (w : World) (hGL : GL w) (hrg : Kd.C (Kd.int .i64) w Ag g.length g) (hcg : g.length ≤ cg) (hr0 : Kd.C (Kd.int .i64) w A0 B.length B) (hc0 : B.length ≤ c0) (hr1 : Kd.C (Kd.int .i64) w A1 P.length P) (hc1 : P.length ≤ c1) (h : width_Count.f g B P K = some (r1, r2)) :
  Calls Tryd.prog 56 #[.slice Ag g.length cg, .agg #[.slice A0 B.length c0, .slice A1 P.length c1], .int .i64 K] w fun e w' => e = .returned (.tuple #[.int .i64 r1, .int .i64 r2]) ∧ Below w.heap.size w w' := by
 unfold width_Count.f at h
 by_cases hchk : chk 9 g = true
 ·rw [if_pos hchk] at h
  obtain ⟨G, rfl, hG⟩ := (chk_iff 9 (by omega) _).1 hchk
  rw [gi_toNatN] at h
  by_cases hb : treeB G B P = true ∧ 0 ≤ K ∧ K ≤ 6
  ·rw [if_pos hb] at h
   have h1 := Option.some.inj h
   simp only [Prod.mk.injEq] at h1
   obtain ⟨h1, h2⟩ := h1
   subst h1 h2
   obtain ⟨k, rfl⟩ : ∃ k : Nat, K = (k : Int) := ⟨K.toNat, by omega⟩
   rw [Int.toNat_natCast]
   exact count_yes hG Ag cg A0 c0 B A1 c1 P k (by omega) w hGL hrg hcg hr0 hc0 hr1 hc1 hb.1
  ·rw [if_neg hb] at h
   have h1 := Option.some.inj h
   simp only [Prod.mk.injEq] at h1
   obtain ⟨h1, h2⟩ := h1
   subst h1 h2
   refine count_no2 hG Ag cg A0 c0 B A1 c1 P K w hGL hrg hcg hr0 hc0 hr1 hc1 _ rfl ?_
   by_cases hbt : treeB G B P = true
   ·by_cases h0 : K < 0
    ·exact .inr (.inl h0)
    ·exact .inr (.inr (by
      apply Classical.byContradiction
      intro h6
      exact hb ⟨hbt, by omega, by omega⟩))
   ·exact .inl (by simpa using hbt)
 ·rw [if_neg hchk] at h
  by_cases hl : g.length < 1000
  ·rw [if_pos hl] at h
   have h1 := Option.some.inj h
   simp only [Prod.mk.injEq] at h1
   obtain ⟨h1, h2⟩ := h1
   subst h1 h2
   exact count_no1 Ag cg g A0 B.length c0 A1 P.length c1 K w hrg hcg hl (by simpa using hchk)
  ·rw [if_neg hl] at h
   cases h
end Go.Proofs.YtoffehihicabcaaDoor.X
end
section
namespace Go.Proofs.YtoffehihicabcaaDoor.X
open Go.RowKit YtoffehihicabcaaDoorW.PrintWords YtoffehihicabcaaDoorW.PrintLast YtoffehihicabcaaDoorW.PrintMore
attribute [local go_sem] max2_int min2_int max_two min_two max_three min_three max_four min_four
noncomputable section
def lampblacklaw02_fine.f (k : Nat) (l0 : List Int) (l1_0 : List Int) (l1_1 : List Int) : Option (Bool) := (lampblackref02_Valid.f k l0).bind fun t429 => (if t429 = true then ((lampblackref02_IsTree.f k l0 l1_0 l1_1).bind fun bt430 => (some bt430.2)) else (some false))
set_option maxHeartbeats 8000000 in
set_option maxRecDepth 100000 in
theorem lampblacklaw02_fine.calls (k : Nat) (A0 : Option Addr) (c0 : Nat) (l0 : List Int) (A1_0 : Option Addr) (c1_0 : Nat) (l1_0 : List Int) (A1_1 : Option Addr) (c1_1 : Nat) (l1_1 : List Int) (r : Bool) (w : World) (hr0 : Kd.C (Kd.int .i64) w A0 l0.length l0) (hc0 : l0.length ≤ c0) (hr1_0 : Kd.C (Kd.int .i64) w A1_0 l1_0.length l1_0) (hc1_0 : l1_0.length ≤ c1_0) (hr1_1 : Kd.C (Kd.int .i64) w A1_1 l1_1.length l1_1) (hc1_1 : l1_1.length ≤ c1_1) (h : lampblacklaw02_fine.f k l0 l1_0 l1_1 = some r) :
  Calls Tryd.prog 45 #[.slice A0 l0.length c0, .agg #[.slice A1_0 l1_0.length c1_0, .slice A1_1 l1_1.length c1_1]] w fun e w' => e = .returned (.bool r) ∧ Below w.heap.size w w' := by
 have hu52 := Tryd.underlying52
 have HR0 := Aside0.mk hr0
 have HC0 := Aside0.mk hc0
 clear hr0 hc0
 have HR1_0 := Aside0.mk hr1_0
 have HC1_0 := Aside0.mk hc1_0
 clear hr1_0 hc1_0
 have HR1_1 := Aside0.mk hr1_1
 have HC1_1 := Aside0.mk hc1_1
 clear hr1_1 hc1_1
 have HB := Aside0.mk (Below.refl w.heap.size w)
 have H : ((lampblackref02_Valid.f k l0).bind fun t429 => (if t429 = true then ((lampblackref02_IsTree.f k l0 l1_0 l1_1).bind fun bt430 => (some bt430.2)) else (some false))) = some r := h
 clear h
 replace H := Option.bind_eq_some_iff.mp H
 obtain ⟨t429, A30, H⟩ := H
 replace H : (if t429 = true then ((lampblackref02_IsTree.f k l0 l1_0 l1_1).bind fun bt430 => (some bt430.2)) else (some false)) = some r := H
 have A3 := Aside0.mk A30
 clear A30
 by_cases c4 : t429 = true
 ·subst c4
  have H1 : ((lampblackref02_IsTree.f k l0 l1_0 l1_1).bind fun bt430 => (some bt430.2)) = some r := by rw [if_pos rfl] at H; exact H
  clear H
  have H := H1
  clear H1
  replace H := Option.bind_eq_some_iff.mp H
  obtain ⟨⟨t430, t431⟩, A50, H⟩ := H
  replace H : (some t431) = some r := H
  have A5 := Aside0.mk A50
  clear A50
  obtain rfl := Option.some.inj H
  go_enter Tryd.func45, Tryd.ntmps45
  go_wp2_with (first | ((with_reducible refine gate_dst (N := 3) rfl ?_); refine box_event ?hg (N := 3) ?hd (cs := #[.slice A1_0 l1_0.length c1_0, .slice A1_1 l1_1.length c1_1]) (t := 52) ?hr ?_; (case hd => rfl); (case hg => rfl); (case hr => first | (go_simp; done) | (go_simp; rfl)); intro gb428 hg w6 hbox hb; have n0_ := Aside0.mk (below_step (Qaw) hb); have n1_ := Aside0.mk (hbox); have n2_ := Aside0.mk ((by rw [hg]; exact (below_size (Qaw)) : w.heap.size ≤ gb428)); have n3_ := Aside0.mk ((by rw [hg]; exact (below_size (Qaw)) : w.heap.size ≤ gb428)); clear HB; have HB := n0_; have BK428 := n1_; have GW428 := n2_; have GE428 := n3_; clear n0_ n1_ n2_ n3_; clear hb hbox hg) | ((with_reducible refine gate_callee (f := 23) rfl ?_); refine goesL_ (some 8) rfl rfl Tryd.func23 (by kernel_rfl) rfl #[.slice A0 l0.length c0] rfl (Qls) ?_; (with_reducible refine (lampblackref02_Valid.calls k _ _ l0 true _ ?side1 ?side2 A3.out).mono ?_); (case side1 => exact Qsc (Kd.C_below HR0.out HB.out)); (case side2 => exact HC0.out); rintro e w' ⟨rfl, ⟨nd, rfl⟩⟩; refine ⟨_, rfl, ?_⟩; have hcz7_0 : w6.cell? ⟨gb428, 0, none⟩ = some (.slice A1_0 l1_0.length c1_0) := (blk_cell BK428.out 0).trans rfl; have hcz7_1 : w6.cell? ⟨gb428, 1, none⟩ = some (.slice A1_1 l1_1.length c1_1) := (blk_cell BK428.out 1).trans rfl; have hfz7_0 := blk_frozen BK428.out 0; have hfz7_1 := blk_frozen BK428.out 1) | ((with_reducible refine gate_callee (f := 53) rfl ?_); refine goesL_ (some 13) rfl rfl Tryd.func53 (by kernel_rfl) rfl #[.slice A0 l0.length c0, .agg #[.slice A1_0 l1_0.length c1_0, .slice A1_1 l1_1.length c1_1]] rfl (Qls) ?_; (with_reducible refine (lampblackref02_IsTree.calls k _ _ l0 _ _ l1_0 _ _ l1_1 t430 t431 _ ?side1 ?side2 ?side3 ?side4 ?side5 ?side6 A5.out).mono ?_); (case side1 => repeat (first | exact (Kd.C_below HR0.out (Qag GE428.out)) | (with_reducible refine Kd.C_alloc ?_ _) | (with_reducible refine Kd.C_drewN ?_ _) | (with_reducible refine Kd.C_drew ?_))); (case side2 => exact HC0.out); (case side3 => repeat (first | exact (Kd.C_below HR1_0.out (Qag GE428.out)) | (with_reducible refine Kd.C_alloc ?_ _) | (with_reducible refine Kd.C_drewN ?_ _) | (with_reducible refine Kd.C_drew ?_))); (case side4 => exact HC1_0.out); (case side5 => repeat (first | exact (Kd.C_below HR1_1.out (Qag GE428.out)) | (with_reducible refine Kd.C_alloc ?_ _) | (with_reducible refine Kd.C_drewN ?_ _) | (with_reducible refine Kd.C_drew ?_))); (case side6 => exact HC1_1.out); rintro e w8 ⟨rfl, hb⟩; refine ⟨_, rfl, ?_⟩; have n0_ := Aside0.mk (blk_below (g := gb428) (o := .cells #[.slice A1_0 l1_0.length c1_0, .slice A1_1 l1_1.length c1_1] 52 (0, 0)) (Qbl BK428.out) hb); have n1_ := Aside0.mk (below_step (Qag GE428.out) hb); clear BK428; clear HB; have BK428 := n0_; have HB := n1_; clear n0_ n1_; (try clear hb); (try clear hb2); (try clear hk); (try clear hi)))
  go_ret
  exact ⟨by first | rfl | (simp [errW_none, errW_some] <;> rfl) | (simp [*, errW_none, errW_some] <;> rfl), by repeat (first | (with_reducible first | exact HB.out | apply below_alloc | apply pw_below_drewN | apply below_drew1 | refine below_set ?_ GE428.out) | exact HB.out)⟩
 ·replace c4 := Bool.eq_false_iff.mpr c4
  subst c4
  have H1 : (some false) = some r := by rw [if_neg (show ¬ (false = true) by decide)] at H; exact H
  clear H
  have H := H1
  clear H1
  obtain rfl := Option.some.inj H
  go_enter Tryd.func45, Tryd.ntmps45
  go_wp2_with (first | ((with_reducible refine gate_dst (N := 3) rfl ?_); refine box_event ?hg (N := 3) ?hd (cs := #[.slice A1_0 l1_0.length c1_0, .slice A1_1 l1_1.length c1_1]) (t := 52) ?hr ?_; (case hd => rfl); (case hg => rfl); (case hr => first | (go_simp; done) | (go_simp; rfl)); intro gb428 hg w9 hbox hb; have n0_ := Aside0.mk (below_step (Qaw) hb); have n1_ := Aside0.mk (hbox); have n2_ := Aside0.mk ((by rw [hg]; exact (below_size (Qaw)) : w.heap.size ≤ gb428)); have n3_ := Aside0.mk ((by rw [hg]; exact (below_size (Qaw)) : w.heap.size ≤ gb428)); clear HB; have HB := n0_; have BK428 := n1_; have GW428 := n2_; have GE428 := n3_; clear n0_ n1_ n2_ n3_; clear hb hbox hg) | ((with_reducible refine gate_callee (f := 23) rfl ?_); refine goesL_ (some 8) rfl rfl Tryd.func23 (by kernel_rfl) rfl #[.slice A0 l0.length c0] rfl (Qls) ?_; (with_reducible refine (lampblackref02_Valid.calls k _ _ l0 false _ ?side1 ?side2 A3.out).mono ?_); (case side1 => exact Qsc (Kd.C_below HR0.out HB.out)); (case side2 => exact HC0.out); rintro e w' ⟨rfl, ⟨nd, rfl⟩⟩; refine ⟨_, rfl, ?_⟩))
  go_ret
  exact ⟨by first | rfl | (simp [errW_none, errW_some] <;> rfl) | (simp [*, errW_none, errW_some] <;> rfl), by repeat (first | (with_reducible first | exact HB.out | apply below_alloc | apply pw_below_drewN | apply below_drew1 | refine below_set ?_ GE428.out) | exact HB.out)⟩
end
noncomputable section
def lampblacklaw02_list.f (l0 : List Int) : Option (List Int) := if 0 ≤ (mn (l0.length : Int) 210) then (if (mn (l0.length : Int) 210) ≤ (l0.length : Int) then ((slices_Clone_int_int.f (l0.take ((mn (l0.length : Int) 210) : Int).toNat)).bind fun t286 => (some t286)) else (none)) else (none)
set_option maxHeartbeats 8000000 in
set_option maxRecDepth 100000 in
theorem lampblacklaw02_list.calls (A0 : Option Addr) (c0 : Nat) (l0 : List Int) (r : List Int) (w : World) (hr0 : Kd.C (Kd.int .i64) w A0 l0.length l0) (hc0 : l0.length ≤ c0) (h : lampblacklaw02_list.f l0 = some r) :
  Calls Tryd.prog 31 #[.slice A0 l0.length c0] w fun e w' => ∃ v0_ : Value, e = .returned (v0_) ∧ Kd.R (Kd.int .i64) 3 w' w.heap.size (fun _ => True) v0_ r ∧ Below w.heap.size w w' := by
 have HR0 := Aside0.mk hr0
 have HC0 := Aside0.mk hc0
 clear hr0 hc0
 have HB := Aside0.mk (Below.refl w.heap.size w)
 have H : (if 0 ≤ (mn (l0.length : Int) 210) then (if (mn (l0.length : Int) 210) ≤ (l0.length : Int) then ((slices_Clone_int_int.f (l0.take ((mn (l0.length : Int) 210) : Int).toNat)).bind fun t286 => (some t286)) else (none)) else (none)) = some r := h
 clear h
 obtain ⟨ji2, hji2⟩ : ∃ j_ : Int, (mn (l0.length : Int) 210) = j_ := ⟨_, rfl⟩
 replace H : (if 0 ≤ (ji2) then (if (ji2) ≤ (l0.length : Int) then ((slices_Clone_int_int.f (l0.take ((ji2) : Int).toNat)).bind fun t286 => (some t286)) else (none)) else (none)) = some r := by first | (rw [hji2] at H; exact H) | (simp only [hji2] at H ⊢; exact H)
 (try (have hji2h : ji2 ≤ 210 := by (rw [← hji2]; unfold mn; (repeat' split) <;> omega)))
 (try (have hji2g : ji2 ≤ 64 := by omega))
 (try (have hji2l : 0 ≤ ji2 := by (rw [← hji2]; unfold mn; (repeat' split) <;> omega)))
 (try (have hji2m : 0 ≤ ji2 := by omega))
 have hji2_ : (if 210 < (l0.length : Int) then 210 else (l0.length : Int)) = ji2 := hji2
 by_cases c3 : 0 ≤ (ji2)
 ·rw [if_pos c3] at H
  have c3b0 := eq_true c3
  have c3b1 : decide (0 ≤ (ji2)) = true := decide_eq_true c3
  clear c3
  by_cases c4 : (ji2) ≤ (l0.length : Int)
  ·rw [if_pos c4] at H
   have c4b0 := eq_true c4
   have c4b1 : decide ((ji2) ≤ (l0.length : Int)) = true := decide_eq_true c4
   clear c4
   replace H := Option.bind_eq_some_iff.mp H
   obtain ⟨t286, A50, H⟩ := H
   replace H : (some t286) = some r := H
   have A5 := Aside0.mk A50
   clear A50
   obtain rfl := Option.some.inj H
   obtain ⟨i06, hi06, _, hsz6, _⟩ := info_parts info3
   obtain ⟨hcut6, hA6, hC6⟩ := print_take_of (P := Tryd.prog) (Value.int .i64) 0 22 3 .i64 Tryd.underlying22 hi06 hsz6 A0 c0 l0 (ji2) (of_decide_eq_true (Qas)) (of_decide_eq_true (Qas)) HC0.out
   have HR285 := Aside0.mk (Kd.C_of_reads (h1 := fun _ => rfl) (hA6 _ (Kd.reads_of_C HR0.out)))
   have HC285 := Aside0.mk hC6
   clear hA6 hC6 hi06 hsz6
   go_enter Tryd.func31, Tryd.ntmps31
   go_wp2_with (first | ((with_reducible refine gate_callee (f := 72) rfl ?_); refine goesL_ (some 8) rfl rfl Tryd.func72 (by kernel_rfl) rfl #[.slice A0 (l0.take ((ji2) : Int).toNat).length c0] rfl (by (try simp only [List.map_toArray, List.map_cons, List.map_nil]); first | done | (rw [show (l0.take ((ji2) : Int).toNat).length = (ji2).toNat from (by rw [List.length_take]; have h_ : ((ji2) : Int) ≤ (l0.length : Int) := of_decide_eq_true (Qas); omega)] <;> rfl) | (simp only [hji2]; rfl) | rfl | (simp only [List.length_drop, List.length_take]; rfl)) ?_; (with_reducible refine (slices_Clone_int_int.calls _ _ (l0.take ((ji2) : Int).toNat) t286 _ ?side1 ?side2 A5.out).mono ?_); (case side1 => exact Qsc HR285.out); (case side2 => exact HC285.out); rintro e w7 ⟨v287, rfl, ho0, hb⟩; refine ⟨_, rfl, ?_⟩; have n0_ := Aside0.mk (Kd.R_lower ho0 (below_size (Qaw))); have n1_ := Aside0.mk (below_step (Qaw) hb); clear HB; have HO288 := n0_; have HB := n1_; clear n0_ n1_; (try clear hb); (try clear hb2); (try clear hk); (try clear hi); (try clear ho0)))
   go_ret
   exact ⟨_, by first | rfl | (simp [errW_none, errW_some] <;> rfl) | (simp only [← hji2]; first | rfl | (simp [errW_none, errW_some] <;> rfl)) | (simp [*, errW_none, errW_some] <;> rfl), by (with_reducible repeat (first | apply Kd.R_alloc | apply Kd.R_drewN | apply Kd.R_drew)); exact HO288.out, by repeat (first | (with_reducible first | exact HB.out | apply below_alloc | apply pw_below_drewN | apply below_drew1) | exact HB.out)⟩
  ·rw [if_neg c4] at H
   exact absurd H (by simp)
 ·rw [if_neg c3] at H
  exact absurd H (by simp)
end
noncomputable section
def lampblacklaw02_Of.f (l0_0 : List Int) (l0_1 : List Int) : Option (List Int × List Int) := (lampblacklaw02_list.f l0_0).bind fun t411 => ((lampblacklaw02_list.f l0_1).bind fun t414 => (some (t411, t414)))
def lampblacklaw02_Of.T1 : Bool × List (List Nat × List Nat) := (true, [([], []), ([0], [0]), ([1], [1]), ([], []), ([3], [3]), ([4, 2], [4]), ([2, 5], [2, 5]), ([6, 5, 0, 1, 2, 3, 4, 5, 6], [6])])
def lampblacklaw02_Of.B1 : List Nat := [0, 1, 3, 0, 8, 31, 63, 127]
theorem lampblacklaw02_Of.tab1 : rtab .any (opsOf Tryd.f44 1) = lampblacklaw02_Of.T1 := by kernel_rfl
theorem lampblacklaw02_Of.bits1 : waitsOk lampblacklaw02_Of.T1.2 lampblacklaw02_Of.B1 = true := by kernel_rfl
set_option maxHeartbeats 8000000 in
set_option maxRecDepth 100000 in
theorem lampblacklaw02_Of.calls (A0_0 : Option Addr) (c0_0 : Nat) (l0_0 : List Int) (A0_1 : Option Addr) (c0_1 : Nat) (l0_1 : List Int) (r1 : List Int) (r2 : List Int) (w : World) (hr0_0 : Kd.C (Kd.int .i64) w A0_0 l0_0.length l0_0) (hc0_0 : l0_0.length ≤ c0_0) (hr0_1 : Kd.C (Kd.int .i64) w A0_1 l0_1.length l0_1) (hc0_1 : l0_1.length ≤ c0_1) (h : lampblacklaw02_Of.f l0_0 l0_1 = some (r1, r2)) :
  Calls Tryd.prog 44 #[.agg #[.slice A0_0 l0_0.length c0_0, .slice A0_1 l0_1.length c0_1]] w fun e w' => ∃ v0_ v1_ : Value, e = .returned (.agg #[v0_, v1_]) ∧ Kd.R (Kd.int .i64) 3 w' w.heap.size (fun k_ => some k_ ≠ (v1_ : Value).ownBlock) v0_ r1 ∧ Kd.R (Kd.int .i64) 3 w' w.heap.size (fun k_ => some k_ ≠ (v0_ : Value).ownBlock) v1_ r2 ∧ Below w.heap.size w w' := by
 have hu52 := Tryd.underlying52
 have hu53 := Tryd.underlying53
 have HR0_0 := Aside0.mk hr0_0
 have HC0_0 := Aside0.mk hc0_0
 clear hr0_0 hc0_0
 have HR0_1 := Aside0.mk hr0_1
 have HC0_1 := Aside0.mk hc0_1
 clear hr0_1 hc0_1
 have HB := Aside0.mk (Below.refl w.heap.size w)
 have H : ((lampblacklaw02_list.f l0_0).bind fun t411 => ((lampblacklaw02_list.f l0_1).bind fun t414 => (some (t411, t414)))) = some (r1, r2) := h
 clear h
 replace H := Option.bind_eq_some_iff.mp H
 obtain ⟨t411, A20, H⟩ := H
 replace H : ((lampblacklaw02_list.f l0_1).bind fun t414 => (some (t411, t414))) = some (r1, r2) := H
 have A2 := Aside0.mk A20
 clear A20
 replace H := Option.bind_eq_some_iff.mp H
 obtain ⟨t414, A30, H⟩ := H
 replace H : (some (t411, t414)) = some (r1, r2) := H
 have A3 := Aside0.mk A30
 clear A30
 simp only [Option.some.injEq, Prod.mk.injEq] at H
 obtain ⟨rfl, rfl⟩ := H
 go_enter Tryd.func44, Tryd.ntmps44
 try go_wp2_with (first | ((with_reducible refine gate_dst (N := 1) rfl ?_); refine box_event ?hg (N := 1) ?hd (cs := #[.slice A0_0 l0_0.length c0_0, .slice A0_1 l0_1.length c0_1]) (t := 52) ?hr ?_; (case hd => rfl); (case hg => rfl); (case hr => first | (go_simp; done) | (go_simp; rfl)); intro gb409 hg w4 hbox hb; have n0_ := Aside0.mk (below_step (Qaw) hb); have n1_ := Aside0.mk (hbox); have n2_ := Aside0.mk ((by rw [hg]; exact (below_size (Qaw)) : w.heap.size ≤ gb409)); have n3_ := Aside0.mk ((by rw [hg]; exact (below_size (Qaw)) : w.heap.size ≤ gb409)); clear HB; have HB := n0_; have BK409 := n1_; have GW409 := n2_; have GE409 := n3_; clear n0_ n1_ n2_ n3_; clear hb hbox hg) | ((with_reducible refine gate_dst (N := 2) rfl ?_); refine box_event ?hg (N := 2) ?hd (cs := #[.slice none 0 0, .slice none 0 0]) (t := 53) ?hr ?_; (case hd => rfl); (case hg => rfl); (case hr => first | (go_simp; done) | (go_simp; rfl)); intro gb410 hg w5 hbox hb; have n0_ := Aside0.mk (blk_below (g := gb409) (o := .cells #[.slice A0_0 l0_0.length c0_0, .slice A0_1 l0_1.length c0_1] 52 (0, 0)) (Qbl BK409.out) hb); have n1_ := Aside0.mk (below_step (Qag GE409.out) hb); have n2_ := Aside0.mk (hbox); have n3_ := Aside0.mk ((by rw [hg]; exact (below_size (Qag GE409.out)) : w.heap.size ≤ gb410)); have n4_ := Aside0.mk ((by rw [hg]; exact (below_size (Qag GE409.out)) : w.heap.size ≤ gb410)); have n5_ := Aside0.mk ((by rw [hg]; exact Nat.ne_of_lt (blk_lt (g := gb409) (o := .cells #[.slice A0_0 l0_0.length c0_0, .slice A0_1 l0_1.length c0_1] 52 (0, 0)) (Qbl BK409.out)) : gb409 ≠ gb410)); have n6_ := Aside0.mk ((by rw [hg]; exact Nat.ne_of_gt (blk_lt (g := gb409) (o := .cells #[.slice A0_0 l0_0.length c0_0, .slice A0_1 l0_1.length c0_1] 52 (0, 0)) (Qbl BK409.out)) : gb410 ≠ gb409)); clear BK409; clear HB; have BK409 := n0_; have HB := n1_; have BK410 := n2_; have GW410 := n3_; have GE410 := n4_; have NB409_410 := n5_; have NB410_409 := n6_; clear n0_ n1_ n2_ n3_ n4_ n5_ n6_; clear hb hbox hg))
 have n0_ := Aside0.mk (blk_drew BK409.out)
 have n1_ := Aside0.mk (blk_drew BK410.out)
 have n2_ := Aside0.mk (below_drew1 HB.out)
 clear BK409
 clear BK410
 clear HB
 have BK409 := n0_
 have BK410 := n1_
 have HB := n2_
 clear n0_ n1_ n2_
 refine start_ (n := 8) (S := fun w' => w'.cell? ⟨gb409, 0, none⟩ = some (.slice A0_0 l0_0.length c0_0) ∧ w'.cell? ⟨gb409, 1, none⟩ = some (.slice A0_1 l0_1.length c0_1)) (ds := []) (Qbz 8 0) (by kernel_rfl) rfl rfl ⟨(blk_cell BK409.out 0).trans rfl, (blk_cell BK409.out 1).trans rfl⟩ (fun hHeld => ?_); refine with_tabW lampblacklaw02_Of.tab1 lampblacklaw02_Of.bits1 (fun HT_ HW_ => ?_)
 generalize w5.drew = w6 at BK409 BK410 HB hHeld ⊢
 refine Qpu 0 3 ?_ ?_ (Qbz 8 1) (Qao) ?_
 refine Qpu 3 6 ?_ ?_ (Qbz 8 9) (Qao) ?_
 refine take_ (i := 1) (N := some 4) (v := ?_) (a' := ?_) (Qbz 8 11) rfl rfl (take_ofW HT_.out HW_.out (by kernel_rfl)) (fun _ _ _ h => h) (Or.inl ⟨by rfl, ?_⟩) hHeld ?_ ?_;rotate_left;(·rintro w' ⟨s0, s1⟩;go_simp;with_reducible rfl);rotate_left;(·simp only [Act.put, Qp1, Qp2, Qp3, i64_w, i32_w];rfl)
 refine take_ (i := 4) (N := some 7) (v := ?_) (a' := ?_) (Qbz 8 27) rfl rfl (take_ofW HT_.out HW_.out (by kernel_rfl)) (fun _ _ _ h => h) (Or.inl ⟨by rfl, ?_⟩) hHeld ?_ ?_;rotate_left;(·rintro w' ⟨s0, s1⟩;go_simp;with_reducible rfl);rotate_left;(·simp only [Act.put, Qp1, Qp2, Qp3, i64_w, i32_w];rfl)
 refine one_ (i := 2) (N := some 5) (Qbz 8 31) rfl rfl (one_of HT_.out (by kernel_rfl)) (by decide) (fun K hK => ?_)
 refine goes_ Tryd.func31 (by kernel_rfl) rfl #[.slice A0_0 l0_0.length c0_0] (by rfl) rfl rfl (Qls) ?_
 with_reducible refine (lampblacklaw02_list.calls _ _ l0_0 t411 _ ?side1 ?side2 A2.out).mono ?_
 (case side1 => exact Qsc (Kd.C_below HR0_0.out HB.out))
 (case side2 => exact HC0_0.out)
 rintro e w7 ⟨v412, rfl, ho0, hb⟩
 refine ⟨_, rfl, ?_⟩
 have n0_ := Aside0.mk (Kd.R_lower ho0 (below_size (Qah GE409.out GE410.out)))
 have n1_ := Aside0.mk (blk_below (g := gb409) (o := .cells #[.slice A0_0 l0_0.length c0_0, .slice A0_1 l0_1.length c0_1] 52 (0, 0)) (Qbl BK409.out) hb)
 have n2_ := Aside0.mk (blk_below (g := gb410) (o := .cells #[.slice none 0 0, .slice none 0 0] 53 (0, 0)) (Qbl BK410.out) hb)
 have n3_ := Aside0.mk (below_step (Qah GE409.out GE410.out) hb)
 clear BK409
 clear BK410
 clear HB
 have HO413 := n0_
 have BK409 := n1_
 have BK410 := n2_
 have HB := n3_
 clear n0_ n1_ n2_ n3_
 (try clear hb)
 (try clear hb2)
 (try clear hk)
 (try clear hi)
 (try clear ho0)
 refine hK.out _ _ ⟨(blk_cell BK409.out 0).trans rfl, (blk_cell BK409.out 1).trans rfl⟩ (fun hHeld => ?_)
 clear hK K
 refine norm_ (a' := ?_) ?_ ?_
 rotate_left
 ·show Act.put _ (some 5) _ = _
  simp only [Act.put, Qp1, Qp2, Qp3, i64_w, i32_w]
  rfl
 refine one_ (i := 5) (N := some 8) (Qbz 8 63) rfl rfl (one_of HT_.out (by kernel_rfl)) (by decide) (fun K hK => ?_)
 refine goes_ Tryd.func31 (by kernel_rfl) rfl #[.slice A0_1 l0_1.length c0_1] (by rfl) rfl rfl (Qls) ?_
 with_reducible refine (lampblacklaw02_list.calls _ _ l0_1 t414 _ ?side1 ?side2 A3.out).mono ?_
 (case side1 => exact Qsc (Kd.C_below HR0_1.out HB.out))
 (case side2 => exact HC0_1.out)
 rintro e w8 ⟨v415, rfl, ho0, hb⟩
 refine ⟨_, rfl, ?_⟩
 have n0_ := Aside0.mk (Kd.R_elder' (Qro HO413.out) (Kd.R_base ho0) hb)
 have n1_ := Aside0.mk (Kd.R_lower (Kd.R_new' ho0 (Kd.R_lt (Qro HO413.out))) (below_size (Qah GE409.out GE410.out)))
 have n2_ := Aside0.mk (blk_below (g := gb409) (o := .cells #[.slice A0_0 l0_0.length c0_0, .slice A0_1 l0_1.length c0_1] 52 (0, 0)) (Qbl BK409.out) hb)
 have n3_ := Aside0.mk (blk_below (g := gb410) (o := .cells #[.slice none 0 0, .slice none 0 0] 53 (0, 0)) (Qbl BK410.out) hb)
 have n4_ := Aside0.mk (below_step (Qah GE409.out GE410.out) hb)
 clear HO413
 clear BK409
 clear BK410
 clear HB
 have HO413 := n0_
 have HO416 := n1_
 have BK409 := n2_
 have BK410 := n3_
 have HB := n4_
 clear n0_ n1_ n2_ n3_ n4_
 (try clear hb)
 (try clear hb2)
 (try clear hk)
 (try clear hi)
 (try clear ho0)
 obtain ⟨Ao9, co9, eo9⟩ := Kd.R_slice HO416.out
 (first | subst eo9 | (injection eo9 with f1_ f2_ f3_; have f4_ := f1_.symm; have f5_ := f3_.symm; clear f1_ f2_ f3_; subst f4_; subst f5_))
 obtain ⟨Ao10, co10, eo10⟩ := Kd.R_slice HO413.out
 (first | subst eo10 | (injection eo10 with f1_ f2_ f3_; have f4_ := f1_.symm; have f5_ := f3_.symm; clear f1_ f2_ f3_; subst f4_; subst f5_))
 refine hK.out _ _ ⟨(blk_cell BK409.out 0).trans rfl, (blk_cell BK409.out 1).trans rfl⟩ (fun hHeld => ?_)
 clear hK K
 refine norm_ (a' := ?_) ?_ ?_
 rotate_left
 ·show Act.put _ (some 8) _ = _
  simp only [Act.put, Qp1, Qp2, Qp3, i64_w, i32_w]
  rfl
 refine Qpu 6 9 ?_ ?_ (Qbz 8 127) (Qao) ?_
 refine one_ (i := 7) (N := none) (Qbz 8 255) rfl rfl (one_of HT_.out (by kernel_rfl)) (by decide) (fun K hK => ?_)
 have hs11 : w8.cell? ⟨gb410, 0, none⟩ = some (.slice none 0 0) := (blk_cell BK410.out 0).trans rfl
 have hfs11 := blk_frozen BK410.out 0
 have hns11_0 := NB409_410.out
 have hms11_0 := NB410_409.out
 have hs12 : w8.cell? ⟨gb410, 1, none⟩ = some (.slice none 0 0) := (blk_cell BK410.out 1).trans rfl
 have hfs12 := blk_frozen BK410.out 1
 have hns12_0 := NB409_410.out
 have hms12_0 := NB410_409.out
 refine skip_ (w1 := ?_) (by rfl) rfl ?_ ?_
 rotate_left
 ·go_simp
  rfl
 refine hK.out _ _ ⟨((cell_far (p := ⟨gb410, _, none⟩) NB409_410.out _).trans (((cell_far (p := ⟨gb410, _, none⟩) NB409_410.out _).trans (hHeld.1)))), ((cell_far (p := ⟨gb410, _, none⟩) NB409_410.out _).trans (((cell_far (p := ⟨gb410, _, none⟩) NB409_410.out _).trans (hHeld.2))))⟩ (fun hHeld => ?_)
 clear hK K
 refine done_ (done_of HT_.out (by kernel_rfl)) ?_
 try go_wp2
 refine bodyPost_ret (results_cell_row rfl _ _ gb410 53 #[.slice Ao10 t411.length co10, .slice Ao9 t414.length co9] (0, 0) _ rfl (by (with_reducible repeat (first | refine blk_drewN ?_ _ | refine blk_drew ?_ | refine blk_alloc ?_ _)); refine blk_put (cs := #[.slice Ao10 t411.length co10, .slice none 0 0]) ?_ 1 _ rfl; (with_reducible repeat (first | refine blk_drewN ?_ _ | refine blk_drew ?_ | refine blk_alloc ?_ _)); refine blk_put (cs := #[.slice none 0 0, .slice none 0 0]) ?_ 0 _ rfl; (with_reducible repeat (first | refine blk_drewN ?_ _ | refine blk_drew ?_ | refine blk_alloc ?_ _)); exact BK410.out) Tryd.underlying53 rfl (by kernel_rfl)) rfl ?_
 exact ⟨_, _, by first | rfl | (simp [errW_none, errW_some] <;> rfl) | (simp [*, errW_none, errW_some] <;> rfl), by (with_reducible repeat (first | apply Kd.R_alloc | apply Kd.R_drewN | apply Kd.R_drew)); exact Kd.R_mono (Kd.R_far (p := ⟨gb410, 1, none⟩) (Kd.R_far (p := ⟨gb410, 0, none⟩) (Kd.R_types HO413.out BK410.out (by decide)) (fun _ hk => hk.2) (.slice Ao10 t411.length co10)) (fun _ hk => hk.2) (.slice Ao9 t414.length co9)) (fun _ hk => hk.1.2), by (with_reducible repeat (first | apply Kd.R_alloc | apply Kd.R_drewN | apply Kd.R_drew)); exact Kd.R_mono (Kd.R_far (p := ⟨gb410, 1, none⟩) (Kd.R_far (p := ⟨gb410, 0, none⟩) (Kd.R_types HO416.out BK410.out (by decide)) (fun _ hk => hk.2) (.slice Ao10 t411.length co10)) (fun _ hk => hk.2) (.slice Ao9 t414.length co9)) (fun _ hk => hk.1.2), by repeat (first | (with_reducible first | exact HB.out | apply below_alloc | apply pw_below_drewN | apply below_drew1 | refine below_set ?_ GE409.out | refine below_set ?_ GE410.out) | exact HB.out)⟩
end
end Go.Proofs.YtoffehihicabcaaDoor.X
end
section
namespace Go.Proofs.YtoffehihicabcaaDoor.X
open Go.RowKit YtoffehihicabcaaDoorW.PrintWords YtoffehihicabcaaDoorW.PrintLast YtoffehihicabcaaDoorW.PrintMore YtoffehihicabcaaDoor.T
attribute [local go_sem] max2_int min2_int max_two min_two max_three min_three max_four min_four
def rcP (G : List Nat) (K d v : Nat) (gs : List Nat) (i : Nat) : Nat := ((List.range i).map fun i => if gs.getD i 0 &&& G.getD v 0 = 0 then rc G K d (v + 1) (gs.set i (gs.getD i 0 ||| 2 ^ v)) else 0).sum
theorem rcP_succ (G : List Nat) (K d v : Nat) (gs : List Nat) (i : Nat) : rcP G K d v gs (i + 1) = rcP G K d v gs i + (if gs.getD i 0 &&& G.getD v 0 = 0 then rc G K d (v + 1) (gs.set i (gs.getD i 0 ||| 2 ^ v)) else 0) := by
 unfold rcP
 rw [List.range_succ, List.map_append, List.sum_append_nat]
 simp
theorem rc_le (G : List Nat) {K : Nat} : ∀ (d v : Nat) (gs : List Nat), gs.length ≤ K → rc G K d v gs ≤ K ^ d
 | 0, v, gs, _ => Nat.le_refl _
 | d + 1, v, gs, h => by
  rw [rc]
  have h1 : sm (List.range gs.length) (fun i => if gs.getD i 0 &&& G.getD v 0 = 0 then rc G K d (v + 1) (gs.set i (gs.getD i 0 ||| 2 ^ v)) else 0) ≤ (List.range gs.length).length * K ^ d := sm_le fun i _ => by
   by_cases hc : gs.getD i 0 &&& G.getD v 0 = 0
   ·rw [if_pos hc]
    exact rc_le G d (v + 1) _ (by rw [List.length_set]; exact h)
   ·rw [if_neg hc]; exact Nat.zero_le _
  rw [List.length_range] at h1
  have h2 : (if gs.length < K then (K - gs.length) * rc G K d (v + 1) (gs ++ [2 ^ v]) else 0) ≤ (K - gs.length) * K ^ d := by
   by_cases hc : gs.length < K
   ·rw [if_pos hc]
    exact Nat.mul_le_mul_left _ (rc_le G d (v + 1) _ (by rw [List.length_append]; simp; omega))
   ·rw [if_neg hc]; exact Nat.zero_le _
  have h3 : gs.length * K ^ d + (K - gs.length) * K ^ d = K ^ (d + 1) := by
   rw [← Nat.add_mul, show gs.length + (K - gs.length) = K by omega, Nat.pow_succ, Nat.mul_comm]
  unfold sm at h1
  omega
theorem rcP_le (G : List Nat) {K : Nat} (d v : Nat) (gs : List Nat) (h : gs.length ≤ K) (i : Nat) : rcP G K d v gs i ≤ i * K ^ d := by
 have h1 : sm (List.range i) (fun i => if gs.getD i 0 &&& G.getD v 0 = 0 then rc G K d (v + 1) (gs.set i (gs.getD i 0 ||| 2 ^ v)) else 0) ≤ (List.range i).length * K ^ d := sm_le fun i _ => by
  by_cases hc : gs.getD i 0 &&& G.getD v 0 = 0
  ·rw [if_pos hc]
   exact rc_le G d (v + 1) _ (by rw [List.length_set]; exact h)
  ·rw [if_neg hc]; exact Nat.zero_le _
 rw [List.length_range] at h1
 exact h1
theorem pow6 {K d : Nat} (hK : K ≤ 6) (hd : d ≤ 9) : K ^ d ≤ 6 ^ 9 := Nat.le_trans (Nat.pow_le_pow_left hK d) (Nat.pow_le_pow_right (by omega) hd)
theorem small60 {a b : Nat} (ha : a ≤ 6 * 6 ^ 9) (hb : b ≤ 6 ^ 9) : a + b < 2 ^ 60 := by
 have : (6 : Nat) * 6 ^ 9 + 6 ^ 9 < 2 ^ 60 := by decide
 omega
theorem add12 {a b : Nat} (ha : a ≤ 6 * 6 ^ 9) (hb : b ≤ 6 * 6 ^ 9) : a + b < 2 ^ 60 := by
 have : (6 : Nat) * 6 ^ 9 + 6 * 6 ^ 9 < 2 ^ 60 := by decide
 omega
theorem rcP6 {p i z : Nat} (h : p ≤ i * z) (hi : i ≤ 6) (hz : z ≤ 6 ^ 9) : p ≤ 6 * 6 ^ 9 := Nat.le_trans h (Nat.mul_le_mul hi hz)
theorem app_one (w : World) (A : Option Addr) (l : List Int) (hC : Kd.C (Kd.int .i64) w A l.length l) (hl : l.length ≤ 1000) (ty : TypeId) (x : Int) (bx : Nat) (hx : w.cell? ⟨bx, 0, none⟩ = some (.int .i64 x)) :
  ∃ v' w', (Builtin.append_ #[22, 22] ty #[.slice A l.length l.length, .slice (some ⟨bx, 0, none⟩) 1 1]).run Tryd.prog w = .ok v' w' ∧ w'.ownsRow w.heap.size 3 1 v' (l.length + 1) ((l ++ [x]).map (Value.int .i64)) ∧ Below w.heap.size w w' := by
 obtain ⟨i3, hi3, hq0, hq1, hq2⟩ := info_parts info3
 have hn : ∀ j u, ([Value.int .i64 x] : List Value)[j]? = some u → w.cell? ((⟨bx, 0, none⟩ : Addr).add j) = some u := fun j u hj => by
  cases j with
  | zero =>
   simp at hj
   rw [← hj]
   simpa [Addr.add] using hx
  | succ j => simp at hj
 have hmap : (l ++ [x]).map (Value.int .i64) = l.map (Value.int .i64) ++ [Value.int .i64 x] := by simp
 cases A with
 | some b =>
  have holds : ∀ j u, (l.map (Value.int .i64))[j]? = some u → w.cell? (b.add j) = some u := fun j u hj => by
   rw [List.getElem?_map] at hj
   have hjl : j < l.length := by
    apply Classical.byContradiction
    intro h
    rw [List.getElem?_eq_none (by omega)] at hj
    cases hj
   obtain ⟨ad, e1, hg⟩ := Kd.at_int hC (j : Int) (by omega) (by omega)
   obtain rfl := Option.some.inj e1
   rw [List.getElem?_eq_getElem hjl] at hj
   rw [Int.toNat_natCast] at hg
   unfold rd at hg
   rw [Int.toNat_natCast, List.getD_eq_getElem?_getD, List.getElem?_eq_getElem hjl] at hg
   rw [hg]
   exact hj
  obtain ⟨v', w', h1, h2, h3⟩ := run_append_arg_grows (P := Tryd.prog) w 22 ty 3 i3 (.int .i64 0) 1 8 Tryd.underlying22 hi3 hq0 hq1 hq2 rfl (by decide) b l.length l.length (l.map (Value.int .i64)) (by simp) holds ⟨bx, 0, none⟩ 1 1 [.int .i64 x] rfl hn (by omega) (by unfold maxLen; omega) (by omega)
  exact ⟨v', w', h1, by rw [hmap]; exact h2, ⟨h3.os, h3.tape, h3.output, h3.size, fun k hk => h3.block k hk (by simp)⟩⟩
 | none =>
  have h0 : l = [] := by
   rcases Nat.eq_zero_or_pos l.length with h0 | h0
   ·exact List.length_eq_zero_iff.mp h0
   ·obtain ⟨ad, he, _⟩ := hC.2.2 h0
    cases he
  subst h0
  obtain ⟨v', w', h1, h2, h3, _⟩ := run_append_own (P := Tryd.prog) w w.heap.size 22 ty 3 i3 (.int .i64 0) 1 8 Tryd.underlying22 hi3 hq0 hq1 hq2 rfl (by decide) (.slice none 0 0) 0 [] (World.ownsRow_nil w _ 3 1) ⟨bx, 0, none⟩ 1 1 [.int .i64 x] rfl hn (by simp [Value.oneCell']) (by unfold maxLen; omega) (by omega) (Nat.le_refl _)
  exact ⟨v', w', h1, h2, ⟨h3.os, h3.tape, h3.output, h3.size, fun k hk => h3.block k hk (by simp [Value.ownBlock])⟩⟩
theorem row_reads {W : World} {base n : Nat} {v : Value} {l : List Int} (hn : n = l.length) (h : W.ownsRow base 3 1 v n (l.map (Value.int .i64))) : ∃ A c, v = .slice A l.length c ∧ l.length ≤ c ∧ Kd.C (Kd.int .i64) W A l.length l := by
 subst hn
 obtain ⟨A, c, rfl⟩ := ownsRow_form2 h
 obtain ⟨h1, h2⟩ := C_of_row h
 exact ⟨A, c, rfl, h1, h2⟩
theorem and_zero (a b : Nat) (ha : a < 512) (hb : b < 512) : Go.bits .and .i64 (a : Int) (b : Int) = ((a &&& b : Nat) : Int) := b_and _ _ (by omega) (by omega)
theorem or_pow {a v : Nat} (ha : a < 512) (hv : v < 9) : Go.bits .or .i64 (a : Int) ((2 ^ v : Nat) : Int) = ((a ||| 2 ^ v : Nat) : Int) ∧ a ||| 2 ^ v < 512 := by
 have h2 : 2 ^ v < 2 ^ 9 := Nat.pow_lt_pow_right (by omega) hv
 generalize 2 ^ v = x at *
 exact ⟨b_or _ _ (by omega) (by omega), Nat.or_lt_two_pow (n := 9) ha h2⟩
theorem add60 {a b : Nat} (h : a + b < 2 ^ 60) : wrap64 ((a : Int) + (b : Int)) = ((a + b : Nat) : Int) := by rw [w64_small _ (by omega) (by omega)]; omega
theorem mul60 {a b : Nat} (h : a * b < 2 ^ 60) : wrap64 ((a : Int) * (b : Int)) = ((a * b : Nat) : Int) := by
 rw [show ((a : Int) * (b : Int)) = ((a * b : Nat) : Int) from by push_cast; rfl]
 exact w64_small _ (by omega) (by omega)
set_option maxHeartbeats 8000000 in
set_option maxRecDepth 100000 in
theorem refcount_calls {G : List Nat} (hG : Gr 9 G) {K : Nat} (hK : K ≤ 6) (Ag : Option Addr) (cg : Nat) (hcg : G.length ≤ cg) : ∀ (d v : Nat) (gs : List Nat) (A : Option Addr) (c : Nat) (w : World), v + d = G.length → gs.length ≤ K → (∀ x ∈ gs, x < 512) → (gi gs).length ≤ c →
  Kd.C (Kd.int .i64) w Ag (gi G).length (gi G) → Kd.C (Kd.int .i64) w A (gi gs).length (gi gs) →
  Calls Tryd.prog 86 #[.slice Ag G.length cg, .int .i64 (K : Int), .int .i64 (v : Int), .slice A (gi gs).length c] w fun e w' => e = .returned (.int .i64 (rc G K d v gs : Int)) ∧ Below w.heap.size w w' := by
 intro d
 induction d with
 | zero =>
  intro v gs A c w hv _ _ _ _ _
  have hv : v = G.length := by omega
  subst hv
  have h1 : ((G.length : Int) == (G.length : Int)) = true := by simp
  go_enter Tryd.func86, Tryd.ntmps86
  go_wp2
  go_ret
  exact ⟨rfl, Below.refl _ _⟩
 | succ d ih =>
  intro v gs A c w hv hgK hg5 hc hrg hr
  have hn := hG.most
  have hvl : v < G.length := by omega
  have hne : ((v : Int) == (G.length : Int)) = false := by simp; omega
  have hne2 : ((v : Int) = (G.length : Int)) = False := eq_false (by omega)
  have hrow : G.getD v 0 < 512 := Nat.lt_of_lt_of_le (hG.row v) (show 2 ^ G.length ≤ 2 ^ 9 from Nat.pow_le_pow_right (by omega) hn)
  obtain ⟨adg, eg, hgg⟩ := Kd.at_int hrg (v : Int) (by omega) (by rw [gi_length]; omega)
  rw [rd_gi, Int.toNat_natCast] at hgg
  subst eg
  have hp6 := pow6 (K := K) (d := d) hK (by omega)
  have HIH : Aside0 (∀ (gs' : List Nat) (A' : Option Addr) (c' : Nat) (W : World), gs'.length ≤ K → (∀ x ∈ gs', x < 512) → (gi gs').length ≤ c' → Below w.heap.size w W → Kd.C (Kd.int .i64) W A' (gi gs').length (gi gs') → Calls Tryd.prog 86 #[.slice (some adg) G.length cg, .int .i64 (K : Int), .int .i64 ((v + 1 : Nat) : Int), .slice A' (gi gs').length c'] W fun e w' => e = .returned (.int .i64 (rc G K d (v + 1) gs' : Int)) ∧ Below W.heap.size W w') := ⟨fun gs' A' c' W h1 h2 h3 h4 h5 => ih (v + 1) gs' A' c' W (by omega) h1 h2 h3 (Kd.C_below hrg h4) h5⟩
  have HGV : Aside0 (∀ W, Below w.heap.size w W → W.cell? (adg.add v) = some (.int .i64 ((G.getD v 0 : Nat) : Int))) := ⟨fun W hW => (hW.cell (World.block_lt_of_cell? w _ hgg)).trans hgg⟩
  have HPL : Aside0 (∀ i, rcP G K d v gs i ≤ i * K ^ d) := ⟨fun i => rcP_le G d v gs hgK i⟩
  have HRL : Aside0 (∀ gs', gs'.length ≤ K → rc G K d (v + 1) gs' ≤ K ^ d) := ⟨fun gs' h => rc_le G d (v + 1) gs' h⟩
  have HRS : Aside0 (∀ i, rcP G K d v gs (i + 1) = rcP G K d v gs i + (if gs.getD i 0 &&& G.getD v 0 = 0 then rc G K d (v + 1) (gs.set i (gs.getD i 0 ||| 2 ^ v)) else 0)) := ⟨fun i => rcP_succ G K d v gs i⟩
  have HRC : Aside0 (rc G K (d + 1) v gs = rcP G K d v gs gs.length + (if gs.length < K then (K - gs.length) * rc G K d (v + 1) (gs ++ [2 ^ v]) else 0)) := ⟨rfl⟩
  have hP0 : rcP G K d v gs 0 = 0 := rfl
  generalize G.getD v 0 = row at *
  have HG5 := Aside0.mk hg5
  have HR := Aside0.mk hr
  have HP6 := Aside0.mk hp6
  have HP0 := Aside0.mk hP0
  have hv9 : v < 9 := by omega
  obtain ⟨J, hJ0, hJ4⟩ := shK v (by omega)
  have HJS := Aside0.mk hJ0
  clear hJ0
  have hv1 : wrap64 ((v : Int) + 1) = ((v + 1 : Nat) : Int) := wrap_succ v (by omega)
  have HJ := Aside0.mk hJ4
  have HLG : Aside0 ((gi gs).length = gs.length) := ⟨gi_length gs⟩
  have hln : (gi gs).length ≤ 6 := by rw [gi_length]; omega
  have hKb : K ≤ 6 := hK
  clear ih hrg hr hg5 hgg hp6 hP0 hJ4 hG
  go_enter Tryd.func86, Tryd.ntmps86
  go_wp2
  go_loopg [9, 19] (gi gs).length (fun kq v9 v19 w' => ∃ i : Nat, v19 = .int .i64 (i : Int) ∧ v9 = .int .i64 ((rcP G K d v gs i : Nat) : Int) ∧ i + kq = (gi gs).length ∧ Aside0 (Below w.heap.size w w'))
  case atStart => exact ⟨0, rfl, by rw [HP0.out]; rfl, by omega, ⟨Below.refl _ _⟩⟩
  case round =>
   obtain ⟨i, rfl, rfl, hi, HB⟩ := hrel
   by_cases hil : i < (gi gs).length
   ·have hi1 : ((i : Int) < ((gi gs).length : Int)) = True := eq_true (by omega)
    have hi2 : decide ((i : Int) < ((gi gs).length : Int)) = true := decide_eq_true (by omega)
    cases gk with
    | zero => omega
    | succ gi' =>
    have hig : i < gs.length := by rw [← HLG.out]; exact hil
    obtain ⟨ad, e1, hgx⟩ := Kd.at_int (Kd.C_below HR.out HB.out) (i : Int) (by omega) (by omega)
    subst e1
    rw [rd_gi, Int.toNat_natCast] at hgx
    have hx5 : gs.getD i 0 < 512 := by
     rw [List.getD_eq_getElem?_getD, List.getElem?_eq_getElem hig]
     exact HG5.out _ (List.getElem_mem hig)
    have hgv := HGV.out wr HB.out
    have hand := and_zero _ _ hx5 hrow
    have hstep := HRS.out i
    have HPi := Aside0.mk (HPL.out i)
    have hi6 : i ≤ 5 := by omega
    by_cases hz : gs.getD i 0 &&& row = 0
    ·rw [hz] at hand
     rw [if_pos hz] at hstep
     obtain ⟨hor, hor5⟩ := or_pow (v := v) hx5 hv9
     have hor' : Go.bits .or .i64 ((gs.getD i 0 : Nat) : Int) J = ((gs.getD i 0 ||| 2 ^ v : Nat) : Int) := by rw [HJ.out]; exact hor
     have hgs5 : ∀ x ∈ gs.set i (gs.getD i 0 ||| 2 ^ v), x < 512 := fun x hx => by
      rcases List.mem_or_eq_of_mem_set hx with h | h
      ·exact HG5.out x h
      ·rw [h]; exact hor5
     obtain ⟨g2, hg2⟩ : ∃ g2, g2 = gs.set i (gs.getD i 0 ||| 2 ^ v) := ⟨_, rfl⟩
     rw [← hg2] at hgs5 hstep
     have hl2 : g2.length = gs.length := by rw [hg2, List.length_set]
     have hgi2 : (gi gs).set i ((gs.getD i 0 ||| 2 ^ v : Nat) : Int) = gi g2 := by rw [hg2, gi_set]
     have hR2 := HRL.out g2 (by omega)
     have hadd : wrap64 ((rcP G K d v gs i : Int) + (rc G K d (v + 1) g2 : Int)) = ((rcP G K d v gs (i + 1) : Nat) : Int) := by
      rw [hstep]
      exact add60 (small60 (rcP6 HPi.out (Nat.le_succ_of_le hi6) HP6.out) (Nat.le_trans hR2 HP6.out))
     have HI2 : Aside0 (∀ A' c' W, (gi g2).length ≤ c' → Below w.heap.size w W → Kd.C (Kd.int .i64) W A' (gi g2).length (gi g2) → Calls Tryd.prog 86 #[.slice (some adg) G.length cg, .int .i64 (K : Int), .int .i64 ((v + 1 : Nat) : Int), .slice A' (gi g2).length c'] W fun e w' => e = .returned (.int .i64 (rc G K d (v + 1) g2 : Int)) ∧ Below W.heap.size W w') := ⟨fun A' c' W h1 h2 h3 => HIH.out g2 A' c' W (by omega) hgs5 h1 h2 h3⟩
     have HGI2 := Aside0.mk hgi2
     have HL2 : Aside0 ((gi g2).length = (gi gs).length) := ⟨by rw [gi_length, HLG.out, hl2]⟩
     clear hz hor hor5 hgs5 hl2 hgi2 hg2 hstep hR2
     obtain ⟨x, hx⟩ : ∃ x, x = gs.getD i 0 := ⟨_, rfl⟩
     rw [← hx] at hand hgx hor' hx5 HGI2
     generalize rc G K d (v + 1) g2 = rv at *
     generalize hy : x ||| 2 ^ v = y at *
     have HXE := Aside0.mk hx
     clear hx hy
     obtain ⟨hJ1, hJ2, hJ3⟩ := HJS.out
     go_wp2_with (first | ((with_reducible refine gate_dst (N := 31) rfl ?_); refine Kd.R_lit (Kd.int .i64) _ 3 ?hg (N := 31) ?hd (xs := ([] : List Int)) (inner := []) (ok := fun _ => True) (okp := fun _ => True) ?hr ?hp (fun _ hk => hk) trivial (Below.refl _ _) (Nat.le_refl _) (by simp) ?_; (case hd => rfl); (case hg => rfl); (case hr => first | (go_simp; done) | (go_simp; rfl)); (case hp => exact (Reps.none _ _)); intro v8 w3 ho4 hb4 hg_ hnew_; have HO4 := Aside0.mk ho4; have HB4 := Aside0.mk hb4; clear hg_ hnew_ ho4 hb4) | ((with_reducible refine gate_builtin (b := .append) (xs := #[.tmp 31, .tmp 32]) rfl ?_); at_builtin; refine Kd.R_append_rows (Kd.int .i64) (w0 := wr) wr.heap.size rfl (.tmp 31) (.tmp 32) 22 3 (.int .i64 0) 8 rfl Tryd.underlying22 info3 rfl (by decide) (by omega) v8 [] (gi gs) _ _ _ (fun _ => True) (fun _ => False) rfl rfl ?aO ?aR (fun _ _ h => h) (fun _ h => h.elim) ?aF ?aB ?aS ?aL ?_; (case aR => exact Kd.C_below HR.out (below_step HB.out HB4.out)); (case aB => exact HB4.out); (case aF => exact (fun _ _ => trivial)); (case aO => exact HO4.out); (case aS => exact HB4.out.size); (case aL => simp only [List.length_nil]; omega); intro v9 w5 ho5 hb5 hg5 hat5; have HO5 := Aside0.mk ho5; have HB5 := Aside0.mk hb5; clear ho5 hb5 hg5 hat5))
     have hr5 : Kd.R (Kd.int .i64) 3 w5 wr.heap.size (fun _ => True) v9 (gi gs) := HO5.out
     clear hJ1 hJ2 hJ3
     obtain ⟨n, hn1⟩ : ∃ n, (gi gs).length = n + 1 := ⟨(gi gs).length - 1, by omega⟩
     have ho := Kd.own_of_R hr5
     rw [hn1] at ho
     obtain ⟨g, cp, e9⟩ := own_succ ho
     rw [← hn1] at e9
     subst e9
     have hcell := Kd.R_cell (0 : Int) hr5 (i : Int) (by omega) (by omega)
     rw [Int.toNat_natCast, show rdOf (0 : Int) (gi gs) (i : Int) = (x : Int) by
      show rd (gi gs) (i : Int) = (x : Int)
      rw [rd_gi, HXE.out]] at hcell
     have f0d : w5.drew.cell? ⟨g, i, none⟩ = some (.int .i64 (x : Int)) := hcell.1
     have f1d : w5.drew.frozen? ⟨g, i, none⟩ = false := hcell.2
     clear hcell ho hn1
     obtain ⟨hJ1, hJ2, hJ3⟩ := HJS.out
     refine start_ (n := 9) (S := fun w' => w'.cell? ⟨g, i, none⟩ = some (.int .i64 (x : Int)) ∧ w'.frozen? ⟨g, i, none⟩ = false) (ds := [8]) (Qbz 9 0) (by kernel_rfl) rfl rfl ⟨f0d, f1d⟩ (fun hHeld => ?_)
     refine Qpu 0 34 ?_ ?_ (Qbz 9 1) (by kernel_rfl) ?_
     refine Qpu 1 35 ?_ ?_ (Qbz 9 3) (by kernel_rfl) ?_
     refine Qpu 2 36 ?_ ?_ (Qbz 9 7) (by kernel_rfl) ?_
     refine Qpu 4 38 ?_ ?_ (Qbz 9 23) (by kernel_rfl) ?_
     refine Qpu 5 39 ?_ ?_ (Qbz 9 55) (by kernel_rfl) ?_
     refine take_ (i := 3) (N := some 37) (v := ?_) (a' := ?_) (Qbz 9 63) rfl rfl (by kernel_rfl) (fun _ _ _ h => h) (Or.inl ⟨by rfl, ?_⟩) hHeld ?_ ?_;rotate_left;(·rintro w' ⟨s0, s1⟩;go_simp;with_reducible rfl);rotate_left;(·simp only [Act.put, Qp1, Qp2, Qp3, i64_w, i32_w];rfl)
     refine Qpu 6 40 ?_ ?_ (Qbz 9 127) (by kernel_rfl) ?_
     refine Qpu 7 41 ?_ ?_ (Qbz 9 255) (by kernel_rfl) ?_
     refine last_ (i := 8) (N := none) (Qbz 9 511) rfl rfl (by kernel_rfl) (by decide) (fun K hK => ?_)
     refine skip_ (w1 := ?_) (by rfl) rfl ?_ ?_
     rotate_left
     ·go_simp
      rfl
     refine hK.out _ _ ?_
     clear hK K
     refine done_ (by kernel_rfl) ?_
     have hR6 := Kd.R_putn hr5 (i : Int) ((y : Nat) : Int)
     rw [Int.toNat_natCast] at hR6
     have hgs := HGI2.out
     rw [hgs] at hR6
     have HR6 : Aside0 (Kd.R (Kd.int .i64) 3 ((w5.setCell ⟨g, i, none⟩ (.int .i64 (y : Int))).drew) wr.heap.size (fun _ => True) (.slice (some ⟨g, 0, none⟩) (gi gs).length cp) (gi g2)) := ⟨hR6⟩
     clear hJ1 hJ2 hJ3
     have hge := own_base2 (Kd.own_of_R hr5) g (by simp [Value.ownBlock])
     have HB6 : Aside0 (Below wr.heap.size wr (w5.setCell ⟨g, i, none⟩ (.int .i64 (y : Int))).drew) := ⟨below_drew (below_set HB5.out hge)⟩
     generalize (w5.setCell ⟨g, i, none⟩ (.int .i64 (y : Int))).drew = w6 at *
     have HC6 : Aside0 (Calls Tryd.prog 86 #[.slice (some adg) G.length cg, .int .i64 (K : Int), .int .i64 ((v + 1 : Nat) : Int), .slice (some ⟨g, 0, none⟩) (gi gs).length cp] w6 fun e w' => e = .returned (.int .i64 (rv : Int)) ∧ Below w6.heap.size w6 w') := ⟨by
      rw [← HL2.out]
      have hr := HR6.out
      rw [← HL2.out] at hr
      obtain ⟨A7, c7, e7, h7, h8⟩ := Kd.R_reads hr
      injection e7 with e71 e72 e73
      rw [e71, e73]
      exact HI2.out A7 c7 w6 h7 (below_step HB.out HB6.out) h8⟩
     have HAD := Aside0.mk hadd
     clear hr5 hR6 hge HR6 hgs f0d f1d hHeld
     go_wp2_with (go_at_call 86; refine HC6.out.mono ?_; rintro e w7 ⟨rfl, hb7⟩; have HB7 := Aside0.mk hb7; clear hb7)
     go_roundg gi'
     case measure => omega
     case rel => exact ⟨i + 1, by first | go_num | rw [wrap_succ i (by omega)], by rw [HAD.out], by omega, ⟨below_step (below_step HB.out HB6.out) HB7.out⟩⟩
    ·rw [if_neg hz, Nat.add_zero] at hstep
     have hz1 : (((gs.getD i 0 &&& row : Nat) : Int) == 0) = false := beq_eq_false_iff_ne.2 (by omega)
     have hz2 : (((gs.getD i 0 &&& row : Nat) : Int) = 0) = False := eq_false (by omega)
     obtain ⟨x, hx⟩ : ∃ x, x = gs.getD i 0 := ⟨_, rfl⟩
     rw [← hx] at hand hgx hz1 hz2
     have HST := Aside0.mk hstep
     generalize x &&& row = an at *
     clear hz hstep hx hx5
     go_wp2
     go_roundg gi'
     case measure => omega
     case rel => exact ⟨i + 1, by first | go_num | rw [wrap_succ i (by omega)], by rw [HST.out]; rfl, by omega, HB⟩
   ·have hie : i = (gi gs).length := by omega
    have hi1 : ((i : Int) < ((gi gs).length : Int)) = False := eq_false (by omega)
    have hi2 : decide ((i : Int) < ((gi gs).length : Int)) = false := decide_eq_false (by omega)
    have hrc := HRC.out
    rw [← HLG.out] at hrc
    have HPN := Aside0.mk (HPL.out (gi gs).length)
    subst hie
    by_cases hlK : (gi gs).length < K
    ·have hk1 : (((gi gs).length : Int) < (K : Int)) = True := eq_true (by omega)
     have hk2 : decide (((gi gs).length : Int) < (K : Int)) = true := decide_eq_true (by omega)
     rw [if_pos hlK] at hrc
     have hl2 : (gs ++ [2 ^ v]).length = (gi gs).length + 1 := by rw [List.length_append, HLG.out]; rfl
     have hgi2 : gi (gs ++ [2 ^ v]) = gi gs ++ [((2 ^ v : Nat) : Int)] := by simp [gi]
     have h29 : 2 ^ v < 512 := Nat.lt_of_lt_of_le (Nat.pow_lt_pow_right (by omega) hv9) (by decide : (2 : Nat) ^ 9 ≤ 512)
     have hgs5 : ∀ x ∈ gs ++ [2 ^ v], x < 512 := fun x hx => by
      rcases List.mem_append.1 hx with h | h
      ·exact HG5.out x h
      ·rw [List.mem_singleton.1 h]; exact h29
     have hR2 := HRL.out (gs ++ [2 ^ v]) (by omega)
     have HI2 : Aside0 (∀ A' c' W, (gi (gs ++ [2 ^ v])).length ≤ c' → Below w.heap.size w W → Kd.C (Kd.int .i64) W A' (gi (gs ++ [2 ^ v])).length (gi (gs ++ [2 ^ v])) → Calls Tryd.prog 86 #[.slice (some adg) G.length cg, .int .i64 (K : Int), .int .i64 ((v + 1 : Nat) : Int), .slice A' (gi (gs ++ [2 ^ v])).length c'] W fun e w' => e = .returned (.int .i64 (rc G K d (v + 1) (gs ++ [2 ^ v]) : Int)) ∧ Below W.heap.size W w') := ⟨fun A' c' W h1 h2 h3 => HIH.out _ A' c' W (by omega) hgs5 h1 h2 h3⟩
     have hsub : wrap64 ((K : Int) - ((gi gs).length : Int)) = ((K - (gi gs).length : Nat) : Int) := by rw [w64_small _ (by omega) (by omega)]; omega
     have hmle : (K - (gi gs).length) * rc G K d (v + 1) (gs ++ [2 ^ v]) ≤ 6 * 6 ^ 9 := Nat.mul_le_mul (by omega) (Nat.le_trans hR2 HP6.out)
     obtain ⟨g2, hg2⟩ : ∃ g2, g2 = gs ++ [2 ^ v] := ⟨_, rfl⟩
     rw [← hg2] at HI2 hmle hrc hgi2 hl2
     have HL2 : Aside0 ((gi g2).length = (gi gs).length + 1) := ⟨by rw [gi_length, hl2]⟩
     have HGI2 := Aside0.mk hgi2
     have HRCE := Aside0.mk hrc
     clear hg2 hgs5 h29 hR2 hgi2 hl2 hrc hlK
     generalize rc G K d (v + 1) g2 = rv at *
     obtain ⟨kl, hkl⟩ : ∃ kl, kl = K - (gi gs).length := ⟨_, rfl⟩
     rw [← hkl] at hsub hmle HRCE
     have hmul := mul60 (a := kl) (b := rv) (Nat.lt_of_le_of_lt hmle (by decide))
     have hpn : rcP G K d v gs (gi gs).length ≤ 6 * 6 ^ 9 := rcP6 HPN.out hln HP6.out
     have hadd : wrap64 ((rcP G K d v gs (gi gs).length : Int) + ((kl * rv : Nat) : Int)) = ((rc G K (d + 1) v gs : Nat) : Int) := by
      rw [HRCE.out]
      exact add60 (add12 hpn hmle)
     clear hmle hpn hkl
     generalize kl * rv = mv at *
     have HAD := Aside0.mk hadd
     obtain ⟨hJ1, hJ2, hJ3⟩ := HJS.out
     have f0d : Below wr.heap.size wr wr.drew := below_drew (Below.refl _ _)
     have HJE := Aside0.mk HJ.out
     have hI3 := HI2.out
     rw [← hv1] at hI3
     have HI2 := Aside0.mk hI3
     clear hI3
     obtain ⟨kc, rfl⟩ : ∃ kc, kc = K := ⟨_, rfl⟩
     go_wp2
     refine start_ (n := 23) (S := fun w' => Below wr.heap.size wr w') (ds := [18, 19]) (Qbz 23 0) (by kernel_rfl) rfl rfl (f0d) (fun hHeld => ?_)
     refine Qpu 0 55 ?_ ?_ (Qbz 23 1) (by kernel_rfl) ?_
     refine Qpu 1 56 ?_ ?_ (Qbz 23 3) (by kernel_rfl) ?_
     refine Qpu 2 57 ?_ ?_ (Qbz 23 7) (by kernel_rfl) ?_
     refine Qpu 3 58 ?_ ?_ (Qbz 23 15) (by kernel_rfl) ?_
     refine Qpu 4 59 ?_ ?_ (Qbz 23 31) (by kernel_rfl) ?_
     refine Qpu 5 60 ?_ ?_ (Qbz 23 63) (by kernel_rfl) ?_
     refine Qpu 6 61 ?_ ?_ (Qbz 23 127) (by kernel_rfl) ?_
     refine Qpu 7 62 ?_ ?_ (Qbz 23 255) (by kernel_rfl) ?_
     refine Qpu 8 63 ?_ ?_ (Qbz 23 511) (by kernel_rfl) ?_
     refine Qpu 9 64 ?_ ?_ (Qbz 23 1023) (by kernel_rfl) ?_
     refine Qpu 10 65 ?_ ?_ (Qbz 23 2047) (by kernel_rfl) ?_
     refine Qpu 11 66 ?_ ?_ (Qbz 23 4095) (by kernel_rfl) ?_
     refine Qpu 12 67 ?_ ?_ (Qbz 23 8191) (by kernel_rfl) ?_
     refine Qpu 13 68 ?_ ?_ (Qbz 23 16383) (by kernel_rfl) ?_
     refine Qpu 14 69 ?_ ?_ (Qbz 23 32767) (by kernel_rfl) ?_
     refine Qpu 15 70 ?_ ?_ (Qbz 23 65535) (by kernel_rfl) ?_
     refine Qpu 16 71 ?_ ?_ (Qbz 23 131071) (by kernel_rfl) ?_
     refine one_ (i := 17) (N := some 72) (Qbz 23 262143) rfl rfl (by kernel_rfl) (by decide) (fun K hK => ?_)
     refine value_ (w1 := ?_) (v := ?_) (by rfl) rfl ?_ ?_
     rotate_left 2
     ·go_simp
      constructor
      ·rfl
      ·rfl
     refine hK.out _ _ (below_alloc hHeld _) (fun hHeld => ?_)
     clear hK K
     refine norm_ (a' := ?_) ?_ ?_
     rotate_left
     ·show Act.put _ (some 72) _ = _
      simp only [Act.put, Qp1, Qp2, Qp3, i64_w, i32_w]
      rfl
     refine last_ (i := 18) (N := some 73) (Qbz 23 524287) rfl rfl (by kernel_rfl) (by decide) (fun K hK => ?_)
     have hx8 : (wr.alloc (Obj.cells #[Value.int IntKind.i64 J] 3)).drew.cell? ⟨wr.heap.size, 0, none⟩ = some (.int .i64 J) := (blk_cell (show (wr.heap.push _)[wr.heap.size]? = _ from Array.getElem?_push_size) 0).trans rfl
     obtain ⟨v8, w8, hrun8, ho8, hb8⟩ := app_one _ A (gi gs) (Kd.C_below HR.out (below_step HB.out hHeld)) (by omega) 22 J _ hx8
     rw [show gi gs ++ [J] = gi g2 from by rw [HJE.out, HGI2.out]] at ho8
     obtain ⟨A9, c9, rfl, h9, hC9⟩ := row_reads HL2.out.symm ho8
     refine value_ (w1 := w8) (v := .slice A9 (gi g2).length c9) (by rfl) rfl ?_ ?_
     ·simp [execOp, resolve, invoke, builtin, Act.eval, hrun8, Result.andThen]
     refine hK.out _ _ ?_
     clear hK K
     refine norm_ (a' := ?_) ?_ ?_
     rotate_left
     ·show Act.put _ (some 73) _ = _
      simp only [Act.put, Qp1, Qp2, Qp3, i64_w, i32_w]
      rfl
     refine last_ (i := 19) (N := some 74) (Qbz 23 1048575) rfl rfl (by kernel_rfl) (by decide) (fun K hK => ?_)
     refine goes_ Tryd.func86 (by kernel_rfl) rfl #[.slice (some adg) G.length cg, .int .i64 (kc : Int), .int .i64 (wrap64 ((v : Int) + 1)), .slice A9 (gi g2).length c9] (by rfl) rfl rfl (by simp only [List.map_toArray, List.map_cons, List.map_nil]; rfl) ?_
     with_reducible refine (HI2.out A9 c9 w8 h9 (below_step HB.out (below_step hHeld hb8)) hC9).mono ?_
     rintro e w10 ⟨rfl, hb10⟩
     have HB10 := Aside0.mk (below_step (below_step hHeld hb8) hb10)
     clear hb10
     refine ⟨_, rfl, ?_⟩
     refine hK.out _ _ ?_
     clear hK K
     refine norm_ (a' := ?_) ?_ ?_
     rotate_left
     ·show Act.put _ (some 74) _ = _
      simp only [Act.put, Qp1, Qp2, Qp3, i64_w, i32_w]
      rfl
     refine Qpu 20 75 ?_ ?_ (Qbz 23 2097151) (by kernel_rfl) ?_
     refine Qpu 21 76 ?_ ?_ (Qbz 23 4194303) (by kernel_rfl) ?_
     refine Qpu 22 9 ?_ ?_ (Qbz 23 8388607) (by kernel_rfl) ?_
     refine done_ (by kernel_rfl) ?_
     go_wp2
     go_ret
     exact ⟨by rw [← HAD.out]; rfl, below_step HB.out HB10.out⟩
    ·have hk1 : (((gi gs).length : Int) < (K : Int)) = False := eq_false (by omega)
     have hk2 : decide (((gi gs).length : Int) < (K : Int)) = false := decide_eq_false (by omega)
     rw [if_neg hlK, Nat.add_zero] at hrc
     have HRE := Aside0.mk hrc
     clear hlK hrc
     go_wp2
     go_ret
     exact ⟨by rw [HRE.out]; rfl, HB.out⟩
theorem gi_toNatR (G : List Nat) : (gi G).map Int.toNat = G := by
 unfold gi
 rw [List.map_map]
 exact (List.map_congr_left (fun x _ => Int.toNat_natCast x)).trans (List.map_id _)
def lampblackref02_Count.f (g : List Int) (K : Int) : Option Int := if chk 9 g = true ∧ 0 ≤ K ∧ K ≤ 6 then some ((rc (g.map Int.toNat) K.toNat g.length 0 [] : Nat) : Int) else none
theorem lampblackref02_Count.calls (Ag : Option Addr) (cg : Nat) (g : List Int) (K : Int) (r : Int) (w : World) (hrg : Kd.C (Kd.int .i64) w Ag g.length g) (hcg : g.length ≤ cg) (h : lampblackref02_Count.f g K = some r) :
  Calls Tryd.prog 57 #[.slice Ag g.length cg, .int .i64 K] w fun e w' => e = .returned (.int .i64 r) ∧ Below w.heap.size w w' := by
 unfold lampblackref02_Count.f at h
 by_cases hc : chk 9 g = true ∧ 0 ≤ K ∧ K ≤ 6
 ·rw [if_pos hc] at h
  obtain ⟨G, rfl, hG⟩ := (chk_iff 9 (by omega) _).1 hc.1
  have h := Option.some.inj h
  rw [gi_toNatR] at h
  obtain ⟨k, rfl⟩ : ∃ k : Nat, K = (k : Int) := ⟨K.toNat, by omega⟩
  rw [Int.toNat_natCast] at h
  have hgl := gi_length G
  have HC : Aside0 (Calls Tryd.prog 86 #[.slice Ag G.length cg, .int .i64 (k : Int), .int .i64 0, .slice none 0 0] w fun e w' => e = .returned (.int .i64 r) ∧ Below w.heap.size w w') := ⟨by
   have := refcount_calls hG (K := k) (by omega) Ag cg (by rw [← hgl]; exact hcg) G.length 0 [] none 0 w (by omega) (by simp) (fun x hx => absurd hx (by simp)) (by simp [gi]) hrg (Kd.C_nil _ _)
   rw [hgl] at h
   rw [← h]
   exact this⟩
  rw [hgl]
  clear h hrg hcg hc hG hgl
  generalize G.length = n at *
  go_enter Tryd.func57, Tryd.ntmps57
  go_wp2_with (go_at_call 86; refine HC.out.mono ?_; rintro e w1 ⟨rfl, hb1⟩)
  go_ret
  exact ⟨rfl, hb1⟩
 ·rw [if_neg hc] at h
  cases h
end Go.Proofs.YtoffehihicabcaaDoor.X
end
section
namespace Go.Proofs.YtoffehihicabcaaDoor.X
open Go.RowKit YtoffehihicabcaaDoorW.PrintWords YtoffehihicabcaaDoorW.PrintLast YtoffehihicabcaaDoorW.PrintMore
attribute [local go_sem] max2_int min2_int max_two min_two max_three min_three max_four min_four
noncomputable section
def lampblacklaw02_WidthCounts.j0 : Nat → List Int → Int → Int → Int → Bool → Option (Bool)
 | 0, _, _, _, _, _ => none
 | k + 1, x0, x2, x7, x8, x29 => if x29 = true then (if x7 = 0 then (if x8 = 2 then ((lampblacklaw02_awake.f k).bind fun t712 => (some t712)) else (some false)) else (some false)) else ((lampblackref02_Count.f x0 x2).bind fun t713 => (if x7 = t713 then (if x8 = 0 then ((lampblacklaw02_awake.f k).bind fun t714 => (some t714)) else (some false)) else (some false)))
def lampblacklaw02_WidthCounts.f (k : Nat) (l0 : List Int) (l1_0 : List Int) (l1_1 : List Int) (a2 : Int) : Option (Bool) := (lampblacklaw02_Few.f l0).bind fun t700 => ((lampblacklaw02_Of.f l1_0 l1_1).bind fun bt703 => ((width_Count.f t700 bt703.1 bt703.2 a2).bind fun bt709 => ((lampblacklaw02_fine.f k l0 l1_0 l1_1).bind fun t711 => (if t711 = true then (if a2 < 0 then (lampblacklaw02_WidthCounts.j0 k l0 a2 bt709.1 bt709.2 true) else (lampblacklaw02_WidthCounts.j0 k l0 a2 bt709.1 bt709.2 (decide (a2 > 6)))) else (lampblacklaw02_WidthCounts.j0 k l0 a2 bt709.1 bt709.2 true)))))
def lampblacklaw02_WidthCounts.T1 : Bool × List (List Nat × List Nat) := (true, [([], []), ([0], [0]), ([], []), ([2, 1], [2]), ([], []), ([1, 3, 4, 3], [1, 3, 4]), ([5], [5]), ([6], [6]), ([6], [6]), ([7, 5, 0, 1, 2, 3, 4, 5, 6, 7], [7]), ([8, 9, 0, 1, 2, 3, 4, 5, 6, 7, 8, 9], [8])])
def lampblacklaw02_WidthCounts.B1 : List Nat := [0, 1, 0, 7, 0, 31, 63, 127, 127, 255, 1023]
theorem lampblacklaw02_WidthCounts.tab1 : rtab .any (opsOf Tryd.f14 1) = lampblacklaw02_WidthCounts.T1 := by kernel_rfl
theorem lampblacklaw02_WidthCounts.bits1 : waitsOk lampblacklaw02_WidthCounts.T1.2 lampblacklaw02_WidthCounts.B1 = true := by kernel_rfl
set_option maxHeartbeats 8000000 in
set_option maxRecDepth 100000 in
theorem lampblacklaw02_WidthCounts.calls (k : Nat) (A0 : Option Addr) (c0 : Nat) (l0 : List Int) (A1_0 : Option Addr) (c1_0 : Nat) (l1_0 : List Int) (A1_1 : Option Addr) (c1_1 : Nat) (l1_1 : List Int) (a2 : Int) (r : Bool) (w : World) (hGL : GL w) (hr0 : Kd.C (Kd.int .i64) w A0 l0.length l0) (hc0 : l0.length ≤ c0) (hr1_0 : Kd.C (Kd.int .i64) w A1_0 l1_0.length l1_0) (hc1_0 : l1_0.length ≤ c1_0) (hr1_1 : Kd.C (Kd.int .i64) w A1_1 l1_1.length l1_1) (hc1_1 : l1_1.length ≤ c1_1) (h : lampblacklaw02_WidthCounts.f k l0 l1_0 l1_1 a2 = some r) (hrt : r = true) :
  Calls Tryd.prog 14 #[.slice A0 l0.length c0, .agg #[.slice A1_0 l1_0.length c1_0, .slice A1_1 l1_1.length c1_1], .int .i64 a2] w fun e w' => e = .returned (.bool r) ∧ Below w.heap.size w w' := by
 have HRT := Aside0.mk hrt
 clear hrt
 have HGL := Aside0.mk hGL
 clear hGL
 have hu52 := Tryd.underlying52
 have HR0 := Aside0.mk hr0
 have HC0 := Aside0.mk hc0
 clear hr0 hc0
 have HR1_0 := Aside0.mk hr1_0
 have HC1_0 := Aside0.mk hc1_0
 clear hr1_0 hc1_0
 have HR1_1 := Aside0.mk hr1_1
 have HC1_1 := Aside0.mk hc1_1
 clear hr1_1 hc1_1
 have HB := Aside0.mk (Below.refl w.heap.size w)
 have H : ((lampblacklaw02_Few.f l0).bind fun t700 => ((lampblacklaw02_Of.f l1_0 l1_1).bind fun bt703 => ((width_Count.f t700 bt703.1 bt703.2 a2).bind fun bt709 => ((lampblacklaw02_fine.f k l0 l1_0 l1_1).bind fun t711 => (if t711 = true then (if a2 < 0 then (lampblacklaw02_WidthCounts.j0 k l0 a2 bt709.1 bt709.2 true) else (lampblacklaw02_WidthCounts.j0 k l0 a2 bt709.1 bt709.2 (decide (a2 > 6)))) else (lampblacklaw02_WidthCounts.j0 k l0 a2 bt709.1 bt709.2 true)))))) = some r := h
 clear h
 replace H := Option.bind_eq_some_iff.mp H
 obtain ⟨t700, A40, H⟩ := H
 replace H : ((lampblacklaw02_Of.f l1_0 l1_1).bind fun bt703 => ((width_Count.f t700 bt703.1 bt703.2 a2).bind fun bt709 => ((lampblacklaw02_fine.f k l0 l1_0 l1_1).bind fun t711 => (if t711 = true then (if a2 < 0 then (lampblacklaw02_WidthCounts.j0 k l0 a2 bt709.1 bt709.2 true) else (lampblacklaw02_WidthCounts.j0 k l0 a2 bt709.1 bt709.2 (decide (a2 > 6)))) else (lampblacklaw02_WidthCounts.j0 k l0 a2 bt709.1 bt709.2 true))))) = some r := H
 have A4 := Aside0.mk A40
 clear A40
 replace H := Option.bind_eq_some_iff.mp H
 obtain ⟨⟨t703, t706⟩, A50, H⟩ := H
 replace H : ((width_Count.f t700 t703 t706 a2).bind fun bt709 => ((lampblacklaw02_fine.f k l0 l1_0 l1_1).bind fun t711 => (if t711 = true then (if a2 < 0 then (lampblacklaw02_WidthCounts.j0 k l0 a2 bt709.1 bt709.2 true) else (lampblacklaw02_WidthCounts.j0 k l0 a2 bt709.1 bt709.2 (decide (a2 > 6)))) else (lampblacklaw02_WidthCounts.j0 k l0 a2 bt709.1 bt709.2 true)))) = some r := H
 have A5 := Aside0.mk A50
 clear A50
 replace H := Option.bind_eq_some_iff.mp H
 obtain ⟨⟨t709, t710⟩, A60, H⟩ := H
 replace H : ((lampblacklaw02_fine.f k l0 l1_0 l1_1).bind fun t711 => (if t711 = true then (if a2 < 0 then (lampblacklaw02_WidthCounts.j0 k l0 a2 t709 t710 true) else (lampblacklaw02_WidthCounts.j0 k l0 a2 t709 t710 (decide (a2 > 6)))) else (lampblacklaw02_WidthCounts.j0 k l0 a2 t709 t710 true))) = some r := H
 have A6 := Aside0.mk A60
 clear A60
 have HC7 := Aside0.mk H
 clear H
 go_enter Tryd.func14, Tryd.ntmps14
 try go_wp2_with (first | ((with_reducible refine gate_dst (N := 4) rfl ?_); refine box_event ?hg (N := 4) ?hd (cs := #[.slice A1_0 l1_0.length c1_0, .slice A1_1 l1_1.length c1_1]) (t := 52) ?hr ?_; (case hd => rfl); (case hg => rfl); (case hr => first | (go_simp; done) | (go_simp; rfl)); intro gb699 hg w8 hbox hb; have n0_ := Aside0.mk (below_step (Qaw) hb); have n1_ := Aside0.mk (hbox); have n2_ := Aside0.mk ((by rw [hg]; exact (below_size (Qaw)) : w.heap.size ≤ gb699)); have n3_ := Aside0.mk ((by rw [hg]; exact (below_size (Qaw)) : w.heap.size ≤ gb699)); clear HB; have HB := n0_; have BK699 := n1_; have GW699 := n2_; have GE699 := n3_; clear n0_ n1_ n2_ n3_; clear hb hbox hg))
 have n0_ := Aside0.mk (blk_drew BK699.out)
 have n1_ := Aside0.mk (below_drew1 HB.out)
 clear BK699
 clear HB
 have BK699 := n0_
 have HB := n1_
 clear n0_ n1_
 refine start_ (n := 11) (S := fun w' => w'.cell? ⟨gb699, 0, none⟩ = some (.slice A1_0 l1_0.length c1_0) ∧ w'.cell? ⟨gb699, 1, none⟩ = some (.slice A1_1 l1_1.length c1_1)) (ds := []) (Qbz 11 0) (by kernel_rfl) rfl rfl ⟨(blk_cell BK699.out 0).trans rfl, (blk_cell BK699.out 1).trans rfl⟩ (fun hHeld => ?_); refine with_tabW lampblacklaw02_WidthCounts.tab1 lampblacklaw02_WidthCounts.bits1 (fun HT_ HW_ => ?_)
 generalize w8.drew = w9 at BK699 HB hHeld ⊢
 refine Qpu 0 10 ?_ ?_ (Qbz 11 1) (Qao) ?_
 refine Qpu 4 14 ?_ ?_ (Qbz 11 17) (Qao) ?_
 refine take_ (i := 2) (N := some 12) (v := ?_) (a' := ?_) (Qbz 11 21) rfl rfl (take_ofW HT_.out HW_.out (by kernel_rfl)) (fun _ _ _ h => h) (Or.inl ⟨by rfl, ?_⟩) hHeld ?_ ?_;rotate_left;(·rintro w' ⟨s0, s1⟩;go_simp;with_reducible rfl);rotate_left;(·simp only [Act.put, Qp1, Qp2, Qp3, i64_w, i32_w];rfl)
 refine one_ (i := 1) (N := some 11) (Qbz 11 23) rfl rfl (one_of HT_.out (by kernel_rfl)) (by decide) (fun K hK => ?_)
 refine goes_ Tryd.func19 (by kernel_rfl) rfl #[.slice A0 l0.length c0] (by rfl) rfl rfl (Qls) ?_
 with_reducible refine (lampblacklaw02_Few.calls _ _ l0 t700 _ ?side1 ?side2 A4.out).mono ?_
 (case side1 => exact Qsc (Kd.C_below HR0.out HB.out))
 (case side2 => exact HC0.out)
 rintro e w10 ⟨v701, rfl, ho0, hb⟩
 refine ⟨_, rfl, ?_⟩
 have n0_ := Aside0.mk (Kd.R_lower ho0 (below_size (Qag GE699.out)))
 have n1_ := Aside0.mk (blk_below (g := gb699) (o := .cells #[.slice A1_0 l1_0.length c1_0, .slice A1_1 l1_1.length c1_1] 52 (0, 0)) (Qbl BK699.out) hb)
 have n2_ := Aside0.mk (below_step (Qag GE699.out) hb)
 clear BK699
 clear HB
 have HO702 := n0_
 have BK699 := n1_
 have HB := n2_
 clear n0_ n1_ n2_
 (try clear hb)
 (try clear hb2)
 (try clear hk)
 (try clear hi)
 (try clear ho0)
 refine hK.out _ _ ⟨(blk_cell BK699.out 0).trans rfl, (blk_cell BK699.out 1).trans rfl⟩ (fun hHeld => ?_)
 clear hK K
 refine norm_ (a' := ?_) ?_ ?_
 rotate_left
 ·show Act.put _ (some 11) _ = _
  simp only [Act.put, Qp1, Qp2, Qp3, i64_w, i32_w]
  rfl
 refine one_ (i := 3) (N := some 13) (Qbz 11 31) rfl rfl (one_of HT_.out (by kernel_rfl)) (by decide) (fun K hK => ?_)
 refine goes_ Tryd.func44 (by kernel_rfl) rfl #[.agg #[.slice A1_0 l1_0.length c1_0, .slice A1_1 l1_1.length c1_1]] (by rfl) rfl rfl (Qls) ?_
 with_reducible refine (lampblacklaw02_Of.calls _ _ l1_0 _ _ l1_1 t703 t706 _ ?side1 ?side2 ?side3 ?side4 A5.out).mono ?_
 (case side1 => exact Qsc (Kd.C_below HR1_0.out HB.out))
 (case side2 => exact HC1_0.out)
 (case side3 => exact Qsc (Kd.C_below HR1_1.out HB.out))
 (case side4 => exact HC1_1.out)
 rintro e w11 ⟨v704, v707, rfl, ho0, ho1, hb⟩
 refine ⟨_, rfl, ?_⟩
 have n0_ := Aside0.mk (Kd.R_mono (Kd.R_told (Kd.R_told (Kd.R_old (Qro HO702.out) hb) (Kd.R_base ho0)) (Kd.R_base ho1)) (fun _ h_ => h_.1))
 have n1_ := Aside0.mk (Kd.R_lower (Kd.R_new' ho0 (Kd.R_lt (Qro HO702.out))) (below_size (Qag GE699.out)))
 have n2_ := Aside0.mk (Kd.R_lower (Kd.R_new' ho1 (Kd.R_lt (Qro HO702.out))) (below_size (Qag GE699.out)))
 have n3_ := Aside0.mk (blk_below (g := gb699) (o := .cells #[.slice A1_0 l1_0.length c1_0, .slice A1_1 l1_1.length c1_1] 52 (0, 0)) (Qbl BK699.out) hb)
 have n4_ := Aside0.mk (below_step (Qag GE699.out) hb)
 clear HO702
 clear BK699
 clear HB
 have HO702 := n0_
 have HO705 := n1_
 have HO708 := n2_
 have BK699 := n3_
 have HB := n4_
 clear n0_ n1_ n2_ n3_ n4_
 (try clear hb)
 (try clear hb2)
 (try clear hk)
 (try clear hi)
 (try clear ho0)
 (try clear ho1)
 obtain ⟨Ao12, co12, eo12⟩ := Kd.R_slice HO702.out
 (first | subst eo12 | (injection eo12 with f1_ f2_ f3_; have f4_ := f1_.symm; have f5_ := f3_.symm; clear f1_ f2_ f3_; subst f4_; subst f5_))
 obtain ⟨Ao13, co13, eo13⟩ := Kd.R_slice HO705.out
 (first | subst eo13 | (injection eo13 with f1_ f2_ f3_; have f4_ := f1_.symm; have f5_ := f3_.symm; clear f1_ f2_ f3_; subst f4_; subst f5_))
 obtain ⟨Ao14, co14, eo14⟩ := Kd.R_slice HO708.out
 (first | subst eo14 | (injection eo14 with f1_ f2_ f3_; have f4_ := f1_.symm; have f5_ := f3_.symm; clear f1_ f2_ f3_; subst f4_; subst f5_))
 refine hK.out _ _ ⟨(blk_cell BK699.out 0).trans rfl, (blk_cell BK699.out 1).trans rfl⟩ (fun hHeld => ?_)
 clear hK K
 refine norm_ (a' := ?_) ?_ ?_
 rotate_left
 ·show Act.put _ (some 13) _ = _
  simp only [Act.put, Qp1, Qp2, Qp3, i64_w, i32_w]
  rfl
 refine one_ (i := 5) (N := some 15) (Qbz 11 63) rfl rfl (one_of HT_.out (by kernel_rfl)) (by decide) (fun K hK => ?_)
 refine goes_ Tryd.func56 (by kernel_rfl) rfl #[.slice Ao12 t700.length co12, .agg #[.slice Ao13 t703.length co13, .slice Ao14 t706.length co14], .int .i64 a2] (by rfl) rfl rfl (Qls) ?_
 with_reducible refine (width_Count.calls (hGL := (Qlg)) _ _ t700 _ _ t703 _ _ t706 a2 t709 t710 _ ?side1 ?side2 ?side3 ?side4 ?side5 ?side6 A6.out).mono ?_
 (case side1 => exact Qsc (Kd.R_reads' HO702.out).2.2)
 (case side2 => exact (Kd.R_reads' HO702.out).2.1)
 (case side3 => exact Qsc (Kd.R_reads' HO705.out).2.2)
 (case side4 => exact (Kd.R_reads' HO705.out).2.1)
 (case side5 => exact Qsc (Kd.R_reads' HO708.out).2.2)
 (case side6 => exact (Kd.R_reads' HO708.out).2.1)
 rintro e w15 ⟨rfl, hb⟩
 refine ⟨_, rfl, ?_⟩
 have n0_ := Aside0.mk (Kd.R_below (Qro HO702.out) hb)
 have n1_ := Aside0.mk (Kd.R_below (Qro HO705.out) hb)
 have n2_ := Aside0.mk (Kd.R_below (Qro HO708.out) hb)
 have n3_ := Aside0.mk (blk_below (g := gb699) (o := .cells #[.slice A1_0 l1_0.length c1_0, .slice A1_1 l1_1.length c1_1] 52 (0, 0)) (Qbl BK699.out) hb)
 have n4_ := Aside0.mk (below_step (Qag GE699.out) hb)
 clear HO702
 clear HO705
 clear HO708
 clear BK699
 clear HB
 have HO702 := n0_
 have HO705 := n1_
 have HO708 := n2_
 have BK699 := n3_
 have HB := n4_
 clear n0_ n1_ n2_ n3_ n4_
 (try clear hb)
 (try clear hb2)
 (try clear hk)
 (try clear hi)
 refine hK.out _ _ ⟨(blk_cell BK699.out 0).trans rfl, (blk_cell BK699.out 1).trans rfl⟩ (fun hHeld => ?_)
 clear hK K
 refine norm_ (a' := ?_) ?_ ?_
 rotate_left
 ·show Act.put _ (some 15) _ = _
  simp only [Act.put, Qp1, Qp2, Qp3, i64_w, i32_w]
  rfl
 refine Qpu 6 9 ?_ ?_ (Qbz 11 127) (Qao) ?_
 refine Qpu 7 16 ?_ ?_ (Qbz 11 255) (Qao) ?_
 refine Qpu 8 17 ?_ ?_ (Qbz 11 511) (Qao) ?_
 refine Qpu 9 7 ?_ ?_ (Qbz 11 1023) (Qao) ?_
 refine Qpu 10 8 ?_ ?_ (Qbz 11 2047) (Qao) ?_
 refine done_ (done_of HT_.out (by kernel_rfl)) ?_
 go_upto_region 2 with (fail)
 go_cut [29] (fun v29 wc => ∃ (kq : Nat) (x29_6 : Bool), v29 = .bool x29_6 ∧ Aside0 (lampblacklaw02_WidthCounts.j0 kq l0 a2 t709 t710 x29_6 = some r) ∧ Aside0 (kq ≤ k) ∧ Aside0 (wc.heap[gb699]? = some (.cells #[(.slice A1_0 l1_0.length c1_0), (.slice A1_1 l1_1.length c1_1)] 52 (0, 0))) ∧ Aside0 (Below w.heap.size w wc))
 case first =>
  have H := HC7.out
  clear HC7
  replace H := Option.bind_eq_some_iff.mp H
  obtain ⟨t711, A160, H⟩ := H
  replace H : (if t711 = true then (if a2 < 0 then (lampblacklaw02_WidthCounts.j0 k l0 a2 t709 t710 true) else (lampblacklaw02_WidthCounts.j0 k l0 a2 t709 t710 (decide (a2 > 6)))) else (lampblacklaw02_WidthCounts.j0 k l0 a2 t709 t710 true)) = some r := H
  have A16 := Aside0.mk A160
  clear A160
  by_cases c17 : t711 = true
  ·subst c17
   have H1 : (if a2 < 0 then (lampblacklaw02_WidthCounts.j0 k l0 a2 t709 t710 true) else (lampblacklaw02_WidthCounts.j0 k l0 a2 t709 t710 (decide (a2 > 6)))) = some r := by rw [if_pos rfl] at H; exact H
   clear H
   have H := H1
   clear H1
   by_cases c18 : a2 < 0
   ·rw [if_pos c18] at H
    have c18b0 : decide (a2 < 0) = true := decide_eq_true c18
    clear c18
    (first | rw [c18b0] | (simp only [i64_w, i32_w]; rw [c18b0]) | skip)
    have H' := Aside0.mk H
    clear H
    have hcz19_0 : w15.cell? ⟨gb699, 0, none⟩ = some (.slice A1_0 l1_0.length c1_0) := (blk_cell BK699.out 0).trans rfl
    have hcz19_1 : w15.cell? ⟨gb699, 1, none⟩ = some (.slice A1_1 l1_1.length c1_1) := (blk_cell BK699.out 1).trans rfl
    have hfz19_0 := blk_frozen BK699.out 0
    have hfz19_1 := blk_frozen BK699.out 1
    go_wp2_with (first | ((with_reducible refine gate_callee (f := 45) rfl ?_); refine goesL_ (some 20) rfl rfl Tryd.func45 (by kernel_rfl) rfl #[.slice A0 l0.length c0, .agg #[.slice A1_0 l1_0.length c1_0, .slice A1_1 l1_1.length c1_1]] rfl (Qls) ?_; (with_reducible refine (lampblacklaw02_fine.calls k _ _ l0 _ _ l1_0 _ _ l1_1 true _ ?side1 ?side2 ?side3 ?side4 ?side5 ?side6 A16.out).mono ?_); (case side1 => exact Qsc (Kd.C_below HR0.out HB.out)); (case side2 => exact HC0.out); (case side3 => exact Qsc (Kd.C_below HR1_0.out HB.out)); (case side4 => exact HC1_0.out); (case side5 => exact Qsc (Kd.C_below HR1_1.out HB.out)); (case side6 => exact HC1_1.out); rintro e w20 ⟨rfl, hb⟩; refine ⟨_, rfl, ?_⟩; have n0_ := Aside0.mk (Kd.R_below (Qro HO702.out) hb); have n1_ := Aside0.mk (Kd.R_below (Qro HO705.out) hb); have n2_ := Aside0.mk (Kd.R_below (Qro HO708.out) hb); have n3_ := Aside0.mk (blk_below (g := gb699) (o := .cells #[.slice A1_0 l1_0.length c1_0, .slice A1_1 l1_1.length c1_1] 52 (0, 0)) (Qbl BK699.out) hb); have n4_ := Aside0.mk (below_step (Qag GE699.out) hb); clear HO702; clear HO705; clear HO708; clear BK699; clear HB; have HO702 := n0_; have HO705 := n1_; have HO708 := n2_; have BK699 := n3_; have HB := n4_; clear n0_ n1_ n2_ n3_ n4_; (try clear hb); (try clear hb2); (try clear hk); (try clear hi)))
    go_meet
    case rel => exact ⟨_, (true), (Qrs), H', ⟨by first | omega | exact Nat.le_refl _⟩, ⟨by (with_reducible repeat (first | refine blk_drewN ?_ _ | refine blk_drew ?_ | refine blk_alloc ?_ _)); exact BK699.out⟩, ⟨by repeat (first | (with_reducible first | exact HB.out | apply below_alloc | apply pw_below_drewN | apply below_drew1 | refine below_set ?_ GE699.out) | exact HB.out)⟩⟩
   ·rw [if_neg c18] at H
    have c18b0 : decide (a2 < 0) = false := decide_eq_false c18
    clear c18
    (first | rw [c18b0] | (simp only [i64_w, i32_w]; rw [c18b0]) | skip)
    have H' := Aside0.mk H
    clear H
    have hcz21_0 : w15.cell? ⟨gb699, 0, none⟩ = some (.slice A1_0 l1_0.length c1_0) := (blk_cell BK699.out 0).trans rfl
    have hcz21_1 : w15.cell? ⟨gb699, 1, none⟩ = some (.slice A1_1 l1_1.length c1_1) := (blk_cell BK699.out 1).trans rfl
    have hfz21_0 := blk_frozen BK699.out 0
    have hfz21_1 := blk_frozen BK699.out 1
    go_wp2_with (first | ((with_reducible refine gate_callee (f := 45) rfl ?_); refine goesL_ (some 20) rfl rfl Tryd.func45 (by kernel_rfl) rfl #[.slice A0 l0.length c0, .agg #[.slice A1_0 l1_0.length c1_0, .slice A1_1 l1_1.length c1_1]] rfl (Qls) ?_; (with_reducible refine (lampblacklaw02_fine.calls k _ _ l0 _ _ l1_0 _ _ l1_1 true _ ?side1 ?side2 ?side3 ?side4 ?side5 ?side6 A16.out).mono ?_); (case side1 => exact Qsc (Kd.C_below HR0.out HB.out)); (case side2 => exact HC0.out); (case side3 => exact Qsc (Kd.C_below HR1_0.out HB.out)); (case side4 => exact HC1_0.out); (case side5 => exact Qsc (Kd.C_below HR1_1.out HB.out)); (case side6 => exact HC1_1.out); rintro e w22 ⟨rfl, hb⟩; refine ⟨_, rfl, ?_⟩; have n0_ := Aside0.mk (Kd.R_below (Qro HO702.out) hb); have n1_ := Aside0.mk (Kd.R_below (Qro HO705.out) hb); have n2_ := Aside0.mk (Kd.R_below (Qro HO708.out) hb); have n3_ := Aside0.mk (blk_below (g := gb699) (o := .cells #[.slice A1_0 l1_0.length c1_0, .slice A1_1 l1_1.length c1_1] 52 (0, 0)) (Qbl BK699.out) hb); have n4_ := Aside0.mk (below_step (Qag GE699.out) hb); clear HO702; clear HO705; clear HO708; clear BK699; clear HB; have HO702 := n0_; have HO705 := n1_; have HO708 := n2_; have BK699 := n3_; have HB := n4_; clear n0_ n1_ n2_ n3_ n4_; (try clear hb); (try clear hb2); (try clear hk); (try clear hi)))
    go_meet
    case rel => exact ⟨_, (decide (a2 > 6)), (Qrs), H', ⟨by first | omega | exact Nat.le_refl _⟩, ⟨by (with_reducible repeat (first | refine blk_drewN ?_ _ | refine blk_drew ?_ | refine blk_alloc ?_ _)); exact BK699.out⟩, ⟨by repeat (first | (with_reducible first | exact HB.out | apply below_alloc | apply pw_below_drewN | apply below_drew1 | refine below_set ?_ GE699.out) | exact HB.out)⟩⟩
  ·replace c17 := Bool.eq_false_iff.mpr c17
   subst c17
   have H1 : (lampblacklaw02_WidthCounts.j0 k l0 a2 t709 t710 true) = some r := by rw [if_neg (show ¬ (false = true) by decide)] at H; exact H
   clear H
   have H := H1
   clear H1
   have H' := Aside0.mk H
   clear H
   have hcz23_0 : w15.cell? ⟨gb699, 0, none⟩ = some (.slice A1_0 l1_0.length c1_0) := (blk_cell BK699.out 0).trans rfl
   have hcz23_1 : w15.cell? ⟨gb699, 1, none⟩ = some (.slice A1_1 l1_1.length c1_1) := (blk_cell BK699.out 1).trans rfl
   have hfz23_0 := blk_frozen BK699.out 0
   have hfz23_1 := blk_frozen BK699.out 1
   go_wp2_with (first | ((with_reducible refine gate_callee (f := 45) rfl ?_); refine goesL_ (some 20) rfl rfl Tryd.func45 (by kernel_rfl) rfl #[.slice A0 l0.length c0, .agg #[.slice A1_0 l1_0.length c1_0, .slice A1_1 l1_1.length c1_1]] rfl (Qls) ?_; (with_reducible refine (lampblacklaw02_fine.calls k _ _ l0 _ _ l1_0 _ _ l1_1 false _ ?side1 ?side2 ?side3 ?side4 ?side5 ?side6 A16.out).mono ?_); (case side1 => exact Qsc (Kd.C_below HR0.out HB.out)); (case side2 => exact HC0.out); (case side3 => exact Qsc (Kd.C_below HR1_0.out HB.out)); (case side4 => exact HC1_0.out); (case side5 => exact Qsc (Kd.C_below HR1_1.out HB.out)); (case side6 => exact HC1_1.out); rintro e w24 ⟨rfl, hb⟩; refine ⟨_, rfl, ?_⟩; have n0_ := Aside0.mk (Kd.R_below (Qro HO702.out) hb); have n1_ := Aside0.mk (Kd.R_below (Qro HO705.out) hb); have n2_ := Aside0.mk (Kd.R_below (Qro HO708.out) hb); have n3_ := Aside0.mk (blk_below (g := gb699) (o := .cells #[.slice A1_0 l1_0.length c1_0, .slice A1_1 l1_1.length c1_1] 52 (0, 0)) (Qbl BK699.out) hb); have n4_ := Aside0.mk (below_step (Qag GE699.out) hb); clear HO702; clear HO705; clear HO708; clear BK699; clear HB; have HO702 := n0_; have HO705 := n1_; have HO708 := n2_; have BK699 := n3_; have HB := n4_; clear n0_ n1_ n2_ n3_ n4_; (try clear hb); (try clear hb2); (try clear hk); (try clear hi)))
   go_meet
   case rel => exact ⟨_, (true), (Qrs), H', ⟨by first | omega | exact Nat.le_refl _⟩, ⟨by (with_reducible repeat (first | refine blk_drewN ?_ _ | refine blk_drew ?_ | refine blk_alloc ?_ _)); exact BK699.out⟩, ⟨by repeat (first | (with_reducible first | exact HB.out | apply below_alloc | apply pw_below_drewN | apply below_drew1 | refine below_set ?_ GE699.out) | exact HB.out)⟩⟩
 case rest =>
  clear HC7
  try clear c1
  try clear p2
  try clear c4
  try clear c5
  try clear c14
  try clear c17
  try clear c18
  try clear c18b0
  try clear c19
  try clear hcz19_0
  try clear hcz19_1
  try clear hcz21_0
  try clear hcz21_1
  try clear hcz23_0
  try clear hcz23_1
  try clear hfz19_0
  try clear hfz19_1
  try clear hfz21_0
  try clear hfz21_1
  try clear hfz23_0
  try clear hfz23_1
  obtain ⟨kq, x29_6, rfl, HA, HJ6, BK699, HB⟩ := hcut
  cases kq with
  | zero => exact absurd HA.out (by simp [lampblacklaw02_WidthCounts.j0])
  | succ kj6 =>
   have H := HA.out
   clear HA
   simp only [lampblacklaw02_WidthCounts.j0] at H
   by_cases c25 : x29_6 = true
   ·subst c25
    have H1 : (if t709 = 0 then (if t710 = 2 then ((lampblacklaw02_awake.f kj6).bind fun t712 => (some t712)) else (some false)) else (some false)) = some r := by rw [if_pos rfl] at H; exact H
    clear H
    have H := H1
    clear H1
    by_cases c26 : t709 = 0
    ·rw [if_pos c26] at H
     have c26b0 : (t709 == 0) = true := beq_iff_eq.mpr c26
     have c26b1 : (t709 != 0) = false := bne_eq_false_iff_eq.mpr c26
     clear c26
     by_cases c27 : t710 = 2
     ·rw [if_pos c27] at H
      have c27b0 : (t710 == 2) = true := beq_iff_eq.mpr c27
      have c27b1 : (t710 != 2) = false := bne_eq_false_iff_eq.mpr c27
      clear c27
      replace H := Option.bind_eq_some_iff.mp H
      obtain ⟨t712, A280, H⟩ := H
      replace H : (some t712) = some r := H
      have A28 := Aside0.mk A280
      clear A280
      obtain rfl := Option.some.inj H
      go_wp2_with (first | (go_at_call 20; (with_reducible refine (lampblacklaw02_awake.calls (hGL := (by repeat (first | (with_reducible exact HGL.out) | (with_reducible exact GL_below HGL.out HB.out) | (refine GL_below HGL.out (Qag GE699.out)) | (with_reducible refine GL_alloc ?_ _) | (with_reducible refine GL_drewN ?_ _) | (with_reducible refine GL_drew ?_)))) kj6  t712 _ A28.out).mono ?_); rintro e w29 ⟨rfl, hb⟩; have n0_ := Aside0.mk (blk_below (g := gb699) (o := .cells #[.slice A1_0 l1_0.length c1_0, .slice A1_1 l1_1.length c1_1] 52 (0, 0)) (Qbl BK699.out) hb); have n1_ := Aside0.mk (below_step (Qag GE699.out) hb); clear BK699; clear HB; have BK699 := n0_; have HB := n1_; clear n0_ n1_; (try clear hb); (try clear hb2); (try clear hk); (try clear hi)))
      go_ret
      exact ⟨by first | rfl | (simp [errW_none, errW_some] <;> rfl) | (simp [*, errW_none, errW_some] <;> rfl), by repeat (first | (with_reducible first | exact HB.out | apply below_alloc | apply pw_below_drewN | apply below_drew1 | refine below_set ?_ GE699.out) | exact HB.out)⟩
     ·rw [if_neg c27] at H
      have c27b0 : (t710 == 2) = false := beq_eq_false_iff_ne.mpr c27
      have c27b1 : (t710 != 2) = true := bne_iff_ne.mpr c27
      exact absurd ((Option.some.inj H).trans HRT.out) (by decide)
    ·rw [if_neg c26] at H
     have c26b0 : (t709 == 0) = false := beq_eq_false_iff_ne.mpr c26
     have c26b1 : (t709 != 0) = true := bne_iff_ne.mpr c26
     exact absurd ((Option.some.inj H).trans HRT.out) (by decide)
   ·replace c25 := Bool.eq_false_iff.mpr c25
    subst c25
    have H1 : ((lampblackref02_Count.f l0 a2).bind fun t713 => (if t709 = t713 then (if t710 = 0 then ((lampblacklaw02_awake.f kj6).bind fun t714 => (some t714)) else (some false)) else (some false))) = some r := by rw [if_neg (show ¬ (false = true) by decide)] at H; exact H
    clear H
    have H := H1
    clear H1
    replace H := Option.bind_eq_some_iff.mp H
    obtain ⟨t713, A300, H⟩ := H
    replace H : (if t709 = t713 then (if t710 = 0 then ((lampblacklaw02_awake.f kj6).bind fun t714 => (some t714)) else (some false)) else (some false)) = some r := H
    have A30 := Aside0.mk A300
    clear A300
    by_cases c31 : t709 = t713
    ·rw [if_pos c31] at H
     have c31b0 : (t709 == t713) = true := beq_iff_eq.mpr c31
     have c31b1 : (t709 != t713) = false := bne_eq_false_iff_eq.mpr c31
     clear c31
     by_cases c32 : t710 = 0
     ·rw [if_pos c32] at H
      have c32b0 : (t710 == 0) = true := beq_iff_eq.mpr c32
      have c32b1 : (t710 != 0) = false := bne_eq_false_iff_eq.mpr c32
      clear c32
      replace H := Option.bind_eq_some_iff.mp H
      obtain ⟨t714, A330, H⟩ := H
      replace H : (some t714) = some r := H
      have A33 := Aside0.mk A330
      clear A330
      obtain rfl := Option.some.inj H
      go_wp2_with (first | ((with_reducible refine gate_callee (f := 57) rfl ?_); refine goesL_ (some 42) rfl rfl Tryd.func57 (by kernel_rfl) rfl #[.slice A0 l0.length c0, .int .i64 a2] rfl (Qls) ?_; (with_reducible refine (lampblackref02_Count.calls _ _ l0 a2 t713 _ ?side1 ?side2 A30.out).mono ?_); (case side1 => exact Qsc (Kd.C_below HR0.out HB.out)); (case side2 => exact HC0.out); rintro e w34 ⟨rfl, hb⟩; refine ⟨_, rfl, ?_⟩; have n0_ := Aside0.mk (blk_below (g := gb699) (o := .cells #[.slice A1_0 l1_0.length c1_0, .slice A1_1 l1_1.length c1_1] 52 (0, 0)) (Qbl BK699.out) hb); have n1_ := Aside0.mk (below_step (Qag GE699.out) hb); clear BK699; clear HB; have BK699 := n0_; have HB := n1_; clear n0_ n1_; (try clear hb); (try clear hb2); (try clear hk); (try clear hi)) | (go_at_call 20; (with_reducible refine (lampblacklaw02_awake.calls (hGL := (by repeat (first | (with_reducible exact HGL.out) | (with_reducible exact GL_below HGL.out HB.out) | (refine GL_below HGL.out (Qag GE699.out)) | (with_reducible refine GL_alloc ?_ _) | (with_reducible refine GL_drewN ?_ _) | (with_reducible refine GL_drew ?_)))) kj6  t714 _ A33.out).mono ?_); rintro e w35 ⟨rfl, hb⟩; have n0_ := Aside0.mk (blk_below (g := gb699) (o := .cells #[.slice A1_0 l1_0.length c1_0, .slice A1_1 l1_1.length c1_1] 52 (0, 0)) (Qbl BK699.out) hb); have n1_ := Aside0.mk (below_step (Qag GE699.out) hb); clear BK699; clear HB; have BK699 := n0_; have HB := n1_; clear n0_ n1_; (try clear hb); (try clear hb2); (try clear hk); (try clear hi)))
      go_ret
      exact ⟨by first | rfl | (simp [errW_none, errW_some] <;> rfl) | (simp [*, errW_none, errW_some] <;> rfl), by repeat (first | (with_reducible first | exact HB.out | apply below_alloc | apply pw_below_drewN | apply below_drew1 | refine below_set ?_ GE699.out) | exact HB.out)⟩
     ·rw [if_neg c32] at H
      have c32b0 : (t710 == 0) = false := beq_eq_false_iff_ne.mpr c32
      have c32b1 : (t710 != 0) = true := bne_iff_ne.mpr c32
      exact absurd ((Option.some.inj H).trans HRT.out) (by decide)
    ·rw [if_neg c31] at H
     have c31b0 : (t709 == t713) = false := beq_eq_false_iff_ne.mpr c31
     have c31b1 : (t709 != t713) = true := bne_iff_ne.mpr c31
     exact absurd ((Option.some.inj H).trans HRT.out) (by decide)
end
noncomputable section
mutual
def lampblackref02_IsBramble.l0 : Nat → List Int → List Int → List Int → Int → Int → Option (Bool)
 | 0, _, _, _, _, _ => none
 | k + 1, x0, x1, x9, x10, x11 => if x11 < x10 then (if 0 ≤ x11 then (if x11 < (x9.length : Int) then (if x11 ≥ 200 then (lampblackref02_IsBramble.j1 k x0 x1 x11 (rd x9 x11) x9 x10 x11 true) else ((lampblackref02_Connected.f k x0 (rd x9 x11)).bind fun t296 => (lampblackref02_IsBramble.j1 k x0 x1 x11 (rd x9 x11) x9 x10 x11 (!t296)))) else (none)) else (none)) else (some (decide ((x1.length : Int) > 0)))
def lampblackref02_IsBramble.j1 : Nat → List Int → List Int → Int → Int → List Int → Int → Int → Bool → Option (Bool)
 | 0, _, _, _, _, _, _, _, _ => none
 | k + 1, x0, x1, x5, x6, x9, x10, x11, x23 => if x23 = true then (some false) else (if 0 ≤ x5 then (if x5 ≤ (x1.length : Int) then (lampblackref02_IsBramble.l1 k x0 x1 x6 x9 x10 x11 (x1.take (x5 : Int).toNat) ((x1.take (x5 : Int).toNat).length : Int) 0) else (none)) else (none))
def lampblackref02_IsBramble.l1 : Nat → List Int → List Int → Int → List Int → Int → Int → List Int → Int → Int → Option (Bool)
 | 0, _, _, _, _, _, _, _, _, _ => none
 | k + 1, x0, x1, x6, x9, x10, x11, x26, x27, x28 => if x28 < x27 then (if 0 ≤ x28 then (if x28 < (x26.length : Int) then ((lampblackref02_Touch.f k x0 x6 (rd x26 x28)).bind fun t299 => (if t299 = true then (lampblackref02_IsBramble.l1 k x0 x1 x6 x9 x10 x11 x26 x27 (wrap64 (x28 + 1))) else (some false))) else (none)) else (none)) else (lampblackref02_IsBramble.l0 k x0 x1 x9 x10 (wrap64 (x11 + 1)))
end
end
noncomputable section
mutual
def lampblackref02_Cover.l0 : Nat → List Int → Int → Int → Int → Option (Int)
 | 0, _, _, _, _ => none
 | k + 1, x1, x5, x16, x17 => if x17 < x16 then ((lampblackref02_Size.f k x17).bind fun t300 => ((lampblackref02_Size.f k x5).bind fun t301 => (lampblackref02_Cover.l1 k x1 x5 x17 (decide (t300 < t301)) x16 x17 x1 (x1.length : Int) 0))) else (some x5)
def lampblackref02_Cover.l1 : Nat → List Int → Int → Int → Bool → Int → Int → List Int → Int → Int → Option (Int)
 | 0, _, _, _, _, _, _, _, _, _ => none
 | k + 1, x1, x5, x6, x7, x16, x17, x25, x26, x27 => if x27 < x26 then (if 0 ≤ x27 then (if x27 < (x25.length : Int) then (if x7 = true then (lampblackref02_Cover.l1 k x1 x5 x6 ((Go.bits .and .i64 (rd x25 x27) x6) != 0) x16 x17 x25 x26 (wrap64 (x27 + 1))) else (lampblackref02_Cover.l1 k x1 x5 x6 false x16 x17 x25 x26 (wrap64 (x27 + 1)))) else (none)) else (none)) else (if x7 = true then (lampblackref02_Cover.l0 k x1 x6 x16 (wrap64 (x17 + 1))) else (lampblackref02_Cover.l0 k x1 x5 x16 (wrap64 (x17 + 1))))
end
end
end Go.Proofs.YtoffehihicabcaaDoor.X
end
section
namespace Go.Proofs.YtoffehihicabcaaDoor.X
open Go.RowKit YtoffehihicabcaaDoorW.PrintWords YtoffehihicabcaaDoorW.PrintLast YtoffehihicabcaaDoorW.PrintMore
def cnt (x : Int) : Int := (width_count.f x).getD 0
end Go.Proofs.YtoffehihicabcaaDoor.X
end
section
namespace Go.Proofs.YtoffehihicabcaaDoor.X
open Go.RowKit YtoffehihicabcaaDoorW.PrintWords YtoffehihicabcaaDoorW.PrintLast YtoffehihicabcaaDoorW.PrintMore
attribute [local go_sem] max2_int min2_int max_two min_two max_three min_three max_four min_four
noncomputable section
end
noncomputable section
end
noncomputable section
end
noncomputable section
mutual
def lampblackref02_IsNarrow.l0 : Nat → List Int → List Int → Int → Int → List Int → List Int → List Int → List Int → Option (Bool)
 | 0, _, _, _, _, _, _, _, _ => none
 | k + 1, x0, x17, x18, x19, x434000, x434001, x435000, x435001 => if x19 < x18 then (if 0 ≤ x19 then (if x19 < (x17.length : Int) then (lampblackref02_IsNarrow.l1 k x0 x19 (rd x17 x19) false x17 x18 x19 x435000 (x435000.length : Int) 0 x434000 x434001 x435000 x435001) else (none)) else (none)) else ((lampblackref02_IsTree.f k x0 x434000 x434001).bind fun bt435 => (some bt435.2))
def lampblackref02_IsNarrow.l1 : Nat → List Int → Int → Int → Bool → List Int → Int → Int → List Int → Int → Int → List Int → List Int → List Int → List Int → Option (Bool)
 | 0, _, _, _, _, _, _, _, _, _, _, _, _, _, _ => none
 | k + 1, x0, x7, x8, x9, x17, x18, x19, x25, x26, x27, x434000, x434001, x435000, x435001 => if x27 < x26 then (if 0 ≤ x27 then (if x27 < (x25.length : Int) then (if x9 = true then (lampblackref02_IsNarrow.l1 k x0 x7 x8 true x17 x18 x19 x25 x26 (wrap64 (x27 + 1)) x434000 x434001 x435000 x435001) else (lampblackref02_IsNarrow.l1 k x0 x7 x8 (x8 == (rd x25 x27)) x17 x18 x19 x25 x26 (wrap64 (x27 + 1)) x434000 x434001 x435000 x435001)) else (none)) else (none)) else (lampblackref02_IsNarrow.l2 k x0 x7 x8 x9 x17 x18 x19 x434000 (x434000.length : Int) 0 x434000 x434001 x435000 x435001)
def lampblackref02_IsNarrow.l2 : Nat → List Int → Int → Int → Bool → List Int → Int → Int → List Int → Int → Int → List Int → List Int → List Int → List Int → Option (Bool)
 | 0, _, _, _, _, _, _, _, _, _, _, _, _, _, _ => none
 | k + 1, x0, x7, x8, x9, x17, x18, x19, x39, x40, x41, x434000, x434001, x435000, x435001 => if x41 < x40 then (if 0 ≤ x41 then (if x41 < (x39.length : Int) then (if x7 = x41 then (lampblackref02_IsNarrow.l2 k x0 x7 x8 x9 x17 x18 x19 x39 x40 (wrap64 (x41 + 1)) x434000 x434001 x435000 x435001) else (if (Go.bits .andNot .i64 x8 (rd x39 x41)) = 0 then (some false) else (lampblackref02_IsNarrow.l2 k x0 x7 x8 x9 x17 x18 x19 x39 x40 (wrap64 (x41 + 1)) x434000 x434001 x435000 x435001))) else (none)) else (none)) else (if x9 = true then (lampblackref02_IsNarrow.l0 k x0 x17 x18 (wrap64 (x19 + 1)) x434000 x434001 x435000 x435001) else (some false))
end
end
end Go.Proofs.YtoffehihicabcaaDoor.X
end
section
namespace Go.Proofs.YtoffehihicabcaaDoor.X
open Go.RowKit YtoffehihicabcaaDoorW.PrintWords YtoffehihicabcaaDoorW.PrintLast YtoffehihicabcaaDoorW.PrintMore YtoffehihicabcaaDoor.T
theorem list_any (l : List Int) : lampblacklaw02_list.f l = some (l.take 210) := by
 have hm : mn (l.length : Int) 210 = ((min l.length 210 : Nat) : Int) := mn_nat l.length 210
 have ht : l.take (min l.length 210) = l.take 210 := by
  by_cases h : l.length ≤ 210
  ·rw [List.take_of_length_le (by omega), List.take_of_length_le h]
  ·rw [Nat.min_eq_right (by omega)]
 unfold lampblacklaw02_list.f slices_Clone_int_int.f
 simp only [hm, Int.toNat_natCast]
 rw [if_pos (by omega), if_pos (by omega), ht]
 simp only [Option.bind_some, List.nil_append]
 rw [if_pos (by rw [List.length_take, List.length_nil]; omega)]
 rfl
theorem Of_eq (B P : List Int) : lampblacklaw02_Of.f B P = some (B.take 210, P.take 210) := by
 unfold lampblacklaw02_Of.f
 rw [list_any, list_any]
 rfl
theorem td_cut {G : List Nat} (B P : List Int) : (TD G (B.take 210) (P.take 210) ∧ B.take 210 = B ∧ P.take 210 = P) ∨ (¬ TD G (B.take 210) (P.take 210) ∧ ¬ TD G B P) ∨ (B.take 210 = B ∧ P.take 210 = P) := by
 by_cases hb : B.length ≤ 210
 ·by_cases hp : P.length ≤ 210
  ·exact .inr (.inr ⟨List.take_of_length_le hb, List.take_of_length_le hp⟩)
  ·refine .inr (.inl ⟨fun h => ?_, fun h => ?_⟩)
   ·have h1 := h.len; have h2 := h.most
    rw [List.length_take, List.length_take] at h1
    rw [List.length_take] at h2
    omega
   ·have h1 := h.len; have h2 := h.most; omega
 ·refine .inr (.inl ⟨fun h => ?_, fun h => ?_⟩)
  ·have h2 := h.most
   rw [List.length_take] at h2
   omega
  ·have h2 := h.most; omega
theorem td_take {G : List Nat} (B P : List Int) : (TD G (B.take 210) (P.take 210) ↔ TD G B P) ∧ (TD G B P → B.take 210 = B ∧ P.take 210 = P) := by
 rcases td_cut (G := G) B P with ⟨h, h1, h2⟩ | ⟨h1, h2⟩ | ⟨h1, h2⟩
 ·rw [h1, h2]; exact ⟨Iff.rfl, fun _ => ⟨rfl, rfl⟩⟩
 ·exact ⟨⟨fun h => absurd h h1, fun h => absurd h h2⟩, fun h => absurd h h2⟩
 ·rw [h1, h2]; exact ⟨Iff.rfl, fun _ => ⟨rfl, rfl⟩⟩
section
variable {A PA B PB : List Int} {g : List Int}
end
theorem Count_yes {G : List Nat} (hG : Gr 9 G) {B P : List Int} (h : TD G B P) {c : Int} (h0 : 0 ≤ c) (h6 : c ≤ 6) : width_Count.f (gi G) B P c = some ((numG G c.toNat : Int), 0) := by
 unfold width_Count.f
 rw [if_pos ((chk_iff 9 (by omega) _).2 ⟨G, rfl, hG⟩), gi_toNatN, if_pos ⟨(treeB_iff hG B P).2 h, h0, h6⟩]
theorem Count_no {G : List Nat} (hG : Gr 9 G) {B P : List Int} {c : Int} (h : ¬ (TD G B P ∧ 0 ≤ c ∧ c ≤ 6)) : width_Count.f (gi G) B P c = some (0, 2) := by
 unfold width_Count.f
 rw [if_pos ((chk_iff 9 (by omega) _).2 ⟨G, rfl, hG⟩), gi_toNatN, if_neg (fun hx => h ⟨(treeB_iff hG B P).1 hx.1, hx.2⟩)]
theorem Count_bad (g B P : List Int) (c : Int) (hl : g.length < 1000) (h : chk 9 g = false) : width_Count.f g B P c = some (0, 2) := by
 unfold width_Count.f
 rw [if_neg (by rw [h]; simp), if_pos hl]
end Go.Proofs.YtoffehihicabcaaDoor.X
end
section
namespace Go.Proofs.YtoffehihicabcaaDoor.Pure
open Go.RowKit YtoffehihicabcaaDoorW.PrintWords YtoffehihicabcaaDoorW.PrintLast YtoffehihicabcaaDoorW.PrintMore YtoffehihicabcaaDoor.T YtoffehihicabcaaDoor.X
theorem counts_j0_err (g : List Int) (c : Int) : Ev (fun k => lampblacklaw02_WidthCounts.j0 k g c 0 2 true) true :=
 Ev.step (fun k => by rw [lampblacklaw02_WidthCounts.j0, if_pos rfl, if_pos rfl, if_pos rfl]) (Ev.bind awake_ev (Ev.some rfl))
theorem counts_law (g B P : List Int) (c : Int) (hg : g.length < 2 ^ 44) : Ev (fun k => lampblacklaw02_WidthCounts.f k g B P c) true := by
 obtain ⟨h, e, e1, e2, e3⟩ := few_eq g hg
 have hv := valid_ev g (by omega)
 unfold lampblacklaw02_WidthCounts.f
 refine Ev.bind1 e (Ev.bind1 (Of_eq B P) ?_)
 by_cases hc : chk 9 g = true
 ·obtain ⟨G, rfl, hG⟩ := (chk_iff 9 (by omega) _).1 hc
  rw [e1 hc] at e ⊢
  rw [hc] at hv
  obtain ⟨r3, hr3, hr3'⟩ := refIsTree_ev hG B P
  obtain ⟨t1, t2⟩ := td_take (G := G) B P
  have hfine : Ev (fun k => lampblacklaw02_fine.f k (gi G) B P) r3.2 := by
   unfold lampblacklaw02_fine.f
   exact Ev.bind hv (Ev.if_pos rfl (Ev.bind hr3 (Ev.some rfl)))
  by_cases ht : TD G B P
  ·rcases hr3' with ⟨_, e4⟩ | ⟨h4, _⟩
   ·subst e4
    rw [(t2 ht).1, (t2 ht).2]
    by_cases h0 : c < 0
    ·exact Ev.bind1 (Count_no hG (B := B) (P := P) fun h => by omega) (Ev.bind hfine (Ev.if_pos rfl (Ev.if_pos h0 (counts_j0_err _ _))))
    ·by_cases h6 : c > 6
     ·exact Ev.bind1 (Count_no hG (B := B) (P := P) fun h => by omega) (Ev.bind hfine (Ev.if_pos rfl (Ev.if_neg h0 (by rw [decide_eq_true h6]; exact counts_j0_err _ _))))
     ·refine Ev.bind1 (Count_yes hG ht (by omega) (by omega)) (Ev.bind hfine (Ev.if_pos rfl (Ev.if_neg h0 ?_)))
      rw [decide_eq_false h6]
      have hrc : lampblackref02_Count.f (gi G) c = some ((numG G c.toNat : Nat) : Int) := by
       unfold lampblackref02_Count.f
       rw [if_pos ⟨hc, by omega, by omega⟩, gi_toNatR]
       unfold numG
       rw [rc_all hG (by omega : c.toNat ≤ 16), gi_length]
      refine Ev.step (fun k => by rw [lampblacklaw02_WidthCounts.j0, if_neg (by simp)]) (Ev.bind1 hrc (Ev.if_pos rfl (Ev.if_pos rfl (Ev.bind awake_ev (Ev.some rfl)))))
   ·exact absurd ht h4
  ·rcases hr3' with ⟨h4, _⟩ | ⟨_, e4⟩
   ·exact absurd h4 ht
   ·subst e4
    exact Ev.bind1 (Count_no hG fun h => ht (t1.1 h.1)) (Ev.bind hfine (Ev.if_neg (by simp) (counts_j0_err _ _)))
 ·have hc' : chk 9 g = false := by simpa using hc
  rw [hc'] at hv
  have hfine : Ev (fun k => lampblacklaw02_fine.f k g B P) false := by
   unfold lampblacklaw02_fine.f
   exact Ev.bind hv (Ev.if_neg (by simp) (Ev.some rfl))
  exact Ev.bind1 (Count_bad h _ _ c (by omega) (e2 hc')) (Ev.bind hfine (Ev.if_neg (by simp) (counts_j0_err _ _)))
theorem WidthCounts : ∀ (l0 l1 l2 : List Int) (a : Int), l0.length ≤ maxLen → l0.length * 8 ≤ 140737488351232 → (∀ x ∈ l0, (Lit.int .i64 x).wf = true) → l1.length ≤ maxLen → l2.length ≤ maxLen → (Lit.int .i64 a).wf = true → ∃ k, lampblacklaw02_WidthCounts.f k l0 l1 l2 a = some true := by
 intro g B P c _ hg _ _ _ _
 exact Ev.rounds (counts_law g B P c (by omega))
end Go.Proofs.YtoffehihicabcaaDoor.Pure
end
section
namespace Go.Proofs.YtoffehihicabcaaDoor.X
open Go.RowKit Go.ChangeShapes Go.WideShapes
def RowI (w : World) (a : Option Addr) (len cap : Nat) (zs : List Int) : Prop :=
 (a = none ∧ len = 0 ∧ cap = 0 ∧ zs = []) ∨ ∃ x, a = some x ∧ len ≤ cap ∧ cap ≤ maxLen ∧ zs.length = cap ∧ (∀ i, i < zs.length → w.cell? (x.add i) = some (.int .i64 (zs.getD i 0))) ∧ ∀ n ∈ zs, (Lit.int .i64 n).wf = true
section
variable {H : Type} {enc : TypeId × Value → H} {P : Program} {w : World} {base : Nat} {spare : Nat → Bool} {held : Bool}
theorem open_rowI {t e : TypeId} {fuel : Nat} {c : Value} {x : DataW H × List MemPlace} (hsp : ∀ b, spare b = true) (ht : P.underlying t = some (.slice e)) (he : P.underlying e = some (.int .i64)) (hc : P.cellsOf e = 1)
  (h : DataW.trod enc P w base spare held fuel t [c] = some x) : ∃ a len cap zs, c = .slice a len cap ∧ RowI w a len cap zs := by
 rcases open_ints ht he hc h with ⟨hcs, _⟩ | ⟨ad, l, cp, zs, hcs, _, hl, hm, hz, _, hcell, hwz⟩
 ·simp at hcs
  exact ⟨none, 0, 0, [], hcs, .inl ⟨rfl, rfl, rfl, rfl⟩⟩
 ·simp at hcs
  exact ⟨some ad, l, cp, zs, hcs, .inr ⟨ad, rfl, hl, hm, by rw [hz, hsp]; rfl, hcell, hwz⟩⟩
theorem open_tree {t : TypeId} (e : TypeId) {f0 f1 : Field} {v : Value} {d : DataW H} {ps : List MemPlace} (hsp : ∀ b, spare b = true) (ht : P.underlying t = some (.struct #[f0, f1])) (h0 : P.underlying f0.type = some (.slice e)) (h1 : P.underlying f1.type = some (.slice e)) (he : P.underlying e = some (.int .i64)) (hc : P.cellsOf e = 1)
  (hC : P.cellsOf t = 2) (o0 : f0.offset = 0) (o1 : f1.offset = 1) (c0 : P.cellsOf f0.type = 1) (c1 : P.cellsOf f1.type = 1) (hv : ∃ cs, v = .agg cs ∧ cs.size = P.cellsOf t) (h : DataW.Trod enc P w base spare held t v d ps) :
  ∃ a0 n0 k0 z0 a1 n1 k1 z1, v = .agg #[.slice a0 n0 k0, .slice a1 n1 k1] ∧ RowI w a0 n0 k0 z0 ∧ RowI w a1 n1 k1 z1 := by
 obtain ⟨cs, rfl, hs⟩ := hv
 obtain ⟨fuel, hf⟩ := h
 obtain ⟨xs, n, _, _, hl, hxl, hf⟩ := DataW.trod_struct ht hf
 rw [hC] at hs
 obtain ⟨l⟩ := cs
 match l, hs with
 | [u0, u1], _ =>
  have g0 := hf 0 f0 rfl
  have g1 := hf 1 f1 rfl
  rw [o0, c0] at g0
  rw [o1, c1] at g1
  have y0 : xs[0]? = some (xs[0]'(by rw [hxl]; show 0 < 2; omega)) := List.getElem?_eq_getElem _
  have y1 : xs[1]? = some (xs[1]'(by rw [hxl]; show 1 < 2; omega)) := List.getElem?_eq_getElem _
  obtain ⟨a0, n0, k0, z0, e0, r0⟩ := open_rowI (c := u0) hsp h0 he hc (g0.trans y0)
  obtain ⟨a1, n1, k1, z1, e1, r1⟩ := open_rowI (c := u1) hsp h1 he hc (g1.trans y1)
  subst e0
  subst e1
  exact ⟨a0, n0, k0, z0, a1, n1, k1, z1, rfl, r0, r1⟩
end
end Go.Proofs.YtoffehihicabcaaDoor.X
end
