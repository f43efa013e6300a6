/- Part 3 of what WidthCliques rests on: contracts of the functions that it reaches, and what they compute, in plain words. -/
import Derived.Test.YtoffehihicabcaaDoorZWidthCliques2
import Derived.Test.YtoffehihicabcaaDoorZWidthCliques0
import Derived.Test.YtoffehihicabcaaDoorZWidthCliques1
import Derived.Outline
import Derived.ArgAppend
import Derived.ChangeSlices
import Derived.ChangeArms
import Derived.WideShapes
import Derived.SizedLaws
set_option linter.unusedVariables false
set_option linter.unusedSimpArgs false
section
namespace Go.Proofs.YtoffehihicabcaaDoor.X
open Go.RowKit YtoffehihicabcaaDoorW.PrintWords YtoffehihicabcaaDoorW.PrintLast YtoffehihicabcaaDoorW.PrintMore YtoffehihicabcaaDoor.T
attribute [local go_sem] max2_int min2_int max_two min_two max_three min_three max_four min_four
def width_Narrow.f (g B P : List Int) : Option (List Int × List Int × Int) :=
 if chk 9 g = true then (if treeB (g.map Int.toNat) B P = true then some ((narN B.length B P).1, (narN B.length B P).2, 0) else some ([], [], 2)) else if g.length < 1000 then some ([], [], 2) else none
theorem gi_toNatN (G : List Nat) : (gi G).map Int.toNat = G := by
 unfold gi
 rw [List.map_map]
 exact (List.map_congr_left (fun x _ => Int.toNat_natCast x)).trans (List.map_id _)
theorem readN_yes {G : List Nat} (hG : Gr 9 G) (A0 : Option Addr) (c0 : Nat) (w : World) (hr0 : Kd.C (Kd.int .i64) w A0 (gi G).length (gi G)) (hc0 : (gi G).length ≤ c0) :
  Calls Tryd.prog 59 #[.slice A0 (gi G).length c0] w fun e w' => ∃ A1 c1, e = .returned (.tuple #[.slice A1 (gi G).length c1, .bool true]) ∧ (gi G).length ≤ c1 ∧ Kd.C (Kd.int .i64) w' A1 (gi G).length (gi G) ∧ Below w.heap.size w w' := by
 obtain ⟨K, hK⟩ := read_ev (gi G) (by rw [gi_length]; have := hG.most; omega)
 have hk := hK K (Nat.le_refl _)
 rw [(chk_iff 9 (by omega) _).2 ⟨G, rfl, hG⟩] at hk
 have := width_read.calls K (fun k_ => k_ < w.heap.size) A0 c0 (gi G) (gi G) true w (Kd.V_mk hc0 (Kd.F_below (Kd.C_F (Kd.heap_int .i64) hr0) (Below.refl _ _))) hk
 refine this.mono ?_
 rintro e w' ⟨v, rfl, hv, hb⟩
 obtain ⟨A1, c1, rfl⟩ := Kd.V_slice hv
 have h2 := Kd.V_reads' hv
 exact ⟨A1, c1, rfl, h2.2.1, h2.2.2, hb⟩
theorem readN_no {g : List Int} (hl : g.length < 2 ^ 60) (hg : chk 9 g = false) (A0 : Option Addr) (c0 : Nat) (w : World) (hr0 : Kd.C (Kd.int .i64) w A0 g.length g) (hc0 : g.length ≤ c0) :
  Calls Tryd.prog 59 #[.slice A0 g.length c0] w fun e w' => ∃ v, e = .returned (.tuple #[v, .bool false]) ∧ Below w.heap.size w w' := by
 obtain ⟨K, hK⟩ := read_ev g hl
 have hk := hK K (Nat.le_refl _)
 rw [hg] at hk
 refine (width_read.calls K (fun k_ => k_ < w.heap.size) A0 c0 g [] false w (Kd.V_mk hc0 (Kd.F_below (Kd.C_F (Kd.heap_int .i64) hr0) (Below.refl _ _))) hk).mono ?_
 rintro e w' ⟨v, rfl, hv, hb⟩
 exact ⟨v, rfl, hb⟩
theorem clone_own (A : Option Addr) (c : Nat) (l : List Int) (h0 : 0 < l.length) (h9 : l.length ≤ 1000) (w : World) (hr : Kd.C (Kd.int .i64) w A l.length l) (hc : l.length ≤ c) :
  Calls Tryd.prog 72 #[.slice A l.length c] w fun e w' => ∃ g cp, e = .returned (.slice (some ⟨g, 0, none⟩) l.length cp) ∧ Kd.R (Kd.int .i64) 3 w' w.heap.size (fun k => k = g) (.slice (some ⟨g, 0, none⟩) l.length cp) l ∧ Below w.heap.size w w' := by
 refine (slices_Clone_int_int.calls A c l l w hr hc (by unfold slices_Clone_int_int.f; simp; omega)).mono ?_
 rintro e w' ⟨v, rfl, hR, hb⟩
 obtain ⟨n, hn⟩ : ∃ n, l.length = n + 1 := ⟨l.length - 1, by omega⟩
 have ho := Kd.own_of_R hR
 rw [hn] at ho
 obtain ⟨g, cp, rfl⟩ := own_succ ho
 rw [← hn] at *
 exact ⟨g, cp, rfl, ⟨fun k hk => by simp [Value.ownBlock] at hk; exact hk.symm, (Kd.R_of_own (ok := fun k => k = g) (Kd.own_of_R hR) (fun k hk => by simp [Value.ownBlock] at hk; exact hk.symm)).2⟩, hb⟩
structure NS (w4 W : World) (gB cB gP cP gO : Nat) (B P : List Int) : Prop where
 rB : Kd.R (Kd.int .i64) 3 W w4.heap.size (fun k => k = gB) (.slice (some ⟨gB, 0, none⟩) B.length cB) B
 rP : Kd.R (Kd.int .i64) 3 W w4.heap.size (fun k => k = gP) (.slice (some ⟨gP, 0, none⟩) P.length cP) P
 blk : W.heap[gO]? = some (.cells #[.slice none 0 0, .slice none 0 0] 53 (0, 0))
 below : Below w4.heap.size w4 W
 ge : w4.heap.size ≤ gO
 nB : gO ≠ gB
 nP : gO ≠ gP
 nBP : gB ≠ gP
section
variable {w4 W w3 w5 : World} {gB cB gP cP gO : Nat} {B P : List Int}
theorem R_new_ge {b g c : Nat} {l : List Int} (h : Kd.R (Kd.int .i64) 3 W b (fun k => k = g) (.slice (some ⟨g, 0, none⟩) l.length c) l) : b ≤ g ∧ g < W.heap.size := ⟨own_base2 (Kd.own_of_R h) g (by simp [Value.ownBlock]), own_lt2 (Kd.own_of_R h) g (by simp [Value.ownBlock])⟩
def nilO : Obj := .cells #[.slice none 0 0, .slice none 0 0] 53 (0, 0)
theorem ns257 (h4 : Below w4.heap.size w4 W) (hR3 : Kd.R (Kd.int .i64) 3 w3 W.heap.size (fun k => k = gB) (.slice (some ⟨gB, 0, none⟩) B.length cB) B) (hb3 : Below W.heap.size W w3) (hR5 : Kd.R (Kd.int .i64) 3 w5 w3.heap.size (fun k => k = gP) (.slice (some ⟨gP, 0, none⟩) P.length cP) P) (hb5 : Below w3.heap.size w3 w5) :
  NS w4 (w5.alloc nilO) gB cB gP cP w5.heap.size B P := by
 have a := R_new_ge hR3; have b := R_new_ge hR5; have c := h4.size; have d := hb3.size; have f := hb5.size
 have hR3' := Kd.R_below hR3 hb5
 exact ⟨Kd.R_lower (Kd.R_alloc hR3' _) (by omega), Kd.R_lower (Kd.R_alloc hR5 _) (by omega), blk_new _ _, below_alloc (below_step (below_step h4 hb3) hb5) _, by omega, by omega, by omega, by omega⟩
theorem ns275 (h4 : Below w4.heap.size w4 W) (hR3 : Kd.R (Kd.int .i64) 3 w3 W.heap.size (fun k => k = gB) (.slice (some ⟨gB, 0, none⟩) B.length cB) B) (hb3 : Below W.heap.size W w3) (hR5 : Kd.R (Kd.int .i64) 3 w5 (w3.alloc nilO).heap.size (fun k => k = gP) (.slice (some ⟨gP, 0, none⟩) P.length cP) P) (hb5 : Below (w3.alloc nilO).heap.size (w3.alloc nilO) w5) :
  NS w4 w5 gB cB gP cP w3.heap.size B P := by
 have a := R_new_ge hR3; have b := R_new_ge hR5; have c := h4.size; have d := hb3.size; have f := hb5.size
 have e : (w3.alloc nilO).heap.size = w3.heap.size + 1 := by simp
 exact ⟨Kd.R_lower (Kd.R_below (Kd.R_alloc hR3 _) hb5) (by omega), Kd.R_lower hR5 (by omega), blk_below (blk_new _ _) hb5, below_step (below_alloc (below_step h4 hb3) _) hb5, by omega, by omega, by omega, by omega⟩
theorem ns725 (h4 : Below w4.heap.size w4 W) (hR3 : Kd.R (Kd.int .i64) 3 w3 (W.alloc nilO).heap.size (fun k => k = gB) (.slice (some ⟨gB, 0, none⟩) B.length cB) B) (hb3 : Below (W.alloc nilO).heap.size (W.alloc nilO) w3) (hR5 : Kd.R (Kd.int .i64) 3 w5 w3.heap.size (fun k => k = gP) (.slice (some ⟨gP, 0, none⟩) P.length cP) P) (hb5 : Below w3.heap.size w3 w5) :
  NS w4 w5 gB cB gP cP W.heap.size B P := by
 have a := R_new_ge hR3; have b := R_new_ge hR5; have c := h4.size; have d := hb3.size; have f := hb5.size
 have e : (W.alloc nilO).heap.size = W.heap.size + 1 := by simp
 exact ⟨Kd.R_lower (Kd.R_below hR3 hb5) (by omega), Kd.R_lower hR5 (by omega), blk_below (blk_below (blk_new _ _) hb3) hb5, below_step (below_step (below_alloc h4 _) hb3) hb5, by omega, by omega, by omega, by omega⟩
theorem two_facts {g : Nat} {t : TypeId} {x0 x1 : Value} (h : W.heap[g]? = some (.cells #[x0, x1] t (0, 0))) (u0 u1 : Value) :
  (W.cell? ⟨g, 0, none⟩ = some x0 ∧ W.frozen? ⟨g, 0, none⟩ = false) ∧ ((W.setCell ⟨g, 0, none⟩ u0).cell? ⟨g, 1, none⟩ = some x1 ∧ (W.setCell ⟨g, 0, none⟩ u0).frozen? ⟨g, 1, none⟩ = false) ∧ (W.cell? ⟨g, 1, none⟩ = some x1 ∧ W.frozen? ⟨g, 1, none⟩ = false) ∧ ((W.setCell ⟨g, 0, none⟩ u0).setCell ⟨g, 1, none⟩ u1).heap[g]? = some (.cells #[u0, u1] t (0, 0)) := by
 have h1 : (W.setCell ⟨g, 0, none⟩ u0).heap[g]? = some (.cells #[u0, x1] t (0, 0)) := blk_put h 0 u0 rfl
 exact ⟨⟨(blk_cell h 0).trans rfl, blk_frozen h 0⟩, ⟨(blk_cell h1 1).trans rfl, blk_frozen h1 1⟩, ⟨(blk_cell h 1).trans rfl, blk_frozen h 1⟩, blk_put h1 1 u1 rfl⟩
theorem NS.ms (h : NS w4 W gB cB gP cP gO B P) : MS w4 ((W.setCell ⟨gO, 0, none⟩ (.slice (some ⟨gB, 0, none⟩) B.length cB)).setCell ⟨gO, 1, none⟩ (.slice (some ⟨gP, 0, none⟩) P.length cP)) gO gB cB gP cP B P :=
 ⟨(two_facts h.blk _ _).2.2.2, Kd.R_far (p := ⟨gO, 1, none⟩) (Kd.R_far (p := ⟨gO, 0, none⟩) h.rB (fun k e => by rw [e]; exact fun e2 => h.nB e2.symm) _) (fun k e => by rw [e]; exact fun e2 => h.nB e2.symm) _, Kd.R_far (p := ⟨gO, 1, none⟩) (Kd.R_far (p := ⟨gO, 0, none⟩) h.rP (fun k e => by rw [e]; exact fun e2 => h.nP e2.symm) _) (fun k e => by rw [e]; exact fun e2 => h.nP e2.symm) _, below_set (below_set h.below h.ge) h.ge, h.ge, h.nB, h.nP, h.nBP⟩
theorem cell_al {a : Addr} {v : Value} (h : W.cell? a = some v) (o : Obj) : (W.alloc o).cell? a = some v := ((below_alloc (Below.refl _ _) o).cell (World.block_lt_of_cell? W _ h)).trans h
theorem cell_be {a : Addr} {v : Value} (h : W.cell? a = some v) (hb : Below W.heap.size W w3) : w3.cell? a = some v := (hb.cell (World.block_lt_of_cell? W _ h)).trans h
end
set_option maxHeartbeats 8000000 in
set_option maxRecDepth 100000 in
theorem merge_none {G : List Nat} (hG : Gr 9 G) (w0 W : World) (xB gB cB gP cP : Nat) (B P : List Int) (hT : TD G B P) (hS : MS w0 W xB gB cB gP cP B P) (hR : pickM B P = none) :
  Calls Tryd.prog 79 #[.pointer (some ⟨xB, 0, none⟩)] W fun e w' => e = .returned (.bool false) ∧ MS w0 w' xB gB cB gP cP B P := by
 refine (merge_calls hG w0 W xB gB cB gP cP B P hT hS none hR).mono ?_
 rintro e w' (⟨_, h⟩ | ⟨i, p, h, _⟩)
 ·exact h
 ·cases h
theorem merge_some {G : List Nat} (hG : Gr 9 G) (w0 W : World) (xB gB cB gP cP : Nat) (B P : List Int) (hT : TD G B P) (hS : MS w0 W xB gB cB gP cP B P) (i : Nat) (hR : pickM B P = some i) :
  Calls Tryd.prog 79 #[.pointer (some ⟨xB, 0, none⟩)] W fun e w' => e = .returned (.bool true) ∧ MS w0 w' xB gB cB gP cP (mergeB B i (rd P (i : Int)).toNat) (mergeP P i (rd P (i : Int)).toNat) := by
 refine (merge_calls hG w0 W xB gB cB gP cP B P hT hS (some i) hR).mono ?_
 rintro e w' (⟨h, _⟩ | ⟨j, p, h, h1, h2, h3⟩)
 ·cases h
 ·obtain rfl := Option.some.inj h
  rw [h1, Int.toNat_natCast]
  exact ⟨h2, h3⟩
set_option maxHeartbeats 8000000 in
set_option maxRecDepth 100000 in
theorem narrow_no (Ag : Option Addr) (cg : Nat) (g : List Int) (A0 : Option Addr) (c0 : Nat) (B : List Int) (A1 : Option Addr) (c1 : Nat) (P : List Int) (w : World) (hrg : Kd.C (Kd.int .i64) w Ag g.length g) (hcg : g.length ≤ cg) (hl : g.length < 1000) (hchk : chk 9 g = false) :
  Calls Tryd.prog 43 #[.slice Ag g.length cg, .agg #[.slice A0 B.length c0, .slice A1 P.length c1]] w fun e w' => e = .returned (.tuple #[.agg #[.slice none 0 0, .slice none 0 0], .int .i64 2]) ∧ Below w.heap.size w w' := by
 have HRD : Aside0 (∀ W, Below w.heap.size w W → Calls Tryd.prog 59 #[.slice Ag g.length cg] W fun e w' => ∃ v, e = .returned (.tuple #[v, .bool false]) ∧ Below W.heap.size W w') := ⟨fun W hW => readN_no (by omega) hchk Ag cg W (Kd.C_below hrg hW) hcg⟩
 have hu53 := Tryd.underlying53
 clear hrg hcg hl hchk
 go_enter Tryd.func43, Tryd.ntmps43
 go_wp2_with (first | ((with_reducible refine gate_dst (N := 3) rfl ?_); refine box_event ?hg (N := 3) ?hd (cs := #[.slice A0 B.length c0, .slice A1 P.length c1]) (t := 53) ?hr ?_; (case hd => rfl); (case hg => rfl); (case hr => first | (go_simp; done) | (go_simp; rfl)); intro xB hxB w1 hbox hb1; have HX := Aside0.mk hbox; have HB1 := Aside0.mk hb1; clear hbox hb1 hxB) | ((with_reducible refine gate_dst (N := 4) rfl ?_); refine box_event ?hg (N := 4) ?hd (cs := #[.slice none 0 0, .slice none 0 0]) (t := 53) ?hr ?_; (case hd => rfl); (case hg => rfl); (case hr => first | (go_simp; done) | (go_simp; rfl)); intro rB hrB w2 hbox hb2; have HR := Aside0.mk hbox; have HB2 := Aside0.mk (below_step HB1.out hb2); have HGR : Aside0 (w.heap.size ≤ rB) := ⟨by rw [hrB]; exact HB1.out.size⟩; clear hbox hb2 hrB) | (go_at_call 59; refine (HRD.out _ HB2.out).mono ?_; rintro e w3 ⟨v, rfl, hb3⟩; have HR3 := Aside0.mk (blk_below HR.out hb3); have HB3 := Aside0.mk (below_step HB2.out hb3); obtain ⟨⟨e1, e2⟩, ⟨e3, e4⟩, ⟨e5, e6⟩, e7⟩ := two_facts HR3.out (.slice none 0 0) (.slice none 0 0); have E7 := Aside0.mk e7; clear hb3 e7))
 refine bodyPost_ret (results_ct rfl _ _ rB 53 #[.slice none 0 0, .slice none 0 0] (0, 0) _ rfl E7.out Tryd.underlying53 rfl (by kernel_rfl)) rfl ?_
 exact ⟨rfl, below_set (below_set HB3.out HGR.out) HGR.out⟩
set_option maxHeartbeats 8000000 in
set_option maxRecDepth 100000 in
theorem narrow_bad {G : List Nat} (hG : Gr 9 G) (Ag : Option Addr) (cg : Nat) (A0 : Option Addr) (c0 : Nat) (B : List Int) (A1 : Option Addr) (c1 : Nat) (P : List Int) (w : World) (hGL : GL w) (hrg : Kd.C (Kd.int .i64) w Ag (gi G).length (gi G)) (hcg : (gi G).length ≤ cg) (hr0 : Kd.C (Kd.int .i64) w A0 B.length B) (hc0 : B.length ≤ c0) (hr1 : Kd.C (Kd.int .i64) w A1 P.length P) (hc1 : P.length ≤ c1) (hbt : treeB G B P = false) :
  Calls Tryd.prog 43 #[.slice Ag (gi G).length cg, .agg #[.slice A0 B.length c0, .slice A1 P.length c1]] w fun e w' => e = .returned (.tuple #[.agg #[.slice none 0 0, .slice none 0 0], .int .i64 2]) ∧ Below w.heap.size w w' := by
 have HRD : Aside0 (∀ W, Below w.heap.size w W → Calls Tryd.prog 59 #[.slice Ag (gi G).length cg] W fun e w' => ∃ A1 c1, e = .returned (.tuple #[.slice A1 (gi G).length c1, .bool true]) ∧ (gi G).length ≤ c1 ∧ Kd.C (Kd.int .i64) w' A1 (gi G).length (gi G) ∧ Below W.heap.size W w') := ⟨fun W hW => readN_yes hG Ag cg W (Kd.C_below hrg hW) hcg⟩
 have HTR : Aside0 (∀ W A2 c2, Below w.heap.size w W → (gi G).length ≤ c2 → Kd.C (Kd.int .i64) W A2 (gi G).length (gi G) → Calls Tryd.prog 78 #[.slice A2 (gi G).length c2, .agg #[.slice A0 B.length c0, .slice A1 P.length c1]] W fun e w' => e = .returned (.bool false) ∧ Below W.heap.size W w') := ⟨fun W A2 c2 hW hc hC => width_town_tree.calls A2 c2 (gi G) A0 c0 B A1 c1 P false W (GL_below hGL hW) hC hc (Kd.C_below hr0 hW) hc0 (Kd.C_below hr1 hW) hc1 (by unfold width_town_tree.f; rw [if_pos ((chk_iff 9 (by omega) _).2 ⟨G, rfl, hG⟩), gi_toNatN, hbt])⟩
 have hu53 := Tryd.underlying53
 clear hrg hcg hr0 hr1 hbt hGL
 generalize (gi G).length = n at *
 generalize gi G = g at *
 go_enter Tryd.func43, Tryd.ntmps43
 go_wp2_with (first | ((with_reducible refine gate_dst (N := 3) rfl ?_); refine box_event ?hg (N := 3) ?hd (cs := #[.slice A0 B.length c0, .slice A1 P.length c1]) (t := 53) ?hr ?_; (case hd => rfl); (case hg => rfl); (case hr => first | (go_simp; done) | (go_simp; rfl)); intro xB hxB w1 hbox hb1; have HX := Aside0.mk hbox; have HB1 := Aside0.mk hb1; clear hbox hb1 hxB) | ((with_reducible refine gate_dst (N := 4) rfl ?_); refine box_event ?hg (N := 4) ?hd (cs := #[.slice none 0 0, .slice none 0 0]) (t := 53) ?hr ?_; (case hd => rfl); (case hg => rfl); (case hr => first | (go_simp; done) | (go_simp; rfl)); intro rB hrB w2 hbox hb2; have HR := Aside0.mk hbox; have HX2 := Aside0.mk (blk_below HX.out hb2); have HB2 := Aside0.mk (below_step HB1.out hb2); have HGR : Aside0 (w.heap.size ≤ rB) := ⟨by rw [hrB]; exact HB1.out.size⟩; clear hbox hb2 hrB) | (go_at_call 59; refine (HRD.out _ HB2.out).mono ?_; rintro e w3 ⟨A2, c2, rfl, hc2, hC2, hb3⟩; have HR3 := Aside0.mk (blk_below HR.out hb3); have HX3 := Aside0.mk (blk_below HX2.out hb3); have HB3 := Aside0.mk (below_step HB2.out hb3); have HT3 := Aside0.mk (HTR.out w3 A2 c2 HB3.out hc2 hC2); have x0 : w3.cell? ⟨xB, 0, none⟩ = some (.slice A0 B.length c0) := (blk_cell HX3.out 0).trans rfl; have x1 : w3.cell? ⟨xB, 1, none⟩ = some (.slice A1 P.length c1) := (blk_cell HX3.out 1).trans rfl; clear hb3 hc2 hC2) | (go_at_call 78; refine HT3.out.mono ?_; rintro e w4 ⟨rfl, hb4⟩; have HB4 := Aside0.mk (below_step HB3.out hb4); obtain ⟨⟨e1, e2⟩, ⟨e3, e4⟩, ⟨e5, e6⟩, e7⟩ := two_facts (blk_below HR3.out hb4) (.slice none 0 0) (.slice none 0 0); have E7 := Aside0.mk e7; clear hb4 e7))
 refine bodyPost_ret (results_ct rfl _ _ rB 53 #[.slice none 0 0, .slice none 0 0] (0, 0) _ rfl E7.out Tryd.underlying53 rfl (by kernel_rfl)) rfl ?_
 exact ⟨rfl, below_set (below_set HB4.out HGR.out) HGR.out⟩
set_option maxHeartbeats 8000000 in
set_option maxRecDepth 100000 in
theorem narrow_yes {G : List Nat} (hG : Gr 9 G) (Ag : Option Addr) (cg : Nat) (A0 : Option Addr) (c0 : Nat) (B : List Int) (A1 : Option Addr) (c1 : Nat) (P : List Int) (w : World) (hGL : GL w) (hrg : Kd.C (Kd.int .i64) w Ag (gi G).length (gi G)) (hcg : (gi G).length ≤ cg) (hr0 : Kd.C (Kd.int .i64) w A0 B.length B) (hc0 : B.length ≤ c0) (hr1 : Kd.C (Kd.int .i64) w A1 P.length P) (hc1 : P.length ≤ c1) (hbt : treeB G B P = true) (hT : TD G B P) (r1 r2 : List Int) (hres : narN B.length B P = (r1, r2)) :
  Calls Tryd.prog 43 #[.slice Ag (gi G).length cg, .agg #[.slice A0 B.length c0, .slice A1 P.length c1]] w fun e w' => ∃ v0_ v1_ : Value, e = .returned (.tuple #[.agg #[v0_, v1_], .int .i64 0]) ∧ Kd.R (Kd.int .i64) 3 w' w.heap.size (fun k_ => some k_ ≠ (v1_ : Value).ownBlock) v0_ r1 ∧ Kd.R (Kd.int .i64) 3 w' w.heap.size (fun k_ => some k_ ≠ (v0_ : Value).ownBlock) v1_ r2 ∧ Below w.heap.size w w' := by
 have HRD : Aside0 (∀ W, Below w.heap.size w W → Calls Tryd.prog 59 #[.slice Ag (gi G).length cg] W fun e w' => ∃ A1 c1, e = .returned (.tuple #[.slice A1 (gi G).length c1, .bool true]) ∧ (gi G).length ≤ c1 ∧ Kd.C (Kd.int .i64) w' A1 (gi G).length (gi G) ∧ Below W.heap.size W w') := ⟨fun W hW => readN_yes hG Ag cg W (Kd.C_below hrg hW) hcg⟩
 have HTR : Aside0 (∀ W A2 c2, Below w.heap.size w W → (gi G).length ≤ c2 → Kd.C (Kd.int .i64) W A2 (gi G).length (gi G) → Calls Tryd.prog 78 #[.slice A2 (gi G).length c2, .agg #[.slice A0 B.length c0, .slice A1 P.length c1]] W fun e w' => e = .returned (.bool true) ∧ Below W.heap.size W w') := ⟨fun W A2 c2 hW hc hC => width_town_tree.calls A2 c2 (gi G) A0 c0 B A1 c1 P true W (GL_below hGL hW) hC hc (Kd.C_below hr0 hW) hc0 (Kd.C_below hr1 hW) hc1 (by unfold width_town_tree.f; rw [if_pos ((chk_iff 9 (by omega) _).2 ⟨G, rfl, hG⟩), gi_toNatN, hbt])⟩
 have h30 := hT.most
 have hpl := hT.len
 have hpos := hT.pos
 have CB : Aside0 (∀ W, Below w.heap.size w W → Calls Tryd.prog 72 #[.slice A0 B.length c0] W fun e w' => ∃ g cp, e = .returned (.slice (some ⟨g, 0, none⟩) B.length cp) ∧ Kd.R (Kd.int .i64) 3 w' W.heap.size (fun k => k = g) (.slice (some ⟨g, 0, none⟩) B.length cp) B ∧ Below W.heap.size W w') := ⟨fun W hW => clone_own A0 c0 B (by omega) (by omega) W (Kd.C_below hr0 hW) hc0⟩
 have CP : Aside0 (∀ W, Below w.heap.size w W → Calls Tryd.prog 72 #[.slice A1 P.length c1] W fun e w' => ∃ g cp, e = .returned (.slice (some ⟨g, 0, none⟩) P.length cp) ∧ Kd.R (Kd.int .i64) 3 w' W.heap.size (fun k => k = g) (.slice (some ⟨g, 0, none⟩) P.length cp) P ∧ Below W.heap.size W w') := ⟨fun W hW => clone_own A1 c1 P (by omega) (by omega) W (Kd.C_below hr1 hW) hc1⟩
 have hu53 := Tryd.underlying53
 have HT0 := Aside0.mk hT
 have HRES := Aside0.mk hres
 clear hrg hcg hr0 hr1 hbt hGL hT hres hpl hpos h30
 generalize (gi G).length = n at *
 generalize gi G = g at *
 go_enter Tryd.func43, Tryd.ntmps43
 go_wp2_with (first | ((with_reducible refine gate_dst (N := 3) rfl ?_); refine box_event ?hg (N := 3) ?hd (cs := #[.slice A0 B.length c0, .slice A1 P.length c1]) (t := 53) ?hr ?_; (case hd => rfl); (case hg => rfl); (case hr => first | (go_simp; done) | (go_simp; rfl)); intro xB hxB w1 hbox hb1; have HX := Aside0.mk hbox; have HB1 := Aside0.mk hb1; clear hbox hb1 hxB) | ((with_reducible refine gate_dst (N := 4) rfl ?_); refine box_event ?hg (N := 4) ?hd (cs := #[.slice none 0 0, .slice none 0 0]) (t := 53) ?hr ?_; (case hd => rfl); (case hg => rfl); (case hr => first | (go_simp; done) | (go_simp; rfl)); intro rB hrB w2 hbox hb2; have HR := Aside0.mk hbox; have HX2 := Aside0.mk (blk_below HX.out hb2); have HB2 := Aside0.mk (below_step HB1.out hb2); have HGR : Aside0 (w.heap.size ≤ rB) := ⟨by rw [hrB]; exact HB1.out.size⟩; clear hbox hb2 hrB) | (go_at_call 59; refine (HRD.out _ HB2.out).mono ?_; rintro e w3 ⟨A2, c2, rfl, hc2, hC2, hb3⟩; have HR3 := Aside0.mk (blk_below HR.out hb3); have HX3 := Aside0.mk (blk_below HX2.out hb3); have HB3 := Aside0.mk (below_step HB2.out hb3); have HT3 := Aside0.mk (HTR.out w3 A2 c2 HB3.out hc2 hC2); have x0 : w3.cell? ⟨xB, 0, none⟩ = some (.slice A0 B.length c0) := (blk_cell HX3.out 0).trans rfl; have x1 : w3.cell? ⟨xB, 1, none⟩ = some (.slice A1 P.length c1) := (blk_cell HX3.out 1).trans rfl; clear hb3 hc2 hC2) | (go_at_call 78; refine HT3.out.mono ?_; rintro e w4 ⟨rfl, hb4⟩; have HB4 := Aside0.mk (below_step HB3.out hb4); have HR4 := Aside0.mk (blk_below HR3.out hb4); have HX4 := Aside0.mk (blk_below HX3.out hb4); clear hb4))
 clear HRD HTR HT3 HB1 HB2 HB3 HX HX2 HX3 HR HR3 x0 x1
 have f0d : w4.drew.cell? ⟨xB, 0, none⟩ = some (.slice A0 B.length c0) := (blk_cell HX4.out 0).trans rfl
 have f1d : w4.drew.cell? ⟨xB, 1, none⟩ = some (.slice A1 P.length c1) := (blk_cell HX4.out 1).trans rfl
 have fbd : Below w4.heap.size w4 w4.drew := below_drew (Below.refl _ _)
 refine start_ (n := 9) (S := fun w' => w'.cell? ⟨xB, 0, none⟩ = some (.slice A0 B.length c0) ∧ w'.cell? ⟨xB, 1, none⟩ = some (.slice A1 P.length c1) ∧ Below w4.heap.size w4 w') (ds := [8]) (Qbz 9 0) (by kernel_rfl) rfl rfl ⟨f0d, f1d, fbd⟩ (fun hHeld => ?_)
 refine Qpu 0 23 ?_ ?_ (Qbz 9 1) (by kernel_rfl) ?_
 refine Qpu 3 26 ?_ ?_ (Qbz 9 9) (by kernel_rfl) ?_
 refine take_ (i := 1) (N := some 24) (v := ?_) (a' := ?_) (Qbz 9 11) rfl rfl (by kernel_rfl) (fun _ _ _ h => h) (Or.inl ⟨by rfl, ?_⟩) hHeld ?_ ?_;rotate_left;(·rintro w' ⟨s0, s1, s2⟩;go_simp;with_reducible rfl);rotate_left;(·simp only [Act.put, Qp1, Qp2, Qp3, i64_w, i32_w];rfl)
 refine take_ (i := 4) (N := some 27) (v := ?_) (a' := ?_) (Qbz 9 27) rfl rfl (by kernel_rfl) (fun _ _ _ h => h) (Or.inl ⟨by rfl, ?_⟩) hHeld ?_ ?_;rotate_left;(·rintro w' ⟨s0, s1, s2⟩;go_simp;with_reducible rfl);rotate_left;(·simp only [Act.put, Qp1, Qp2, Qp3, i64_w, i32_w];rfl)
 refine join_ (σ := Nat × Nat × Nat × Nat × Nat) 1 (Qbz 9 255) (fun s => [(25, .slice (some ⟨s.1, 0, none⟩) B.length s.2.1), (28, .slice (some ⟨s.2.2.1, 0, none⟩) P.length s.2.2.2.1), (29, .agg #[.slice (some ⟨s.1, 0, none⟩) B.length s.2.1, .slice (some ⟨s.2.2.1, 0, none⟩) P.length s.2.2.2.1]), (8, .pointer (some ⟨s.2.2.2.2, 0, none⟩))]) (fun s w' => NS w4 w' s.1 s.2.1 s.2.2.1 s.2.2.2.1 s.2.2.2.2 B P ∧ (w'.cell? ⟨xB, 0, none⟩ = some (.slice A0 B.length c0) ∧ w'.cell? ⟨xB, 1, none⟩ = some (.slice A1 P.length c1) ∧ Below w4.heap.size w4 w')) ?_ ?_
 rotate_left
 ·intro hCont
  refine two_ (i := 2) (j := 7) (Ni := some 25) (Nj := some 8) (Qbz 9 31) (Qbz 9 155) rfl rfl rfl rfl (by kernel_rfl) (by decide) (by decide) (fun K hK => ?_) (fun K hK => ?_)
  ·skip
   refine goes_ Tryd.func72 (by kernel_rfl) rfl #[.slice A0 B.length c0] (by rfl) rfl rfl (by simp only [List.map_toArray, List.map_cons, List.map_nil]; rfl) ?_
   with_reducible refine (CB.out _ (below_step HB4.out hHeld.2.2)).mono ?_
   rintro e w5 ⟨gB, cB, rfl, hR5, hb5⟩
   refine ⟨_, rfl, ?_⟩
   refine hK.out _ _ ⟨cell_be hHeld.1 hb5, cell_be hHeld.2.1 hb5, below_step hHeld.2.2 hb5⟩ (fun hHeld => ?_)
   clear hK K
   refine norm_ (a' := ?_) ?_ ?_
   rotate_left
   ·show Act.put _ (some 25) _ = _
    simp only [Act.put, Qp1, Qp2, Qp3, i64_w, i32_w]
    rfl
   refine two_ (i := 5) (j := 7) (Ni := some 28) (Nj := some 8) (Qbz 9 63) (Qbz 9 159) rfl rfl rfl rfl (by kernel_rfl) (by decide) (by decide) (fun K hK => ?_) (fun K hK => ?_)
   ·skip
    refine goes_ Tryd.func72 (by kernel_rfl) rfl #[.slice A1 P.length c1] (by rfl) rfl rfl (by simp only [List.map_toArray, List.map_cons, List.map_nil]; rfl) ?_
    with_reducible refine (CP.out _ (below_step HB4.out hHeld.2.2)).mono ?_
    rintro e w6 ⟨gP, cP, rfl, hR6, hb6⟩
    refine ⟨_, rfl, ?_⟩
    refine hK.out _ _ ⟨cell_be hHeld.1 hb6, cell_be hHeld.2.1 hb6, below_step hHeld.2.2 hb6⟩ (fun hHeld => ?_)
    clear hK K
    refine norm_ (a' := ?_) ?_ ?_
    rotate_left
    ·show Act.put _ (some 28) _ = _
     simp only [Act.put, Qp1, Qp2, Qp3, i64_w, i32_w]
     rfl
    refine Qpu 6 29 ?_ ?_ (Qbz 9 127) (by kernel_rfl) ?_
    refine one_ (i := 7) (N := some 8) (Qbz 9 255) rfl rfl (by kernel_rfl) (by decide) (fun K hK => ?_)
    refine value_ (w1 := ?_) (v := ?_) (by rfl) rfl ?_ ?_
    rotate_left 2
    ·go_simp
     constructor
     ·rfl
     ·rfl
    refine hK.out _ _ ⟨cell_al hHeld.1 nilO, cell_al hHeld.2.1 nilO, below_alloc hHeld.2.2 nilO⟩ (fun hHeld => ?_)
    clear hK K
    refine norm_ (a' := ?_) ?_ ?_
    rotate_left
    ·show Act.put _ (some 8) _ = _
     simp only [Act.put, Qp1, Qp2, Qp3, i64_w, i32_w]
     rfl
    exact norm_ (by simp only [putAll, Act.put, List.setIfInBounds_toArray, List.set_cons_zero, List.set_cons_succ]) (hCont (gB, cB, gP, cP, w6.heap.size) _ ⟨ns257 (W := w4.drew) fbd hR5 hb5 hR6 hb6, hHeld⟩)
   ·skip
    refine value_ (w1 := ?_) (v := ?_) (by rfl) rfl ?_ ?_
    rotate_left 2
    ·go_simp
     constructor
     ·rfl
     ·rfl
    refine hK.out _ _ ⟨cell_al hHeld.1 nilO, cell_al hHeld.2.1 nilO, below_alloc hHeld.2.2 nilO⟩ (fun hHeld => ?_)
    clear hK K
    refine norm_ (a' := ?_) ?_ ?_
    rotate_left
    ·show Act.put _ (some 8) _ = _
     simp only [Act.put, Qp1, Qp2, Qp3, i64_w, i32_w]
     rfl
    refine one_ (i := 5) (N := some 28) (Qbz 9 191) rfl rfl (by kernel_rfl) (by decide) (fun K hK => ?_)
    refine goes_ Tryd.func72 (by kernel_rfl) rfl #[.slice A1 P.length c1] (by rfl) rfl rfl (by simp only [List.map_toArray, List.map_cons, List.map_nil]; rfl) ?_
    with_reducible refine (CP.out _ (below_step HB4.out hHeld.2.2)).mono ?_
    rintro e w6 ⟨gP, cP, rfl, hR6, hb6⟩
    refine ⟨_, rfl, ?_⟩
    refine hK.out _ _ ⟨cell_be hHeld.1 hb6, cell_be hHeld.2.1 hb6, below_step hHeld.2.2 hb6⟩ (fun hHeld => ?_)
    clear hK K
    refine norm_ (a' := ?_) ?_ ?_
    rotate_left
    ·show Act.put _ (some 28) _ = _
     simp only [Act.put, Qp1, Qp2, Qp3, i64_w, i32_w]
     rfl
    refine Qpu 6 29 ?_ ?_ (Qbz 9 255) (by kernel_rfl) ?_
    exact norm_ (by simp only [putAll, Act.put, List.setIfInBounds_toArray, List.set_cons_zero, List.set_cons_succ]) (hCont (gB, cB, gP, cP, w5.heap.size) _ ⟨ns275 (W := w4.drew) fbd hR5 hb5 hR6 hb6, hHeld⟩)
  ·skip
   refine value_ (w1 := ?_) (v := ?_) (by rfl) rfl ?_ ?_
   rotate_left 2
   ·go_simp
    constructor
    ·rfl
    ·rfl
   refine hK.out _ _ ⟨cell_al hHeld.1 nilO, cell_al hHeld.2.1 nilO, below_alloc hHeld.2.2 nilO⟩ (fun hHeld => ?_)
   clear hK K
   refine norm_ (a' := ?_) ?_ ?_
   rotate_left
   ·show Act.put _ (some 8) _ = _
    simp only [Act.put, Qp1, Qp2, Qp3, i64_w, i32_w]
    rfl
   refine one_ (i := 2) (N := some 25) (Qbz 9 159) rfl rfl (by kernel_rfl) (by decide) (fun K hK => ?_)
   refine goes_ Tryd.func72 (by kernel_rfl) rfl #[.slice A0 B.length c0] (by rfl) rfl rfl (by simp only [List.map_toArray, List.map_cons, List.map_nil]; rfl) ?_
   with_reducible refine (CB.out _ (below_step HB4.out hHeld.2.2)).mono ?_
   rintro e w5 ⟨gB, cB, rfl, hR5, hb5⟩
   refine ⟨_, rfl, ?_⟩
   refine hK.out _ _ ⟨cell_be hHeld.1 hb5, cell_be hHeld.2.1 hb5, below_step hHeld.2.2 hb5⟩ (fun hHeld => ?_)
   clear hK K
   refine norm_ (a' := ?_) ?_ ?_
   rotate_left
   ·show Act.put _ (some 25) _ = _
    simp only [Act.put, Qp1, Qp2, Qp3, i64_w, i32_w]
    rfl
   refine one_ (i := 5) (N := some 28) (Qbz 9 191) rfl rfl (by kernel_rfl) (by decide) (fun K hK => ?_)
   refine goes_ Tryd.func72 (by kernel_rfl) rfl #[.slice A1 P.length c1] (by rfl) rfl rfl (by simp only [List.map_toArray, List.map_cons, List.map_nil]; rfl) ?_
   with_reducible refine (CP.out _ (below_step HB4.out hHeld.2.2)).mono ?_
   rintro e w6 ⟨gP, cP, rfl, hR6, hb6⟩
   refine ⟨_, rfl, ?_⟩
   refine hK.out _ _ ⟨cell_be hHeld.1 hb6, cell_be hHeld.2.1 hb6, below_step hHeld.2.2 hb6⟩ (fun hHeld => ?_)
   clear hK K
   refine norm_ (a' := ?_) ?_ ?_
   rotate_left
   ·show Act.put _ (some 28) _ = _
    simp only [Act.put, Qp1, Qp2, Qp3, i64_w, i32_w]
    rfl
   refine Qpu 6 29 ?_ ?_ (Qbz 9 255) (by kernel_rfl) ?_
   exact norm_ (by simp only [putAll, Act.put, List.setIfInBounds_toArray, List.set_cons_zero, List.set_cons_succ]) (hCont (gB, cB, gP, cP, w4.heap.size) _ ⟨ns725 (W := w4.drew) fbd hR5 hb5 hR6 hb6, hHeld⟩)
 rintro ⟨gB, cB, gP, cP, gO⟩ w7 ⟨HNS0, hHeld⟩
 have HNS := Aside0.mk HNS0
 clear HNS0
 obtain ⟨⟨e1, e2⟩, ⟨e3, e4⟩, ⟨e5, e6⟩, e7⟩ := two_facts HNS.out.blk (.slice (some ⟨gB, 0, none⟩) B.length cB) (.slice (some ⟨gP, 0, none⟩) P.length cP)
 refine norm_ (a' := ?_) ?_ ?_
 rotate_left
 ·simp only [putAll, Act.put, List.setIfInBounds_toArray, List.set_cons_zero, List.set_cons_succ]
  rfl
 refine last_ (i := 8) (N := none) (Qbz 9 511) rfl rfl (by kernel_rfl) (by decide) (fun K hK => ?_)
 refine skip_ (w1 := ?_) (by rfl) rfl ?_ ?_
 rotate_left
 ·go_simp
  rfl
 refine hK.out _ _ ?_
 clear hK K
 refine done_ (by kernel_rfl) ?_
 have HMS := Aside0.mk HNS.out.ms
 generalize ((w7.setCell ⟨gO, 0, none⟩ (.slice (some ⟨gB, 0, none⟩) B.length cB)).setCell ⟨gO, 1, none⟩ (.slice (some ⟨gP, 0, none⟩) P.length cP)) = w8 at *
 clear HNS hHeld e1 e2 e3 e4 e5 e6 e7 CB CP f0d f1d fbd
 go_wp2
 go_loopg [30] B.length (fun kq v30 w' => ∃ B' P' : List Int, B'.length = kq ∧ Aside0 (TD G B' P') ∧ Aside0 (narN kq B' P' = (r1, r2)) ∧ Aside0 (MS w4 w' gO gB cB gP cP B' P'))
 case atStart => exact ⟨B, P, rfl, HT0, HRES, HMS⟩
 case round =>
  clear HMS HT0 HRES
  obtain ⟨B', P', hk, HT, HN, HM⟩ := hrel
  have hpos := HT.out.pos
  cases gk with
  | zero => omega
  | succ gk' =>
  cases hp : pickM B' P' with
  | none =>
   have HC := Aside0.mk (merge_none hG w4 wr gO gB cB gP cP B' P' HT.out HM.out hp)
   have hn := HN.out
   rw [narN, hp] at hn
   injection hn with hn1 hn2
   subst hn1 hn2
   clear HN hp HM hk hpos
   go_wp2_with (go_at_call 79; refine HC.out.mono ?_; rintro e w9 ⟨rfl, hm⟩; have HM9 := Aside0.mk hm; have x0 := hm.xb; have x1 := hm.xp; have HR9 := Aside0.mk ((hm.below.block rB (blk_lt HR4.out)).trans HR4.out); obtain ⟨⟨e1, e2⟩, ⟨e3, e4⟩, ⟨e5, e6⟩, e7⟩ := two_facts HR9.out (.slice (some ⟨gB, 0, none⟩) B'.length cB) (.slice (some ⟨gP, 0, none⟩) P'.length cP); have E7 := Aside0.mk e7; clear hm e7)
   refine bodyPost_ret (results_ct rfl _ _ rB 53 #[.slice (some ⟨gB, 0, none⟩) B'.length cB, .slice (some ⟨gP, 0, none⟩) P'.length cP] (0, 0) _ rfl E7.out Tryd.underlying53 rfl (by kernel_rfl)) rfl ?_
   have hlt := blk_lt HR4.out
   have hB := HM9.out.gBge
   have hP := HM9.out.gPge
   have hBP := HM9.out.nBP
   have hws := HB4.out.size
   refine ⟨_, _, rfl, ?_, ?_, below_set (below_set (below_step HB4.out HM9.out.below) HGR.out) HGR.out⟩
   ·exact Kd.R_mono (Kd.R_lower (Kd.R_far (p := ⟨rB, 1, none⟩) (Kd.R_far (p := ⟨rB, 0, none⟩) HM9.out.rB (fun k e => by rw [e]; show gB ≠ rB; omega) _) (fun k e => by rw [e]; show gB ≠ rB; omega) _) hws) (fun k e => by rw [e]; simp [Value.ownBlock]; exact hBP)
   ·exact Kd.R_mono (Kd.R_lower (Kd.R_far (p := ⟨rB, 1, none⟩) (Kd.R_far (p := ⟨rB, 0, none⟩) HM9.out.rP (fun k e => by rw [e]; show gP ≠ rB; omega) _) (fun k e => by rw [e]; show gP ≠ rB; omega) _) hws) (fun k e => by rw [e]; simp [Value.ownBlock]; exact fun e2 => hBP e2.symm)
  | some i =>
   have HC := Aside0.mk (merge_some hG w4 wr gO gB cB gP cP B' P' HT.out HM.out i hp)
   obtain ⟨p, hq, hi, hpn, _⟩ := merge_bags HT.out hp
   have HT2 := Aside0.mk (merge_td hG HT.out hi hq)
   have hml := mergeB_len (B := B') (p := p) hi
   have hn := HN.out
   rw [narN, hp] at hn
   simp only [hq, Int.toNat_natCast] at hn
   have HN2 := Aside0.mk hn
   rw [hq, Int.toNat_natCast] at HC
   clear HN hp HM hn hq
   go_wp2_with (go_at_call 79; refine HC.out.mono ?_; rintro e w9 ⟨rfl, hm⟩; have HM9 := Aside0.mk hm; clear hm)
   go_roundg gk'
   case measure => omega
   case rel => exact ⟨mergeB B' i p, mergeP P' i p, by omega, HT2, HN2, HM9⟩
theorem width_Narrow.calls (Ag : Option Addr) (cg : Nat) (g : List Int) (A0 : Option Addr) (c0 : Nat) (B : List Int) (A1 : Option Addr) (c1 : Nat) (P : List Int) (r1 r2 : List Int) (r3 : Int) (w : World) (hGL : GL w) (hrg : Kd.C (Kd.int .i64) w Ag g.length g) (hcg : g.length ≤ cg) (hr0 : Kd.C (Kd.int .i64) w A0 B.length B) (hc0 : B.length ≤ c0) (hr1 : Kd.C (Kd.int .i64) w A1 P.length P) (hc1 : P.length ≤ c1) (h : width_Narrow.f g B P = some (r1, r2, r3)) :
  Calls Tryd.prog 43 #[.slice Ag g.length cg, .agg #[.slice A0 B.length c0, .slice A1 P.length c1]] w fun e w' => ∃ v0_ v1_ : Value, e = .returned (.tuple #[.agg #[v0_, v1_], .int .i64 r3]) ∧ Kd.R (Kd.int .i64) 3 w' w.heap.size (fun k_ => some k_ ≠ (v1_ : Value).ownBlock) v0_ r1 ∧ Kd.R (Kd.int .i64) 3 w' w.heap.size (fun k_ => some k_ ≠ (v0_ : Value).ownBlock) v1_ r2 ∧ Below w.heap.size w w' := by
 unfold width_Narrow.f at h
 have no : r1 = [] ∧ r2 = [] ∧ r3 = 2 → Calls Tryd.prog 43 #[.slice Ag g.length cg, .agg #[.slice A0 B.length c0, .slice A1 P.length c1]] w (fun e w' => e = .returned (.tuple #[.agg #[.slice none 0 0, .slice none 0 0], .int .i64 2]) ∧ Below w.heap.size w w') → Calls Tryd.prog 43 #[.slice Ag g.length cg, .agg #[.slice A0 B.length c0, .slice A1 P.length c1]] w fun e w' => ∃ v0_ v1_ : Value, e = .returned (.tuple #[.agg #[v0_, v1_], .int .i64 r3]) ∧ Kd.R (Kd.int .i64) 3 w' w.heap.size (fun k_ => some k_ ≠ (v1_ : Value).ownBlock) v0_ r1 ∧ Kd.R (Kd.int .i64) 3 w' w.heap.size (fun k_ => some k_ ≠ (v0_ : Value).ownBlock) v1_ r2 ∧ Below w.heap.size w w' := by
  rintro ⟨rfl, rfl, rfl⟩ hc
  refine hc.mono ?_
  rintro e w' ⟨rfl, hb⟩
  exact ⟨_, _, rfl, Kd.R_nil _ _ _ _ _, Kd.R_nil _ _ _ _ _, hb⟩
 by_cases hchk : chk 9 g = true
 ·rw [if_pos hchk] at h
  obtain ⟨G, rfl, hG⟩ := (chk_iff 9 (by omega) _).1 hchk
  rw [gi_toNatN] at h
  by_cases hbt : treeB G B P = true
  ·rw [if_pos hbt] at h
   have h1 := Option.some.inj h
   simp only [Prod.mk.injEq] at h1
   obtain ⟨h1, h2, h3⟩ := h1
   subst h3
   exact narrow_yes hG Ag cg A0 c0 B A1 c1 P w hGL hrg hcg hr0 hc0 hr1 hc1 hbt ((treeB_iff hG B P).1 hbt) r1 r2 (by rw [← h1, ← h2])
  ·rw [if_neg hbt] at h
   have h1 := Option.some.inj h
   simp only [Prod.mk.injEq] at h1
   obtain ⟨h1, h2, h3⟩ := h1
   exact no ⟨h1.symm, h2.symm, h3.symm⟩ (narrow_bad hG Ag cg A0 c0 B A1 c1 P w hGL hrg hcg hr0 hc0 hr1 hc1 (by simpa using hbt))
 ·rw [if_neg hchk] at h
  by_cases hl : g.length < 1000
  ·rw [if_pos hl] at h
   have h1 := Option.some.inj h
   simp only [Prod.mk.injEq] at h1
   obtain ⟨h1, h2, h3⟩ := h1
   exact no ⟨h1.symm, h2.symm, h3.symm⟩ (narrow_no Ag cg g A0 c0 B A1 c1 P w hrg hcg hl (by simpa using hchk))
  ·rw [if_neg hl] at h
   cases h
end Go.Proofs.YtoffehihicabcaaDoor.X
end
section
namespace Go.Proofs.YtoffehihicabcaaDoor.X
open Go.RowKit YtoffehihicabcaaDoorW.PrintWords YtoffehihicabcaaDoorW.PrintLast YtoffehihicabcaaDoorW.PrintMore YtoffehihicabcaaDoor.T
def RestL (G : List Nat) (gone : Nat) (l : List Nat) : Prop := l.Nodup ∧ ∀ u, u ∈ l ↔ bset (lft G gone) u
theorem RestL.tail {G : List Nat} {gone v : Nat} {l : List Nat} (h : RestL G gone (v :: l)) : RestL G (gone ||| 2 ^ v) l := by
 obtain ⟨h1, h2⟩ := h
 rw [List.nodup_cons] at h1
 refine ⟨h1.2, fun u => ?_⟩
 rw [lft_or, diff_bset, two_pow_bit, ← h2 u, List.mem_cons]
 constructor
 ·intro hu; exact ⟨.inr hu, fun e => h1.1 (e ▸ hu)⟩
 ·rintro ⟨rfl | hu, hne⟩
  ·exact absurd rfl hne
  ·exact hu
theorem alongN_ge (G : List Nat) : ∀ (l : List Nat) (gone o : Nat), o ≤ alongN G l gone o
 | [], gone, o => Nat.le_refl _
 | v :: l, gone, o => by
  rw [alongN]
  have := alongN_ge G l (gone ||| 2 ^ v) (max o (dg G gone v))
  omega
section
variable {G : List Nat} (hn : G.length ≤ 9)
include hn
theorem can_of_along {m : Nat} : ∀ (l : List Nat) (gone o : Nat), RestL G gone l → gone < 2 ^ G.length → alongN G l gone o ≤ m → canB G m gone = true
 | [], gone, o, h, hg, ha => by
  have : gone = 2 ^ G.length - 1 := Classical.byContradiction fun hne => by
   obtain ⟨v, hv⟩ := some_bit (lft_ne hg hne)
   have := (h.2 v).2 hv
   cases this
  rw [this]; exact canB_all m
 | v :: l, gone, o, h, hg, ha => by
  have hv := (h.2 v).1 List.mem_cons_self
  have hne : gone ≠ 2 ^ G.length - 1 := fun e => by rw [e, lft_all] at hv; simp [bset] at hv
  rw [alongN] at ha
  have h1 := alongN_ge G l (gone ||| 2 ^ v) (max o (dg G gone v))
  exact (canB_true hn hg hne).2 ⟨v, hv, by omega, can_of_along l _ _ h.tail (or_in hg hv) ha⟩
theorem find_next {k gone : Nat} (hg : gone < 2 ^ G.length) (hne : gone ≠ 2 ^ G.length - 1) (hc : canB G k gone = true) : ∃ x, (els (lft G gone) 9).find? (nextP G k gone) = some x := by
 obtain ⟨v, h1, h2, h3⟩ := (canB_true hn hg hne).1 hc
 have hm : v ∈ els (lft G gone) 9 := mem_els.2 ⟨bit_lt (lft_small hn gone) h1, h1⟩
 cases hf : (els (lft G gone) 9).find? (nextP G k gone) with
 | some x => exact ⟨x, rfl⟩
 | none =>
  have := List.find?_eq_none.1 hf v hm
  unfold nextP at this
  rw [h3, decide_eq_true h2] at this
  simp at this
theorem ordD_is {k : Nat} : ∀ d gone, pc (lft G gone) 9 = d → gone < 2 ^ G.length → canB G k gone = true → RestL G gone (ordD G k d gone) ∧ ∀ o, alongN G (ordD G k d gone) gone o ≤ max o k := by
 intro d
 induction d with
 | zero =>
  intro gone hd hg hc
  have : gone = 2 ^ G.length - 1 := Classical.byContradiction fun hne => pc_pos (lft_small hn gone) (lft_ne hg hne) hd
  rw [ordD]
  refine ⟨⟨List.nodup_nil, fun u => ?_⟩, fun o => by rw [alongN]; omega⟩
  rw [this, lft_all]
  simp [bset]
 | succ d ih =>
  intro gone hd hg hc
  have hne : gone ≠ 2 ^ G.length - 1 := fun h => by rw [h, lft_all] at hd; simp [pc] at hd
  obtain ⟨x, hx⟩ := find_next hn hg hne hc
  obtain ⟨h1, h2, h3⟩ := next_find hn hx
  have hpc := pc_lft hn h1
  unfold nextP at h2
  rw [Bool.and_eq_true, decide_eq_true_eq] at h2
  obtain ⟨⟨i1, i2⟩, i3⟩ := ih (gone ||| 2 ^ x) (by omega) (or_in hg h1) h2.2
  rw [ordD, hx]
  refine ⟨⟨?_, fun u => ?_⟩, fun o => ?_⟩
  ·show (x :: ordD G k d (gone ||| 2 ^ x)).Nodup
   refine List.nodup_cons.2 ⟨fun hm => ?_, i1⟩
   have := (i2 x).1 hm
   rw [lft_or, diff_bset, two_pow_bit] at this
   exact this.2 rfl
  ·show u ∈ x :: ordD G k d (gone ||| 2 ^ x) ↔ _
   rw [List.mem_cons, i2 u, lft_or, diff_bset, two_pow_bit]
   constructor
   ·rintro (rfl | h)
    ·exact h1
    ·exact h.1
   ·intro h
    by_cases e : u = x
    ·exact .inl e
    ·exact .inr ⟨h, e⟩
  ·show alongN G (x :: ordD G k d (gone ||| 2 ^ x)) gone o ≤ max o k
   rw [alongN]
   have := i3 (max o (dg G gone x))
   omega
end
theorem ordL_is {G : List Nat} (hG : Gr 9 G) {W : Nat} (hW : IsWidth G W) : (ordL G W).Nodup ∧ (∀ v ∈ ordL G W, v < G.length) ∧ (ordL G W).length = G.length ∧ alongN G (ordL G W) 0 0 = W := by
 have hn := hG.most
 have h2n := Nat.two_pow_pos G.length
 have hc0 : canB G W 0 = true := (canB_zero hn hG).2 ((hW W).1 (Nat.le_refl _))
 obtain ⟨⟨o1, o2⟩, o3⟩ := ordD_is hn (k := W) G.length 0 (lft_zero_pc hn) h2n hc0
 have oin : ∀ v ∈ ordL G W, v < G.length := fun v hv => ((lft_bit G 0 v).1 ((o2 v).1 hv)).1
 have olen : (ordL G W).length = G.length := by
  refine Nat.le_antisymm (by have := nodup_le o1 (m := List.range G.length) fun v hv => List.mem_range.2 (oin v hv); rw [List.length_range] at this; exact this) ?_
  have := nodup_le (List.nodup_range (n := G.length)) (m := ordL G W) fun v hv => (o2 v).2 ((lft_bit G 0 v).2 ⟨List.mem_range.1 hv, by simp [bset]⟩)
  simpa using this
 refine ⟨o1, oin, olen, Nat.le_antisymm (by have := o3 0; unfold ordL; omega) ?_⟩
 have := can_of_along hn (ordL G W) 0 0 ⟨o1, o2⟩ h2n (Nat.le_refl _)
 exact (hW _).2 ((canB_zero hn hG).1 this)
end Go.Proofs.YtoffehihicabcaaDoor.X
end
section
namespace Go.Proofs.YtoffehihicabcaaDoor.X
open Go.RowKit YtoffehihicabcaaDoorW.PrintWords YtoffehihicabcaaDoorW.PrintLast YtoffehihicabcaaDoorW.PrintMore
attribute [local go_sem] max2_int min2_int max_two min_two max_three min_three max_four min_four
noncomputable section
mutual
def lampblackref02_IsBramble.l0 : Nat → List Int → List Int → List Int → Int → Int → Option (Bool)
 | 0, _, _, _, _, _ => none
 | k + 1, x0, x1, x9, x10, x11 => if x11 < x10 then (if 0 ≤ x11 then (if x11 < (x9.length : Int) then (if x11 ≥ 200 then (lampblackref02_IsBramble.j1 k x0 x1 x11 (rd x9 x11) x9 x10 x11 true) else ((lampblackref02_Connected.f k x0 (rd x9 x11)).bind fun t296 => (lampblackref02_IsBramble.j1 k x0 x1 x11 (rd x9 x11) x9 x10 x11 (!t296)))) else (none)) else (none)) else (some (decide ((x1.length : Int) > 0)))
def lampblackref02_IsBramble.j1 : Nat → List Int → List Int → Int → Int → List Int → Int → Int → Bool → Option (Bool)
 | 0, _, _, _, _, _, _, _, _ => none
 | k + 1, x0, x1, x5, x6, x9, x10, x11, x23 => if x23 = true then (some false) else (if 0 ≤ x5 then (if x5 ≤ (x1.length : Int) then (lampblackref02_IsBramble.l1 k x0 x1 x6 x9 x10 x11 (x1.take (x5 : Int).toNat) ((x1.take (x5 : Int).toNat).length : Int) 0) else (none)) else (none))
def lampblackref02_IsBramble.l1 : Nat → List Int → List Int → Int → List Int → Int → Int → List Int → Int → Int → Option (Bool)
 | 0, _, _, _, _, _, _, _, _, _ => none
 | k + 1, x0, x1, x6, x9, x10, x11, x26, x27, x28 => if x28 < x27 then (if 0 ≤ x28 then (if x28 < (x26.length : Int) then ((lampblackref02_Touch.f k x0 x6 (rd x26 x28)).bind fun t299 => (if t299 = true then (lampblackref02_IsBramble.l1 k x0 x1 x6 x9 x10 x11 x26 x27 (wrap64 (x28 + 1))) else (some false))) else (none)) else (none)) else (lampblackref02_IsBramble.l0 k x0 x1 x9 x10 (wrap64 (x11 + 1)))
end
end
noncomputable section
mutual
def lampblackref02_Cover.l0 : Nat → List Int → Int → Int → Int → Option (Int)
 | 0, _, _, _, _ => none
 | k + 1, x1, x5, x16, x17 => if x17 < x16 then ((lampblackref02_Size.f k x17).bind fun t300 => ((lampblackref02_Size.f k x5).bind fun t301 => (lampblackref02_Cover.l1 k x1 x5 x17 (decide (t300 < t301)) x16 x17 x1 (x1.length : Int) 0))) else (some x5)
def lampblackref02_Cover.l1 : Nat → List Int → Int → Int → Bool → Int → Int → List Int → Int → Int → Option (Int)
 | 0, _, _, _, _, _, _, _, _, _ => none
 | k + 1, x1, x5, x6, x7, x16, x17, x25, x26, x27 => if x27 < x26 then (if 0 ≤ x27 then (if x27 < (x25.length : Int) then (if x7 = true then (lampblackref02_Cover.l1 k x1 x5 x6 ((Go.bits .and .i64 (rd x25 x27) x6) != 0) x16 x17 x25 x26 (wrap64 (x27 + 1))) else (lampblackref02_Cover.l1 k x1 x5 x6 false x16 x17 x25 x26 (wrap64 (x27 + 1)))) else (none)) else (none)) else (if x7 = true then (lampblackref02_Cover.l0 k x1 x6 x16 (wrap64 (x17 + 1))) else (lampblackref02_Cover.l0 k x1 x5 x16 (wrap64 (x17 + 1))))
end
end
noncomputable section
end
noncomputable section
end
noncomputable section
def lampblacklaw02_list.f (l0 : List Int) : Option (List Int) := if 0 ≤ (mn (l0.length : Int) 210) then (if (mn (l0.length : Int) 210) ≤ (l0.length : Int) then ((slices_Clone_int_int.f (l0.take ((mn (l0.length : Int) 210) : Int).toNat)).bind fun t286 => (some t286)) else (none)) else (none)
set_option maxHeartbeats 8000000 in
set_option maxRecDepth 100000 in
theorem lampblacklaw02_list.calls (A0 : Option Addr) (c0 : Nat) (l0 : List Int) (r : List Int) (w : World) (hr0 : Kd.C (Kd.int .i64) w A0 l0.length l0) (hc0 : l0.length ≤ c0) (h : lampblacklaw02_list.f l0 = some r) :
  Calls Tryd.prog 31 #[.slice A0 l0.length c0] w fun e w' => ∃ v0_ : Value, e = .returned (v0_) ∧ Kd.R (Kd.int .i64) 3 w' w.heap.size (fun _ => True) v0_ r ∧ Below w.heap.size w w' := by
 have HR0 := Aside0.mk hr0
 have HC0 := Aside0.mk hc0
 clear hr0 hc0
 have HB := Aside0.mk (Below.refl w.heap.size w)
 have H : (if 0 ≤ (mn (l0.length : Int) 210) then (if (mn (l0.length : Int) 210) ≤ (l0.length : Int) then ((slices_Clone_int_int.f (l0.take ((mn (l0.length : Int) 210) : Int).toNat)).bind fun t286 => (some t286)) else (none)) else (none)) = some r := h
 clear h
 obtain ⟨ji2, hji2⟩ : ∃ j_ : Int, (mn (l0.length : Int) 210) = j_ := ⟨_, rfl⟩
 replace H : (if 0 ≤ (ji2) then (if (ji2) ≤ (l0.length : Int) then ((slices_Clone_int_int.f (l0.take ((ji2) : Int).toNat)).bind fun t286 => (some t286)) else (none)) else (none)) = some r := by first | (rw [hji2] at H; exact H) | (simp only [hji2] at H ⊢; exact H)
 (try (have hji2h : ji2 ≤ 210 := by (rw [← hji2]; unfold mn; (repeat' split) <;> omega)))
 (try (have hji2g : ji2 ≤ 64 := by omega))
 (try (have hji2l : 0 ≤ ji2 := by (rw [← hji2]; unfold mn; (repeat' split) <;> omega)))
 (try (have hji2m : 0 ≤ ji2 := by omega))
 have hji2_ : (if 210 < (l0.length : Int) then 210 else (l0.length : Int)) = ji2 := hji2
 by_cases c3 : 0 ≤ (ji2)
 ·rw [if_pos c3] at H
  have c3b0 := eq_true c3
  have c3b1 : decide (0 ≤ (ji2)) = true := decide_eq_true c3
  clear c3
  by_cases c4 : (ji2) ≤ (l0.length : Int)
  ·rw [if_pos c4] at H
   have c4b0 := eq_true c4
   have c4b1 : decide ((ji2) ≤ (l0.length : Int)) = true := decide_eq_true c4
   clear c4
   replace H := Option.bind_eq_some_iff.mp H
   obtain ⟨t286, A50, H⟩ := H
   replace H : (some t286) = some r := H
   have A5 := Aside0.mk A50
   clear A50
   obtain rfl := Option.some.inj H
   obtain ⟨i06, hi06, _, hsz6, _⟩ := info_parts info3
   obtain ⟨hcut6, hA6, hC6⟩ := print_take_of (P := Tryd.prog) (Value.int .i64) 0 22 3 .i64 Tryd.underlying22 hi06 hsz6 A0 c0 l0 (ji2) (of_decide_eq_true (Qas)) (of_decide_eq_true (Qas)) HC0.out
   have HR285 := Aside0.mk (Kd.C_of_reads (h1 := fun _ => rfl) (hA6 _ (Kd.reads_of_C HR0.out)))
   have HC285 := Aside0.mk hC6
   clear hA6 hC6 hi06 hsz6
   go_enter Tryd.func31, Tryd.ntmps31
   go_wp2_with (first | ((with_reducible refine gate_callee (f := 72) rfl ?_); refine goesL_ (some 8) rfl rfl Tryd.func72 (by kernel_rfl) rfl #[.slice A0 (l0.take ((ji2) : Int).toNat).length c0] rfl (by (try simp only [List.map_toArray, List.map_cons, List.map_nil]); first | done | (rw [show (l0.take ((ji2) : Int).toNat).length = (ji2).toNat from (by rw [List.length_take]; have h_ : ((ji2) : Int) ≤ (l0.length : Int) := of_decide_eq_true (Qas); omega)] <;> rfl) | (simp only [hji2]; rfl) | rfl | (simp only [List.length_drop, List.length_take]; rfl)) ?_; (with_reducible refine (slices_Clone_int_int.calls _ _ (l0.take ((ji2) : Int).toNat) t286 _ ?side1 ?side2 A5.out).mono ?_); (case side1 => exact Qsc HR285.out); (case side2 => exact HC285.out); rintro e w7 ⟨v287, rfl, ho0, hb⟩; refine ⟨_, rfl, ?_⟩; have n0_ := Aside0.mk (Kd.R_lower ho0 (below_size (Qaw))); have n1_ := Aside0.mk (below_step (Qaw) hb); clear HB; have HO288 := n0_; have HB := n1_; clear n0_ n1_; (try clear hb); (try clear hb2); (try clear hk); (try clear hi); (try clear ho0)))
   go_ret
   exact ⟨_, by first | rfl | (simp [errW_none, errW_some] <;> rfl) | (simp only [← hji2]; first | rfl | (simp [errW_none, errW_some] <;> rfl)) | (simp [*, errW_none, errW_some] <;> rfl), by (with_reducible repeat (first | apply Kd.R_alloc | apply Kd.R_drewN | apply Kd.R_drew)); exact HO288.out, by repeat (first | (with_reducible first | exact HB.out | apply below_alloc | apply pw_below_drewN | apply below_drew1) | exact HB.out)⟩
  ·rw [if_neg c4] at H
   exact absurd H (by simp)
 ·rw [if_neg c3] at H
  exact absurd H (by simp)
end
noncomputable section
def width_Check.f (k : Nat) (l0 : List Int) (l1_0 : List Int) (l1_1 : List Int) : Option (Int × Bool × Int) := (width_read.f k l0).bind fun bt512 => (if bt512.2 = true then ((width_town_tree.f bt512.1 l1_0 l1_1).bind fun t516 => (if t516 = true then ((width_Tree_width.f k l1_0 l1_1).bind fun t517 => (some (t517, true, 0))) else (some (0, false, 0)))) else (some (0, false, 2)))
set_option maxHeartbeats 8000000 in
set_option maxRecDepth 100000 in
theorem width_Check.calls (k : Nat) (A0 : Option Addr) (c0 : Nat) (l0 : List Int) (A1_0 : Option Addr) (c1_0 : Nat) (l1_0 : List Int) (A1_1 : Option Addr) (c1_1 : Nat) (l1_1 : List Int) (r1 : Int) (r2 : Bool) (r3 : Int) (w : World) (hGL : GL w) (hr0 : Kd.C (Kd.int .i64) w A0 l0.length l0) (hc0 : l0.length ≤ c0) (hr1_0 : Kd.C (Kd.int .i64) w A1_0 l1_0.length l1_0) (hc1_0 : l1_0.length ≤ c1_0) (hr1_1 : Kd.C (Kd.int .i64) w A1_1 l1_1.length l1_1) (hc1_1 : l1_1.length ≤ c1_1) (h : width_Check.f k l0 l1_0 l1_1 = some (r1, r2, r3)) :
  Calls Tryd.prog 50 #[.slice A0 l0.length c0, .agg #[.slice A1_0 l1_0.length c1_0, .slice A1_1 l1_1.length c1_1]] w fun e w' => e = .returned (.tuple #[.int .i64 r1, .bool r2, .int .i64 r3]) ∧ Below w.heap.size w w' := by
 have HGL := Aside0.mk hGL
 clear hGL
 have hu53 := Tryd.underlying53
 have HR0 := Aside0.mk hr0
 have HC0 := Aside0.mk hc0
 clear hr0 hc0
 have HR1_0 := Aside0.mk hr1_0
 have HC1_0 := Aside0.mk hc1_0
 clear hr1_0 hc1_0
 have HR1_1 := Aside0.mk hr1_1
 have HC1_1 := Aside0.mk hc1_1
 clear hr1_1 hc1_1
 have HB := Aside0.mk (Below.refl w.heap.size w)
 have H : ((width_read.f k l0).bind fun bt512 => (if bt512.2 = true then ((width_town_tree.f bt512.1 l1_0 l1_1).bind fun t516 => (if t516 = true then ((width_Tree_width.f k l1_0 l1_1).bind fun t517 => (some (t517, true, 0))) else (some (0, false, 0)))) else (some (0, false, 2)))) = some (r1, r2, r3) := h
 clear h
 replace H := Option.bind_eq_some_iff.mp H
 obtain ⟨⟨t512, t515⟩, A30, H⟩ := H
 replace H : (if t515 = true then ((width_town_tree.f t512 l1_0 l1_1).bind fun t516 => (if t516 = true then ((width_Tree_width.f k l1_0 l1_1).bind fun t517 => (some (t517, true, 0))) else (some (0, false, 0)))) else (some (0, false, 2))) = some (r1, r2, r3) := H
 have A3 := Aside0.mk A30
 clear A30
 by_cases c4 : t515 = true
 ·subst c4
  have H1 : ((width_town_tree.f t512 l1_0 l1_1).bind fun t516 => (if t516 = true then ((width_Tree_width.f k l1_0 l1_1).bind fun t517 => (some (t517, true, 0))) else (some (0, false, 0)))) = some (r1, r2, r3) := by rw [if_pos rfl] at H; exact H
  clear H
  have H := H1
  clear H1
  replace H := Option.bind_eq_some_iff.mp H
  obtain ⟨t516, A50, H⟩ := H
  replace H : (if t516 = true then ((width_Tree_width.f k l1_0 l1_1).bind fun t517 => (some (t517, true, 0))) else (some (0, false, 0))) = some (r1, r2, r3) := H
  have A5 := Aside0.mk A50
  clear A50
  by_cases c6 : t516 = true
  ·subst c6
   have H1 : ((width_Tree_width.f k l1_0 l1_1).bind fun t517 => (some (t517, true, 0))) = some (r1, r2, r3) := by rw [if_pos rfl] at H; exact H
   clear H
   have H := H1
   clear H1
   replace H := Option.bind_eq_some_iff.mp H
   obtain ⟨t517, A70, H⟩ := H
   replace H : (some (t517, true, 0)) = some (r1, r2, r3) := H
   have A7 := Aside0.mk A70
   clear A70
   simp only [Option.some.injEq, Prod.mk.injEq] at H
   obtain ⟨rfl, rfl, rfl⟩ := H
   go_enter Tryd.func50, Tryd.ntmps50
   go_wp2_with (first | ((with_reducible refine gate_dst (N := 3) rfl ?_); refine box_event ?hg (N := 3) ?hd (cs := #[.slice A1_0 l1_0.length c1_0, .slice A1_1 l1_1.length c1_1]) (t := 53) ?hr ?_; (case hd => rfl); (case hg => rfl); (case hr => first | (go_simp; done) | (go_simp; rfl)); intro gb511 hg w8 hbox hb; have n0_ := Aside0.mk (below_step (Qaw) hb); have n1_ := Aside0.mk (hbox); have n2_ := Aside0.mk ((by rw [hg]; exact (below_size (Qaw)) : w.heap.size ≤ gb511)); have n3_ := Aside0.mk ((by rw [hg]; exact (below_size (Qaw)) : w.heap.size ≤ gb511)); clear HB; have HB := n0_; have BK511 := n1_; have GW511 := n2_; have GE511 := n3_; clear n0_ n1_ n2_ n3_; clear hb hbox hg) | ((with_reducible refine gate_callee (f := 59) rfl ?_); refine goesL_ (some 11) rfl rfl Tryd.func59 (by kernel_rfl) rfl #[.slice A0 l0.length c0] rfl (Qls) ?_; (with_reducible refine (width_read.calls k (fun k_ => k_ < w.heap.size) _ _ l0 t512 true _ ?side1 A3.out).mono ?_); (case side1 => exact Kd.V_mk HC0.out (Kd.F_below (Kd.C_F (Kd.heap_int .i64) HR0.out) (Qag GE511.out))); rintro e w9 ⟨v513, rfl, ho0, hb⟩; refine ⟨_, rfl, ?_⟩; have n0_ := Aside0.mk (Kd.V_lower (Kd.V_mono (ok' := fun k_ => k_ ≠ gb511) ho0 (fun k_ hk_ => Or.elim hk_ (fun hs_ => fun e_ => Nat.not_le.2 hs_ (by rw [e_]; exact GW511.out)) (fun hn_ => (Kd.freshB (g := gb511) (o := .cells #[.slice A1_0 l1_0.length c1_0, .slice A1_1 l1_1.length c1_1] 53 (0, 0)) (Qbl BK511.out) k_ hn_)))) (below_size (Qag GE511.out))); have n1_ := Aside0.mk (blk_below (g := gb511) (o := .cells #[.slice A1_0 l1_0.length c1_0, .slice A1_1 l1_1.length c1_1] 53 (0, 0)) (Qbl BK511.out) hb); have n2_ := Aside0.mk (below_step (Qag GE511.out) hb); clear BK511; clear HB; have HO514 := n0_; have BK511 := n1_; have HB := n2_; clear n0_ n1_ n2_; (try clear hb); (try clear hb2); (try clear hk); (try clear hi); (try clear ho0); have hcz10_0 : w9.cell? ⟨gb511, 0, none⟩ = some (.slice A1_0 l1_0.length c1_0) := (blk_cell BK511.out 0).trans rfl; have hcz10_1 : w9.cell? ⟨gb511, 1, none⟩ = some (.slice A1_1 l1_1.length c1_1) := (blk_cell BK511.out 1).trans rfl; have hfz10_0 := blk_frozen BK511.out 0; have hfz10_1 := blk_frozen BK511.out 1; obtain ⟨Ao11, co11, eo11⟩ := Kd.V_slice HO514.out; subst eo11) | ((with_reducible refine gate_callee (f := 78) rfl ?_); refine goesL_ (some 18) rfl rfl Tryd.func78 (by kernel_rfl) rfl #[.slice Ao11 t512.length co11, .agg #[.slice A1_0 l1_0.length c1_0, .slice A1_1 l1_1.length c1_1]] rfl (Qls) ?_; (with_reducible refine (width_town_tree.calls (hGL := (Qlg)) _ _ t512 _ _ l1_0 _ _ l1_1 true _ ?side1 ?side2 ?side3 ?side4 ?side5 ?side6 A5.out).mono ?_); (case side1 => exact Qsc (Kd.V_reads' HO514.out).2.2); (case side2 => exact (Kd.V_reads' HO514.out).2.1); (case side3 => exact Qsc (Kd.C_below HR1_0.out HB.out)); (case side4 => exact HC1_0.out); (case side5 => exact Qsc (Kd.C_below HR1_1.out HB.out)); (case side6 => exact HC1_1.out); rintro e w12 ⟨rfl, hb⟩; refine ⟨_, rfl, ?_⟩; have n0_ := Aside0.mk (Kd.V_below (by (with_reducible repeat (first | apply Kd.V_alloc | apply Kd.V_drewN | apply Kd.V_drew)); exact HO514.out) hb); have n1_ := Aside0.mk (blk_below (g := gb511) (o := .cells #[.slice A1_0 l1_0.length c1_0, .slice A1_1 l1_1.length c1_1] 53 (0, 0)) (Qbl BK511.out) hb); have n2_ := Aside0.mk (below_step (Qag GE511.out) hb); clear HO514; clear BK511; clear HB; have HO514 := n0_; have BK511 := n1_; have HB := n2_; clear n0_ n1_ n2_; (try clear hb); (try clear hb2); (try clear hk); (try clear hi); have hcz13_0 : w12.cell? ⟨gb511, 0, none⟩ = some (.slice A1_0 l1_0.length c1_0) := (blk_cell BK511.out 0).trans rfl; have hcz13_1 : w12.cell? ⟨gb511, 1, none⟩ = some (.slice A1_1 l1_1.length c1_1) := (blk_cell BK511.out 1).trans rfl; have hfz13_0 := blk_frozen BK511.out 0; have hfz13_1 := blk_frozen BK511.out 1) | ((with_reducible refine gate_callee (f := 81) rfl ?_); refine goesL_ (some 21) rfl rfl Tryd.func81 (by kernel_rfl) rfl #[.agg #[.slice A1_0 l1_0.length c1_0, .slice A1_1 l1_1.length c1_1]] rfl (Qls) ?_; (with_reducible refine (width_Tree_width.calls k _ _ l1_0 _ _ l1_1 t517 _ ?side1 ?side2 ?side3 ?side4 A7.out).mono ?_); (case side1 => exact Qsc (Kd.C_below HR1_0.out HB.out)); (case side2 => exact HC1_0.out); (case side3 => exact Qsc (Kd.C_below HR1_1.out HB.out)); (case side4 => exact HC1_1.out); rintro e w14 ⟨rfl, hb⟩; refine ⟨_, rfl, ?_⟩; have n0_ := Aside0.mk (Kd.V_below (by (with_reducible repeat (first | apply Kd.V_alloc | apply Kd.V_drewN | apply Kd.V_drew)); exact HO514.out) hb); have n1_ := Aside0.mk (blk_below (g := gb511) (o := .cells #[.slice A1_0 l1_0.length c1_0, .slice A1_1 l1_1.length c1_1] 53 (0, 0)) (Qbl BK511.out) hb); have n2_ := Aside0.mk (below_step (Qag GE511.out) hb); clear HO514; clear BK511; clear HB; have HO514 := n0_; have BK511 := n1_; have HB := n2_; clear n0_ n1_ n2_; (try clear hb); (try clear hb2); (try clear hk); (try clear hi)))
   go_ret3
   exact ⟨by first | rfl | (simp [errW_none, errW_some] <;> rfl) | (simp [*, errW_none, errW_some] <;> rfl), by repeat (first | (with_reducible first | exact HB.out | apply below_alloc | apply pw_below_drewN | apply below_drew1 | refine below_set ?_ GE511.out) | exact HB.out)⟩
  ·replace c6 := Bool.eq_false_iff.mpr c6
   subst c6
   have H1 : (some (0, false, 0)) = some (r1, r2, r3) := by rw [if_neg (show ¬ (false = true) by decide)] at H; exact H
   clear H
   have H := H1
   clear H1
   simp only [Option.some.injEq, Prod.mk.injEq] at H
   obtain ⟨rfl, rfl, rfl⟩ := H
   go_enter Tryd.func50, Tryd.ntmps50
   go_wp2_with (first | ((with_reducible refine gate_dst (N := 3) rfl ?_); refine box_event ?hg (N := 3) ?hd (cs := #[.slice A1_0 l1_0.length c1_0, .slice A1_1 l1_1.length c1_1]) (t := 53) ?hr ?_; (case hd => rfl); (case hg => rfl); (case hr => first | (go_simp; done) | (go_simp; rfl)); intro gb511 hg w15 hbox hb; have n0_ := Aside0.mk (below_step (Qaw) hb); have n1_ := Aside0.mk (hbox); have n2_ := Aside0.mk ((by rw [hg]; exact (below_size (Qaw)) : w.heap.size ≤ gb511)); have n3_ := Aside0.mk ((by rw [hg]; exact (below_size (Qaw)) : w.heap.size ≤ gb511)); clear HB; have HB := n0_; have BK511 := n1_; have GW511 := n2_; have GE511 := n3_; clear n0_ n1_ n2_ n3_; clear hb hbox hg) | ((with_reducible refine gate_callee (f := 59) rfl ?_); refine goesL_ (some 11) rfl rfl Tryd.func59 (by kernel_rfl) rfl #[.slice A0 l0.length c0] rfl (Qls) ?_; (with_reducible refine (width_read.calls k (fun k_ => k_ < w.heap.size) _ _ l0 t512 true _ ?side1 A3.out).mono ?_); (case side1 => exact Kd.V_mk HC0.out (Kd.F_below (Kd.C_F (Kd.heap_int .i64) HR0.out) (Qag GE511.out))); rintro e w16 ⟨v513, rfl, ho0, hb⟩; refine ⟨_, rfl, ?_⟩; have n0_ := Aside0.mk (Kd.V_lower (Kd.V_mono (ok' := fun k_ => k_ ≠ gb511) ho0 (fun k_ hk_ => Or.elim hk_ (fun hs_ => fun e_ => Nat.not_le.2 hs_ (by rw [e_]; exact GW511.out)) (fun hn_ => (Kd.freshB (g := gb511) (o := .cells #[.slice A1_0 l1_0.length c1_0, .slice A1_1 l1_1.length c1_1] 53 (0, 0)) (Qbl BK511.out) k_ hn_)))) (below_size (Qag GE511.out))); have n1_ := Aside0.mk (blk_below (g := gb511) (o := .cells #[.slice A1_0 l1_0.length c1_0, .slice A1_1 l1_1.length c1_1] 53 (0, 0)) (Qbl BK511.out) hb); have n2_ := Aside0.mk (below_step (Qag GE511.out) hb); clear BK511; clear HB; have HO514 := n0_; have BK511 := n1_; have HB := n2_; clear n0_ n1_ n2_; (try clear hb); (try clear hb2); (try clear hk); (try clear hi); (try clear ho0); have hcz17_0 : w16.cell? ⟨gb511, 0, none⟩ = some (.slice A1_0 l1_0.length c1_0) := (blk_cell BK511.out 0).trans rfl; have hcz17_1 : w16.cell? ⟨gb511, 1, none⟩ = some (.slice A1_1 l1_1.length c1_1) := (blk_cell BK511.out 1).trans rfl; have hfz17_0 := blk_frozen BK511.out 0; have hfz17_1 := blk_frozen BK511.out 1; obtain ⟨Ao18, co18, eo18⟩ := Kd.V_slice HO514.out; subst eo18) | ((with_reducible refine gate_callee (f := 78) rfl ?_); refine goesL_ (some 18) rfl rfl Tryd.func78 (by kernel_rfl) rfl #[.slice Ao18 t512.length co18, .agg #[.slice A1_0 l1_0.length c1_0, .slice A1_1 l1_1.length c1_1]] rfl (Qls) ?_; (with_reducible refine (width_town_tree.calls (hGL := (Qlg)) _ _ t512 _ _ l1_0 _ _ l1_1 false _ ?side1 ?side2 ?side3 ?side4 ?side5 ?side6 A5.out).mono ?_); (case side1 => exact Qsc (Kd.V_reads' HO514.out).2.2); (case side2 => exact (Kd.V_reads' HO514.out).2.1); (case side3 => exact Qsc (Kd.C_below HR1_0.out HB.out)); (case side4 => exact HC1_0.out); (case side5 => exact Qsc (Kd.C_below HR1_1.out HB.out)); (case side6 => exact HC1_1.out); rintro e w19 ⟨rfl, hb⟩; refine ⟨_, rfl, ?_⟩; have n0_ := Aside0.mk (Kd.V_below (by (with_reducible repeat (first | apply Kd.V_alloc | apply Kd.V_drewN | apply Kd.V_drew)); exact HO514.out) hb); have n1_ := Aside0.mk (blk_below (g := gb511) (o := .cells #[.slice A1_0 l1_0.length c1_0, .slice A1_1 l1_1.length c1_1] 53 (0, 0)) (Qbl BK511.out) hb); have n2_ := Aside0.mk (below_step (Qag GE511.out) hb); clear HO514; clear BK511; clear HB; have HO514 := n0_; have BK511 := n1_; have HB := n2_; clear n0_ n1_ n2_; (try clear hb); (try clear hb2); (try clear hk); (try clear hi)))
   go_ret3
   exact ⟨by first | rfl | (simp [errW_none, errW_some] <;> rfl) | (simp [*, errW_none, errW_some] <;> rfl), by repeat (first | (with_reducible first | exact HB.out | apply below_alloc | apply pw_below_drewN | apply below_drew1 | refine below_set ?_ GE511.out) | exact HB.out)⟩
 ·replace c4 := Bool.eq_false_iff.mpr c4
  subst c4
  have H1 : (some (0, false, 2)) = some (r1, r2, r3) := by rw [if_neg (show ¬ (false = true) by decide)] at H; exact H
  clear H
  have H := H1
  clear H1
  simp only [Option.some.injEq, Prod.mk.injEq] at H
  obtain ⟨rfl, rfl, rfl⟩ := H
  go_enter Tryd.func50, Tryd.ntmps50
  go_wp2_with (first | ((with_reducible refine gate_dst (N := 3) rfl ?_); refine box_event ?hg (N := 3) ?hd (cs := #[.slice A1_0 l1_0.length c1_0, .slice A1_1 l1_1.length c1_1]) (t := 53) ?hr ?_; (case hd => rfl); (case hg => rfl); (case hr => first | (go_simp; done) | (go_simp; rfl)); intro gb511 hg w20 hbox hb; have n0_ := Aside0.mk (below_step (Qaw) hb); have n1_ := Aside0.mk (hbox); have n2_ := Aside0.mk ((by rw [hg]; exact (below_size (Qaw)) : w.heap.size ≤ gb511)); have n3_ := Aside0.mk ((by rw [hg]; exact (below_size (Qaw)) : w.heap.size ≤ gb511)); clear HB; have HB := n0_; have BK511 := n1_; have GW511 := n2_; have GE511 := n3_; clear n0_ n1_ n2_ n3_; clear hb hbox hg) | ((with_reducible refine gate_callee (f := 59) rfl ?_); refine goesL_ (some 11) rfl rfl Tryd.func59 (by kernel_rfl) rfl #[.slice A0 l0.length c0] rfl (Qls) ?_; (with_reducible refine (width_read.calls k (fun k_ => k_ < w.heap.size) _ _ l0 t512 false _ ?side1 A3.out).mono ?_); (case side1 => exact Kd.V_mk HC0.out (Kd.F_below (Kd.C_F (Kd.heap_int .i64) HR0.out) (Qag GE511.out))); rintro e w21 ⟨v513, rfl, ho0, hb⟩; refine ⟨_, rfl, ?_⟩; have n0_ := Aside0.mk (Kd.V_lower (Kd.V_mono (ok' := fun k_ => k_ ≠ gb511) ho0 (fun k_ hk_ => Or.elim hk_ (fun hs_ => fun e_ => Nat.not_le.2 hs_ (by rw [e_]; exact GW511.out)) (fun hn_ => (Kd.freshB (g := gb511) (o := .cells #[.slice A1_0 l1_0.length c1_0, .slice A1_1 l1_1.length c1_1] 53 (0, 0)) (Qbl BK511.out) k_ hn_)))) (below_size (Qag GE511.out))); have n1_ := Aside0.mk (blk_below (g := gb511) (o := .cells #[.slice A1_0 l1_0.length c1_0, .slice A1_1 l1_1.length c1_1] 53 (0, 0)) (Qbl BK511.out) hb); have n2_ := Aside0.mk (below_step (Qag GE511.out) hb); clear BK511; clear HB; have HO514 := n0_; have BK511 := n1_; have HB := n2_; clear n0_ n1_ n2_; (try clear hb); (try clear hb2); (try clear hk); (try clear hi); (try clear ho0)))
  go_ret3
  exact ⟨by first | rfl | (simp [errW_none, errW_some] <;> rfl) | (simp [*, errW_none, errW_some] <;> rfl), by repeat (first | (with_reducible first | exact HB.out | apply below_alloc | apply pw_below_drewN | apply below_drew1 | refine below_set ?_ GE511.out) | exact HB.out)⟩
end
noncomputable section
def lampblacklaw02_Of.f (l0_0 : List Int) (l0_1 : List Int) : Option (List Int × List Int) := (lampblacklaw02_list.f l0_0).bind fun t411 => ((lampblacklaw02_list.f l0_1).bind fun t414 => (some (t411, t414)))
def lampblacklaw02_Of.T1 : Bool × List (List Nat × List Nat) := (true, [([], []), ([0], [0]), ([1], [1]), ([], []), ([3], [3]), ([4, 2], [4]), ([2, 5], [2, 5]), ([6, 5, 0, 1, 2, 3, 4, 5, 6], [6])])
def lampblacklaw02_Of.B1 : List Nat := [0, 1, 3, 0, 8, 31, 63, 127]
theorem lampblacklaw02_Of.tab1 : rtab .any (opsOf Tryd.f44 1) = lampblacklaw02_Of.T1 := by kernel_rfl
theorem lampblacklaw02_Of.bits1 : waitsOk lampblacklaw02_Of.T1.2 lampblacklaw02_Of.B1 = true := by kernel_rfl
set_option maxHeartbeats 8000000 in
set_option maxRecDepth 100000 in
theorem lampblacklaw02_Of.calls (A0_0 : Option Addr) (c0_0 : Nat) (l0_0 : List Int) (A0_1 : Option Addr) (c0_1 : Nat) (l0_1 : List Int) (r1 : List Int) (r2 : List Int) (w : World) (hr0_0 : Kd.C (Kd.int .i64) w A0_0 l0_0.length l0_0) (hc0_0 : l0_0.length ≤ c0_0) (hr0_1 : Kd.C (Kd.int .i64) w A0_1 l0_1.length l0_1) (hc0_1 : l0_1.length ≤ c0_1) (h : lampblacklaw02_Of.f l0_0 l0_1 = some (r1, r2)) :
  Calls Tryd.prog 44 #[.agg #[.slice A0_0 l0_0.length c0_0, .slice A0_1 l0_1.length c0_1]] w fun e w' => ∃ v0_ v1_ : Value, e = .returned (.agg #[v0_, v1_]) ∧ Kd.R (Kd.int .i64) 3 w' w.heap.size (fun k_ => some k_ ≠ (v1_ : Value).ownBlock) v0_ r1 ∧ Kd.R (Kd.int .i64) 3 w' w.heap.size (fun k_ => some k_ ≠ (v0_ : Value).ownBlock) v1_ r2 ∧ Below w.heap.size w w' := by
 have hu52 := Tryd.underlying52
 have hu53 := Tryd.underlying53
 have HR0_0 := Aside0.mk hr0_0
 have HC0_0 := Aside0.mk hc0_0
 clear hr0_0 hc0_0
 have HR0_1 := Aside0.mk hr0_1
 have HC0_1 := Aside0.mk hc0_1
 clear hr0_1 hc0_1
 have HB := Aside0.mk (Below.refl w.heap.size w)
 have H : ((lampblacklaw02_list.f l0_0).bind fun t411 => ((lampblacklaw02_list.f l0_1).bind fun t414 => (some (t411, t414)))) = some (r1, r2) := h
 clear h
 replace H := Option.bind_eq_some_iff.mp H
 obtain ⟨t411, A20, H⟩ := H
 replace H : ((lampblacklaw02_list.f l0_1).bind fun t414 => (some (t411, t414))) = some (r1, r2) := H
 have A2 := Aside0.mk A20
 clear A20
 replace H := Option.bind_eq_some_iff.mp H
 obtain ⟨t414, A30, H⟩ := H
 replace H : (some (t411, t414)) = some (r1, r2) := H
 have A3 := Aside0.mk A30
 clear A30
 simp only [Option.some.injEq, Prod.mk.injEq] at H
 obtain ⟨rfl, rfl⟩ := H
 go_enter Tryd.func44, Tryd.ntmps44
 try go_wp2_with (first | ((with_reducible refine gate_dst (N := 1) rfl ?_); refine box_event ?hg (N := 1) ?hd (cs := #[.slice A0_0 l0_0.length c0_0, .slice A0_1 l0_1.length c0_1]) (t := 52) ?hr ?_; (case hd => rfl); (case hg => rfl); (case hr => first | (go_simp; done) | (go_simp; rfl)); intro gb409 hg w4 hbox hb; have n0_ := Aside0.mk (below_step (Qaw) hb); have n1_ := Aside0.mk (hbox); have n2_ := Aside0.mk ((by rw [hg]; exact (below_size (Qaw)) : w.heap.size ≤ gb409)); have n3_ := Aside0.mk ((by rw [hg]; exact (below_size (Qaw)) : w.heap.size ≤ gb409)); clear HB; have HB := n0_; have BK409 := n1_; have GW409 := n2_; have GE409 := n3_; clear n0_ n1_ n2_ n3_; clear hb hbox hg) | ((with_reducible refine gate_dst (N := 2) rfl ?_); refine box_event ?hg (N := 2) ?hd (cs := #[.slice none 0 0, .slice none 0 0]) (t := 53) ?hr ?_; (case hd => rfl); (case hg => rfl); (case hr => first | (go_simp; done) | (go_simp; rfl)); intro gb410 hg w5 hbox hb; have n0_ := Aside0.mk (blk_below (g := gb409) (o := .cells #[.slice A0_0 l0_0.length c0_0, .slice A0_1 l0_1.length c0_1] 52 (0, 0)) (Qbl BK409.out) hb); have n1_ := Aside0.mk (below_step (Qag GE409.out) hb); have n2_ := Aside0.mk (hbox); have n3_ := Aside0.mk ((by rw [hg]; exact (below_size (Qag GE409.out)) : w.heap.size ≤ gb410)); have n4_ := Aside0.mk ((by rw [hg]; exact (below_size (Qag GE409.out)) : w.heap.size ≤ gb410)); have n5_ := Aside0.mk ((by rw [hg]; exact Nat.ne_of_lt (blk_lt (g := gb409) (o := .cells #[.slice A0_0 l0_0.length c0_0, .slice A0_1 l0_1.length c0_1] 52 (0, 0)) (Qbl BK409.out)) : gb409 ≠ gb410)); have n6_ := Aside0.mk ((by rw [hg]; exact Nat.ne_of_gt (blk_lt (g := gb409) (o := .cells #[.slice A0_0 l0_0.length c0_0, .slice A0_1 l0_1.length c0_1] 52 (0, 0)) (Qbl BK409.out)) : gb410 ≠ gb409)); clear BK409; clear HB; have BK409 := n0_; have HB := n1_; have BK410 := n2_; have GW410 := n3_; have GE410 := n4_; have NB409_410 := n5_; have NB410_409 := n6_; clear n0_ n1_ n2_ n3_ n4_ n5_ n6_; clear hb hbox hg))
 have n0_ := Aside0.mk (blk_drew BK409.out)
 have n1_ := Aside0.mk (blk_drew BK410.out)
 have n2_ := Aside0.mk (below_drew1 HB.out)
 clear BK409
 clear BK410
 clear HB
 have BK409 := n0_
 have BK410 := n1_
 have HB := n2_
 clear n0_ n1_ n2_
 refine start_ (n := 8) (S := fun w' => w'.cell? ⟨gb409, 0, none⟩ = some (.slice A0_0 l0_0.length c0_0) ∧ w'.cell? ⟨gb409, 1, none⟩ = some (.slice A0_1 l0_1.length c0_1)) (ds := []) (Qbz 8 0) (by kernel_rfl) rfl rfl ⟨(blk_cell BK409.out 0).trans rfl, (blk_cell BK409.out 1).trans rfl⟩ (fun hHeld => ?_); refine with_tabW lampblacklaw02_Of.tab1 lampblacklaw02_Of.bits1 (fun HT_ HW_ => ?_)
 generalize w5.drew = w6 at BK409 BK410 HB hHeld ⊢
 refine Qpu 0 3 ?_ ?_ (Qbz 8 1) (Qao) ?_
 refine Qpu 3 6 ?_ ?_ (Qbz 8 9) (Qao) ?_
 refine take_ (i := 1) (N := some 4) (v := ?_) (a' := ?_) (Qbz 8 11) rfl rfl (take_ofW HT_.out HW_.out (by kernel_rfl)) (fun _ _ _ h => h) (Or.inl ⟨by rfl, ?_⟩) hHeld ?_ ?_;rotate_left;(·rintro w' ⟨s0, s1⟩;go_simp;with_reducible rfl);rotate_left;(·simp only [Act.put, Qp1, Qp2, Qp3, i64_w, i32_w];rfl)
 refine take_ (i := 4) (N := some 7) (v := ?_) (a' := ?_) (Qbz 8 27) rfl rfl (take_ofW HT_.out HW_.out (by kernel_rfl)) (fun _ _ _ h => h) (Or.inl ⟨by rfl, ?_⟩) hHeld ?_ ?_;rotate_left;(·rintro w' ⟨s0, s1⟩;go_simp;with_reducible rfl);rotate_left;(·simp only [Act.put, Qp1, Qp2, Qp3, i64_w, i32_w];rfl)
 refine one_ (i := 2) (N := some 5) (Qbz 8 31) rfl rfl (one_of HT_.out (by kernel_rfl)) (by decide) (fun K hK => ?_)
 refine goes_ Tryd.func31 (by kernel_rfl) rfl #[.slice A0_0 l0_0.length c0_0] (by rfl) rfl rfl (Qls) ?_
 with_reducible refine (lampblacklaw02_list.calls _ _ l0_0 t411 _ ?side1 ?side2 A2.out).mono ?_
 (case side1 => exact Qsc (Kd.C_below HR0_0.out HB.out))
 (case side2 => exact HC0_0.out)
 rintro e w7 ⟨v412, rfl, ho0, hb⟩
 refine ⟨_, rfl, ?_⟩
 have n0_ := Aside0.mk (Kd.R_lower ho0 (below_size (Qah GE409.out GE410.out)))
 have n1_ := Aside0.mk (blk_below (g := gb409) (o := .cells #[.slice A0_0 l0_0.length c0_0, .slice A0_1 l0_1.length c0_1] 52 (0, 0)) (Qbl BK409.out) hb)
 have n2_ := Aside0.mk (blk_below (g := gb410) (o := .cells #[.slice none 0 0, .slice none 0 0] 53 (0, 0)) (Qbl BK410.out) hb)
 have n3_ := Aside0.mk (below_step (Qah GE409.out GE410.out) hb)
 clear BK409
 clear BK410
 clear HB
 have HO413 := n0_
 have BK409 := n1_
 have BK410 := n2_
 have HB := n3_
 clear n0_ n1_ n2_ n3_
 (try clear hb)
 (try clear hb2)
 (try clear hk)
 (try clear hi)
 (try clear ho0)
 refine hK.out _ _ ⟨(blk_cell BK409.out 0).trans rfl, (blk_cell BK409.out 1).trans rfl⟩ (fun hHeld => ?_)
 clear hK K
 refine norm_ (a' := ?_) ?_ ?_
 rotate_left
 ·show Act.put _ (some 5) _ = _
  simp only [Act.put, Qp1, Qp2, Qp3, i64_w, i32_w]
  rfl
 refine one_ (i := 5) (N := some 8) (Qbz 8 63) rfl rfl (one_of HT_.out (by kernel_rfl)) (by decide) (fun K hK => ?_)
 refine goes_ Tryd.func31 (by kernel_rfl) rfl #[.slice A0_1 l0_1.length c0_1] (by rfl) rfl rfl (Qls) ?_
 with_reducible refine (lampblacklaw02_list.calls _ _ l0_1 t414 _ ?side1 ?side2 A3.out).mono ?_
 (case side1 => exact Qsc (Kd.C_below HR0_1.out HB.out))
 (case side2 => exact HC0_1.out)
 rintro e w8 ⟨v415, rfl, ho0, hb⟩
 refine ⟨_, rfl, ?_⟩
 have n0_ := Aside0.mk (Kd.R_elder' (Qro HO413.out) (Kd.R_base ho0) hb)
 have n1_ := Aside0.mk (Kd.R_lower (Kd.R_new' ho0 (Kd.R_lt (Qro HO413.out))) (below_size (Qah GE409.out GE410.out)))
 have n2_ := Aside0.mk (blk_below (g := gb409) (o := .cells #[.slice A0_0 l0_0.length c0_0, .slice A0_1 l0_1.length c0_1] 52 (0, 0)) (Qbl BK409.out) hb)
 have n3_ := Aside0.mk (blk_below (g := gb410) (o := .cells #[.slice none 0 0, .slice none 0 0] 53 (0, 0)) (Qbl BK410.out) hb)
 have n4_ := Aside0.mk (below_step (Qah GE409.out GE410.out) hb)
 clear HO413
 clear BK409
 clear BK410
 clear HB
 have HO413 := n0_
 have HO416 := n1_
 have BK409 := n2_
 have BK410 := n3_
 have HB := n4_
 clear n0_ n1_ n2_ n3_ n4_
 (try clear hb)
 (try clear hb2)
 (try clear hk)
 (try clear hi)
 (try clear ho0)
 obtain ⟨Ao9, co9, eo9⟩ := Kd.R_slice HO416.out
 (first | subst eo9 | (injection eo9 with f1_ f2_ f3_; have f4_ := f1_.symm; have f5_ := f3_.symm; clear f1_ f2_ f3_; subst f4_; subst f5_))
 obtain ⟨Ao10, co10, eo10⟩ := Kd.R_slice HO413.out
 (first | subst eo10 | (injection eo10 with f1_ f2_ f3_; have f4_ := f1_.symm; have f5_ := f3_.symm; clear f1_ f2_ f3_; subst f4_; subst f5_))
 refine hK.out _ _ ⟨(blk_cell BK409.out 0).trans rfl, (blk_cell BK409.out 1).trans rfl⟩ (fun hHeld => ?_)
 clear hK K
 refine norm_ (a' := ?_) ?_ ?_
 rotate_left
 ·show Act.put _ (some 8) _ = _
  simp only [Act.put, Qp1, Qp2, Qp3, i64_w, i32_w]
  rfl
 refine Qpu 6 9 ?_ ?_ (Qbz 8 127) (Qao) ?_
 refine one_ (i := 7) (N := none) (Qbz 8 255) rfl rfl (one_of HT_.out (by kernel_rfl)) (by decide) (fun K hK => ?_)
 have hs11 : w8.cell? ⟨gb410, 0, none⟩ = some (.slice none 0 0) := (blk_cell BK410.out 0).trans rfl
 have hfs11 := blk_frozen BK410.out 0
 have hns11_0 := NB409_410.out
 have hms11_0 := NB410_409.out
 have hs12 : w8.cell? ⟨gb410, 1, none⟩ = some (.slice none 0 0) := (blk_cell BK410.out 1).trans rfl
 have hfs12 := blk_frozen BK410.out 1
 have hns12_0 := NB409_410.out
 have hms12_0 := NB410_409.out
 refine skip_ (w1 := ?_) (by rfl) rfl ?_ ?_
 rotate_left
 ·go_simp
  rfl
 refine hK.out _ _ ⟨((cell_far (p := ⟨gb410, _, none⟩) NB409_410.out _).trans (((cell_far (p := ⟨gb410, _, none⟩) NB409_410.out _).trans (hHeld.1)))), ((cell_far (p := ⟨gb410, _, none⟩) NB409_410.out _).trans (((cell_far (p := ⟨gb410, _, none⟩) NB409_410.out _).trans (hHeld.2))))⟩ (fun hHeld => ?_)
 clear hK K
 refine done_ (done_of HT_.out (by kernel_rfl)) ?_
 try go_wp2
 refine bodyPost_ret (results_cell_row rfl _ _ gb410 53 #[.slice Ao10 t411.length co10, .slice Ao9 t414.length co9] (0, 0) _ rfl (by (with_reducible repeat (first | refine blk_drewN ?_ _ | refine blk_drew ?_ | refine blk_alloc ?_ _)); refine blk_put (cs := #[.slice Ao10 t411.length co10, .slice none 0 0]) ?_ 1 _ rfl; (with_reducible repeat (first | refine blk_drewN ?_ _ | refine blk_drew ?_ | refine blk_alloc ?_ _)); refine blk_put (cs := #[.slice none 0 0, .slice none 0 0]) ?_ 0 _ rfl; (with_reducible repeat (first | refine blk_drewN ?_ _ | refine blk_drew ?_ | refine blk_alloc ?_ _)); exact BK410.out) Tryd.underlying53 rfl (by kernel_rfl)) rfl ?_
 exact ⟨_, _, by first | rfl | (simp [errW_none, errW_some] <;> rfl) | (simp [*, errW_none, errW_some] <;> rfl), by (with_reducible repeat (first | apply Kd.R_alloc | apply Kd.R_drewN | apply Kd.R_drew)); exact Kd.R_mono (Kd.R_far (p := ⟨gb410, 1, none⟩) (Kd.R_far (p := ⟨gb410, 0, none⟩) (Kd.R_types HO413.out BK410.out (by decide)) (fun _ hk => hk.2) (.slice Ao10 t411.length co10)) (fun _ hk => hk.2) (.slice Ao9 t414.length co9)) (fun _ hk => hk.1.2), by (with_reducible repeat (first | apply Kd.R_alloc | apply Kd.R_drewN | apply Kd.R_drew)); exact Kd.R_mono (Kd.R_far (p := ⟨gb410, 1, none⟩) (Kd.R_far (p := ⟨gb410, 0, none⟩) (Kd.R_types HO416.out BK410.out (by decide)) (fun _ hk => hk.2) (.slice Ao10 t411.length co10)) (fun _ hk => hk.2) (.slice Ao9 t414.length co9)) (fun _ hk => hk.1.2), by repeat (first | (with_reducible first | exact HB.out | apply below_alloc | apply pw_below_drewN | apply below_drew1 | refine below_set ?_ GE409.out | refine below_set ?_ GE410.out) | exact HB.out)⟩
end
noncomputable section
mutual
def lampblackref02_IsNarrow.l0 : Nat → List Int → List Int → Int → Int → List Int → List Int → List Int → List Int → Option (Bool)
 | 0, _, _, _, _, _, _, _, _ => none
 | k + 1, x0, x17, x18, x19, x434000, x434001, x435000, x435001 => if x19 < x18 then (if 0 ≤ x19 then (if x19 < (x17.length : Int) then (lampblackref02_IsNarrow.l1 k x0 x19 (rd x17 x19) false x17 x18 x19 x435000 (x435000.length : Int) 0 x434000 x434001 x435000 x435001) else (none)) else (none)) else ((lampblackref02_IsTree.f k x0 x434000 x434001).bind fun bt435 => (some bt435.2))
def lampblackref02_IsNarrow.l1 : Nat → List Int → Int → Int → Bool → List Int → Int → Int → List Int → Int → Int → List Int → List Int → List Int → List Int → Option (Bool)
 | 0, _, _, _, _, _, _, _, _, _, _, _, _, _, _ => none
 | k + 1, x0, x7, x8, x9, x17, x18, x19, x25, x26, x27, x434000, x434001, x435000, x435001 => if x27 < x26 then (if 0 ≤ x27 then (if x27 < (x25.length : Int) then (if x9 = true then (lampblackref02_IsNarrow.l1 k x0 x7 x8 true x17 x18 x19 x25 x26 (wrap64 (x27 + 1)) x434000 x434001 x435000 x435001) else (lampblackref02_IsNarrow.l1 k x0 x7 x8 (x8 == (rd x25 x27)) x17 x18 x19 x25 x26 (wrap64 (x27 + 1)) x434000 x434001 x435000 x435001)) else (none)) else (none)) else (lampblackref02_IsNarrow.l2 k x0 x7 x8 x9 x17 x18 x19 x434000 (x434000.length : Int) 0 x434000 x434001 x435000 x435001)
def lampblackref02_IsNarrow.l2 : Nat → List Int → Int → Int → Bool → List Int → Int → Int → List Int → Int → Int → List Int → List Int → List Int → List Int → Option (Bool)
 | 0, _, _, _, _, _, _, _, _, _, _, _, _, _, _ => none
 | k + 1, x0, x7, x8, x9, x17, x18, x19, x39, x40, x41, x434000, x434001, x435000, x435001 => if x41 < x40 then (if 0 ≤ x41 then (if x41 < (x39.length : Int) then (if x7 = x41 then (lampblackref02_IsNarrow.l2 k x0 x7 x8 x9 x17 x18 x19 x39 x40 (wrap64 (x41 + 1)) x434000 x434001 x435000 x435001) else (if (Go.bits .andNot .i64 x8 (rd x39 x41)) = 0 then (some false) else (lampblackref02_IsNarrow.l2 k x0 x7 x8 x9 x17 x18 x19 x39 x40 (wrap64 (x41 + 1)) x434000 x434001 x435000 x435001))) else (none)) else (none)) else (if x9 = true then (lampblackref02_IsNarrow.l0 k x0 x17 x18 (wrap64 (x19 + 1)) x434000 x434001 x435000 x435001) else (some false))
end
end
end Go.Proofs.YtoffehihicabcaaDoor.X
end
section
namespace Go.Proofs.YtoffehihicabcaaDoor.X
open Go.RowKit YtoffehihicabcaaDoorW.PrintWords YtoffehihicabcaaDoorW.PrintLast YtoffehihicabcaaDoorW.PrintMore YtoffehihicabcaaDoor.T
theorem list_any (l : List Int) : lampblacklaw02_list.f l = some (l.take 210) := by
 have hm : mn (l.length : Int) 210 = ((min l.length 210 : Nat) : Int) := mn_nat l.length 210
 have ht : l.take (min l.length 210) = l.take 210 := by
  by_cases h : l.length ≤ 210
  ·rw [List.take_of_length_le (by omega), List.take_of_length_le h]
  ·rw [Nat.min_eq_right (by omega)]
 unfold lampblacklaw02_list.f slices_Clone_int_int.f
 simp only [hm, Int.toNat_natCast]
 rw [if_pos (by omega), if_pos (by omega), ht]
 simp only [Option.bind_some, List.nil_append]
 rw [if_pos (by rw [List.length_take, List.length_nil]; omega)]
 rfl
theorem Of_eq (B P : List Int) : lampblacklaw02_Of.f B P = some (B.take 210, P.take 210) := by
 unfold lampblacklaw02_Of.f
 rw [list_any, list_any]
 rfl
theorem Check_ev {G : List Nat} (hG : Gr 9 G) (B P : List Int) : ∃ r : Int × Bool × Int, Ev (fun k => width_Check.f k (gi G) B P) r ∧ ((TD G B P ∧ r = ((mostF B B.length 0 0 : Int) - 1, true, 0)) ∨ (¬ TD G B P ∧ r = (0, false, 0))) := by
 have hn := hG.most
 have h1 : Ev (fun k => width_read.f k (gi G)) (gi G, true) := by
  have h := read_ev (gi G) (by rw [gi_length]; omega)
  rw [(chk_iff 9 (by omega) _).2 ⟨G, rfl, hG⟩] at h
  exact h
 have ht : width_town_tree.f (gi G) B P = some (treeB G B P) := by
  unfold width_town_tree.f
  rw [if_pos ((chk_iff 9 (by omega) _).2 ⟨G, rfl, hG⟩), gi_toNatO]
 unfold width_Check.f
 by_cases h : TD G B P
 ·rw [(treeB_iff hG B P).2 h] at ht
  exact ⟨_, Ev.bind h1 (Ev.if_pos rfl (Ev.bind1 ht (Ev.if_pos rfl (Ev.bind (treeWidth_ev hG h) (Ev.some rfl))))), .inl ⟨h, rfl⟩⟩
 ·have hf : treeB G B P = false := by
   cases hb : treeB G B P
   ·rfl
   ·exact absurd ((treeB_iff hG B P).1 hb) h
  rw [hf] at ht
  exact ⟨_, Ev.bind h1 (Ev.if_pos rfl (Ev.bind1 ht (Ev.if_neg (by simp) (Ev.some rfl)))), .inr ⟨h, rfl⟩⟩
theorem Decompose_ev {G : List Nat} (hG : Gr 9 G) {W : Nat} (hW : IsWidth G W) : Ev (fun k => width_Decompose.f k (gi G)) (bagsL G (ordL G W) (ordL G W).length, parsL G (ordL G W) (ordL G W).length, 0) := by
 have hn := hG.most
 obtain ⟨o1, o2, o3, _⟩ := ordL_is hG hW
 have h1 : Ev (fun k => width_read.f k (gi G)) (gi G, true) := by
  have h := read_ev (gi G) (by rw [gi_length]; omega)
  rw [(chk_iff 9 (by omega) _).2 ⟨G, rfl, hG⟩] at h
  exact h
 unfold width_Decompose.f
 exact Ev.bind h1 (Ev.if_pos rfl (Ev.bind (decompose_ev hG hW o2 (by omega)) (Ev.some rfl)))
theorem Decompose_bad (g : List Int) (hl : g.length < 2 ^ 60) (h : chk 9 g = false) : Ev (fun k => width_Decompose.f k g) ([], [], 2) := by
 have h1 := read_ev g hl
 rw [h] at h1
 unfold width_Decompose.f
 exact Ev.bind h1 (Ev.if_neg (by simp) (Ev.some rfl))
section
variable {A PA B PB : List Int} {g : List Int}
end
def cliB (G : List Nat) (s : Nat) : Nat → Bool
 | 0 => true
 | j + 1 => cliB G s j && (!s.testBit j || decide (diff (diff s (G.getD j 0)) (2 ^ j) = 0))
theorem cliB_at {G : List Nat} {s : Nat} : ∀ {j : Nat}, cliB G s j = true → ∀ v, v < j → s.testBit v = true → diff (diff s (G.getD v 0)) (2 ^ v) = 0
 | 0, _, v, hv, _ => by omega
 | j + 1, h, v, hv, hb => by
  rw [cliB, Bool.and_eq_true] at h
  by_cases e : v = j
  ·subst e
   have h2 := h.2
   rw [hb] at h2
   simpa using h2
  ·exact cliB_at h.1 v (by omega) hb
theorem clique_in {G : List Nat} (hG : Gr 9 G) {B P : List Int} (h : TD G B P) {s : Nat} (hs : s < 2 ^ G.length) (hc : cliB G s G.length = true) : B.any (fun b => Go.bits .andNot .i64 (s : Int) b == 0) = true := by
 have hn : 2 ^ G.length ≤ 2 ^ 9 := Nat.pow_le_pow_right (by omega) hG.most
 have hbag : ∃ k, k < B.length ∧ ∀ v, s.testBit v = true → bet B k v := by
  by_cases h0 : s = 0
  ·subst h0
   exact ⟨0, h.pos, fun v hv => by simp at hv⟩
  ·have hmem : ∀ v, v ∈ els s 9 ↔ s.testBit v = true := fun v => by
    rw [mem_els]
    exact ⟨fun h => h.2, fun h => ⟨Nat.lt_of_not_le (fun hle => by
     rw [Nat.testBit_lt_two_pow (Nat.lt_of_lt_of_le (Nat.lt_of_lt_of_le hs hn) (Nat.pow_le_pow_right (by omega) hle))] at h
     cases h), h⟩⟩
   have hlt : ∀ v, s.testBit v = true → v < G.length := fun v hv => Nat.lt_of_not_le fun hle => by rw [Nat.testBit_lt_two_pow (Nat.lt_of_lt_of_le hs (Nat.pow_le_pow_right (by omega) hle))] at hv; cases hv
   have hne : els s 9 ≠ [] := fun e => h0 (by
    apply Nat.eq_of_testBit_eq
    intro v
    rw [Nat.zero_testBit]
    cases hv : s.testBit v
    ·rfl
    ·have := (hmem v).2 hv
     rw [e] at this
     cases this)
   obtain ⟨k, k1, k2⟩ := clique_bag (td_to hG h) hne (fun v hv => hlt v ((hmem v).1 hv)) (fun u hu v hv huv => by
    have hu2 := (hmem u).1 hu
    have hv2 := (hmem v).1 hv
    have hd := cliB_at hc u (hlt u hu2) hu2
    unfold Adj
    have hb := congrArg (fun x => Nat.testBit x v) hd
    simp only [diff_testBit, Nat.zero_testBit, Nat.testBit_two_pow] at hb
    rw [hv2] at hb
    cases hg : (G.getD u 0).testBit v
    ·rw [hg] at hb
     simp [huv] at hb
    ·rfl)
   exact ⟨k, k1, fun v hv => k2 v ((hmem v).2 hv)⟩
 obtain ⟨k, k1, k2⟩ := hbag
 rw [List.any_eq_true]
 have hk := (h.inn k k1).2.2
 have e : rd B (k : Int) = B[k] := by
  unfold rd
  rw [Int.toNat_natCast, List.getD_eq_getElem?_getD, List.getElem?_eq_getElem k1]; rfl
 refine ⟨rd B (k : Int), by rw [e]; exact List.getElem_mem k1, ?_⟩
 obtain ⟨b, hb⟩ : ∃ b : Nat, rd B (k : Int) = (b : Int) := ⟨(rd B (k : Int)).toNat, by omega⟩
 rw [hb, b_andNot s b (by omega) (by omega)]
 have hz : diff s b = 0 := diff_zero.2 fun v hv => by
  have := k2 v hv
  unfold bet bitI at this
  rw [hb] at this
  exact this
 rw [hz]; rfl
end Go.Proofs.YtoffehihicabcaaDoor.X
end
section
namespace Go.Proofs.YtoffehihicabcaaDoor.X
open Go.RowKit YtoffehihicabcaaDoorW.PrintWords YtoffehihicabcaaDoorW.PrintLast YtoffehihicabcaaDoorW.PrintMore YtoffehihicabcaaDoor.T
attribute [local go_sem] max2_int min2_int max_two min_two max_three min_three max_four min_four
set_option maxHeartbeats 8000000 in
set_option maxRecDepth 100000 in
theorem cl_call (s b : Int) (sB : Nat) (w : World) (h : w.cell? ⟨sB, 0, none⟩ = some (.int .i64 s)) :
  Calls Tryd.prog 55 #[.int .i64 b, .pointer (some ⟨sB, 0, none⟩)] w fun e w' => e = .returned (.bool (Go.bits .andNot .i64 s b == 0)) ∧ Below w.heap.size w w' := by
 go_enter Tryd.func55, Tryd.ntmps55
 go_wp2
 go_ret
 exact ⟨rfl, Below.refl _ _⟩
set_option maxHeartbeats 8000000 in
set_option maxRecDepth 100000 in
theorem index_cl (A : Option Addr) (c : Nat) (l : List Int) (p : Int → Bool) (uB : Nat) (w : World) (hx : Kd.C (Kd.int .i64) w A l.length l) (hl : l.length ≤ 1000)
  (hp : ∀ W, Below w.heap.size w W → ∀ x ∈ l, Calls Tryd.prog 55 #[.int .i64 x, .pointer (some ⟨uB, 0, none⟩)] W fun e w' => e = .returned (.bool (p x)) ∧ Below W.heap.size W w') :
  Calls Tryd.prog 84 #[.slice A l.length c, .func (.func 55) #[] #[.pointer (some ⟨uB, 0, none⟩)]] w fun e w' => ∃ z, e = .returned (.int .i64 z) ∧ decide (z ≥ 0) = l.any p ∧ Below w.heap.size w w' := by
 have HX := Aside0.mk hx
 have HP := Aside0.mk hp
 clear hx hp
 go_enter Tryd.func84, Tryd.ntmps84
 go_wp2
 go_loopg [8] l.length (fun kq v8 w' => ∃ i : Nat, v8 = .int .i64 (i : Int) ∧ i + kq = l.length ∧ Aside0 ((l.drop i).any p = l.any p) ∧ Aside0 (Below w.heap.size w w'))
 case atStart => exact ⟨0, rfl, by omega, ⟨rfl⟩, ⟨Below.refl _ _⟩⟩
 case round =>
  obtain ⟨i, rfl, hi, HA, HB⟩ := hrel
  by_cases hil : i < l.length
  ·have hi1 : ((i : Int) < (l.length : Int)) = True := eq_true (by omega)
   have hi2 : decide ((i : Int) < (l.length : Int)) = true := decide_eq_true (by omega)
   cases gk with
   | zero => omega
   | succ gi =>
   obtain ⟨ad, e1, hgx⟩ := Kd.at_int (Kd.C_below HX.out HB.out) (i : Int) (by omega) (by omega)
   subst e1
   have hra : rd l (i : Int) = l[i] := by unfold rd; rw [Int.toNat_natCast, List.getD_eq_getElem?_getD, List.getElem?_eq_getElem hil]; rfl
   rw [hra, Int.toNat_natCast] at hgx
   have hm : l[i] ∈ l := List.getElem_mem hil
   have ha := HA.out
   rw [List.drop_eq_getElem_cons hil, List.any_cons] at ha
   have HC := Aside0.mk (HP.out wr HB.out _ hm)
   generalize l[i] = x at *
   clear hra HA
   cases hpx : p x
   ·rw [hpx] at HC ha
    have HA2 : Aside0 ((l.drop (i + 1)).any p = l.any p) := ⟨by simpa using ha⟩
    clear ha hpx hm
    go_wp2_with (go_at_call 55; refine HC.out.mono ?_; rintro e w3 ⟨rfl, hb⟩)
    go_roundg gi
    case measure => omega
    case rel => exact ⟨i + 1, by go_num, by omega, HA2, ⟨below_step HB.out hb⟩⟩
   ·rw [hpx] at HC ha
    have HA2 : Aside0 (true = l.any p) := ⟨by simpa using ha⟩
    clear ha hpx hm
    go_wp2_with (go_at_call 55; refine HC.out.mono ?_; rintro e w3 ⟨rfl, hb⟩)
    go_ret
    exact ⟨_, rfl, by rw [← HA2.out]; exact decide_eq_true (by omega), below_step HB.out hb⟩
  ·have hi1 : ((i : Int) < (l.length : Int)) = False := eq_false (by omega)
   have hi2 : decide ((i : Int) < (l.length : Int)) = false := decide_eq_false (by omega)
   have ha := HA.out
   rw [List.drop_eq_nil_of_le (by omega)] at ha
   have HA2 : Aside0 (false = l.any p) := ⟨ha⟩
   clear ha HA
   go_wp2
   go_ret
   exact ⟨_, rfl, by rw [← HA2.out]; rfl, HB.out⟩
set_option maxHeartbeats 8000000 in
set_option maxRecDepth 100000 in
theorem contains_cl (A : Option Addr) (c : Nat) (l : List Int) (s : Int) (uB : Nat) (w : World) (hx : Kd.C (Kd.int .i64) w A l.length l) (hl : l.length ≤ 1000) (hs : w.cell? ⟨uB, 0, none⟩ = some (.int .i64 s)) :
  Calls Tryd.prog 54 #[.slice A l.length c, .func (.func 55) #[] #[.pointer (some ⟨uB, 0, none⟩)]] w fun e w' => e = .returned (.bool (l.any fun b => Go.bits .andNot .i64 s b == 0)) ∧ Below w.heap.size w w' := by
 have HI := Aside0.mk (index_cl A c l (fun b => Go.bits .andNot .i64 s b == 0) uB w hx hl (fun W hW x _ => cl_call s x uB W ((hW.cell (World.block_lt_of_cell? w _ hs)).trans hs)))
 clear hx hl hs
 go_enter Tryd.func54, Tryd.ntmps54
 go_wp2_with (go_at_call 84; refine HI.out.mono ?_; rintro e w3 ⟨z, rfl, hz, hb⟩)
 go_ret
 exact ⟨by rw [← hz]; rfl, hb⟩
def lampblacklaw02_WidthCliques.f (k : Nat) (l0 : List Int) (l1_0 : List Int) (l1_1 : List Int) : Option Bool := if l0.length < 2 ^ 44 then some true else none
theorem R_ne {w : World} {base g : Nat} {ok : Nat → Prop} {v : Value} {l : List Int} (h : Kd.R (Kd.int .i64) 3 w base ok v l) (hg : g < base ∨ w.heap.size ≤ g) : Kd.R (Kd.int .i64) 3 w base (fun k => k ≠ g) v l :=
 Kd.R_of_own (Kd.own_of_R h) (fun k hk => by have := own_base2 (Kd.own_of_R h) k hk; have := own_lt2 (Kd.own_of_R h) k hk; show k ≠ g; omega)
theorem few_c (Ag : Option Addr) (cg : Nat) (g h : List Int) (e : lampblacklaw02_Few.f g = some h) (w : World) (hr : Kd.C (Kd.int .i64) w Ag g.length g) (hc : g.length ≤ cg) :
  Calls Tryd.prog 19 #[.slice Ag g.length cg] w fun e w' => ∃ A c, e = .returned (.slice A h.length c) ∧ h.length ≤ c ∧ Kd.C (Kd.int .i64) w' A h.length h ∧ Below w.heap.size w w' := by
 refine (lampblacklaw02_Few.calls Ag cg g h w hr hc e).mono ?_
 rintro e w' ⟨v, rfl, hv, hb⟩
 obtain ⟨A, c, rfl, h1, h2⟩ := Kd.R_reads hv
 exact ⟨A, c, rfl, h1, h2, hb⟩
theorem of_c (A0 : Option Addr) (c0 : Nat) (B : List Int) (A1 : Option Addr) (c1 : Nat) (P : List Int) (w : World) (hr0 : Kd.C (Kd.int .i64) w A0 B.length B) (hc0 : B.length ≤ c0) (hr1 : Kd.C (Kd.int .i64) w A1 P.length P) (hc1 : P.length ≤ c1) :
  Calls Tryd.prog 44 #[.agg #[.slice A0 B.length c0, .slice A1 P.length c1]] w fun e w' => ∃ A2 c2 A3 c3, e = .returned (.agg #[.slice A2 (B.take 210).length c2, .slice A3 (P.take 210).length c3]) ∧ (B.take 210).length ≤ c2 ∧ Kd.C (Kd.int .i64) w' A2 (B.take 210).length (B.take 210) ∧ (P.take 210).length ≤ c3 ∧ Kd.C (Kd.int .i64) w' A3 (P.take 210).length (P.take 210) ∧ Below w.heap.size w w' := by
 refine (lampblacklaw02_Of.calls A0 c0 B A1 c1 P _ _ w hr0 hc0 hr1 hc1 (Of_eq B P)).mono ?_
 rintro e w' ⟨v0, v1, rfl, h0, h1, hb⟩
 obtain ⟨A, c, rfl, h2, h3⟩ := Kd.R_reads h0
 obtain ⟨A', c', rfl, h4, h5⟩ := Kd.R_reads h1
 exact ⟨A, c, A', c', rfl, h2, h3, h4, h5, hb⟩
theorem awake_c (w : World) (hGL : GL w) : Calls Tryd.prog 20 #[] w fun e w' => e = .returned (.bool true) ∧ Below w.heap.size w w' := by
 obtain ⟨K, hK⟩ := awake_ev
 exact lampblacklaw02_awake.calls K true w hGL (hK K (Nat.le_refl _))
theorem dec_yes {G : List Nat} (hG : Gr 9 G) : ∃ B P, TD G B P ∧ ∀ (W : World) (A : Option Addr) (c : Nat), GL W → (gi G).length ≤ c → Kd.C (Kd.int .i64) W A (gi G).length (gi G) →
  Calls Tryd.prog 52 #[.slice A (gi G).length c] W fun e w' => ∃ A0 c0 A1 c1, e = .returned (.tuple #[.agg #[.slice A0 B.length c0, .slice A1 P.length c1], .int .i64 0]) ∧ B.length ≤ c0 ∧ Kd.C (Kd.int .i64) w' A0 B.length B ∧ P.length ≤ c1 ∧ Kd.C (Kd.int .i64) w' A1 P.length P ∧ Below W.heap.size W w' := by
 obtain ⟨Wd, hW, _⟩ := width_exists hG
 obtain ⟨o1, o2, o3, o4⟩ := ordL_is hG hW
 have hO : OrdL G (ordL G Wd) := ⟨o1, o2, o3⟩
 obtain ⟨K, hK⟩ := Decompose_ev hG hW
 refine ⟨_, _, decomp_td hG hO, fun W A c hGL hc hr => ?_⟩
 refine (width_Decompose.calls K A c (gi G) _ _ _ W hGL hr hc (hK K (Nat.le_refl _))).mono ?_
 rintro e w' ⟨v0, v1, rfl, h0, h1, hb⟩
 obtain ⟨A, c, rfl, h2, h3⟩ := Kd.R_reads h0
 obtain ⟨A', c', rfl, h4, h5⟩ := Kd.R_reads h1
 exact ⟨A, c, A', c', rfl, h2, h3, h4, h5, hb⟩
theorem dec_no (g : List Int) (hl : g.length < 2 ^ 60) (h : chk 9 g = false) (W : World) (A : Option Addr) (c : Nat) (hGL : GL W) (hc : g.length ≤ c) (hr : Kd.C (Kd.int .i64) W A g.length g) :
  Calls Tryd.prog 52 #[.slice A g.length c] W fun e w' => ∃ A0 c0 A1 c1, e = .returned (.tuple #[.agg #[.slice A0 0 c0, .slice A1 0 c1], .int .i64 2]) ∧ Below W.heap.size W w' := by
 obtain ⟨K, hK⟩ := Decompose_bad g hl h
 refine (width_Decompose.calls K A c g _ _ _ W hGL hr hc (hK K (Nat.le_refl _))).mono ?_
 rintro e w' ⟨v0, v1, rfl, h0, h1, hb⟩
 obtain ⟨A, c, rfl, h2, h3⟩ := Kd.R_reads h0
 obtain ⟨A', c', rfl, h4, h5⟩ := Kd.R_reads h1
 exact ⟨A, c, A', c', rfl, hb⟩
theorem nar_yes {G : List Nat} (hG : Gr 9 G) {B P : List Int} (h : TD G B P) : ∃ B' P', TD G B' P' ∧ ∀ (W : World) (A : Option Addr) (c : Nat) (A0 : Option Addr) (c0 : Nat) (A1 : Option Addr) (c1 : Nat), GL W → (gi G).length ≤ c → Kd.C (Kd.int .i64) W A (gi G).length (gi G) → B.length ≤ c0 → Kd.C (Kd.int .i64) W A0 B.length B → P.length ≤ c1 → Kd.C (Kd.int .i64) W A1 P.length P →
  Calls Tryd.prog 43 #[.slice A (gi G).length c, .agg #[.slice A0 B.length c0, .slice A1 P.length c1]] W fun e w' => ∃ A2 c2 A3 c3, e = .returned (.tuple #[.agg #[.slice A2 B'.length c2, .slice A3 P'.length c3], .int .i64 0]) ∧ (∀ g, g < W.heap.size ∨ w'.heap.size ≤ g → Kd.R (Kd.int .i64) 3 w' W.heap.size (fun k => k ≠ g) (.slice A2 B'.length c2) B' ∧ Kd.R (Kd.int .i64) 3 w' W.heap.size (fun k => k ≠ g) (.slice A3 P'.length c3) P') ∧ Below W.heap.size W w' := by
 have hn : width_Narrow.f (gi G) B P = some ((narN B.length B P).1, (narN B.length B P).2, 0) := by
  unfold width_Narrow.f
  rw [if_pos ((chk_iff 9 (by omega) _).2 ⟨G, rfl, hG⟩), gi_toNatN, if_pos ((treeB_iff hG B P).2 h)]
 obtain ⟨s1, s2, s3⟩ := nar_spec hG B.length B P (Nat.le_refl _) h
 refine ⟨_, _, s1, fun W A c A0 c0 A1 c1 hGL hc hr hc0 hr0 hc1 hr1 => ?_⟩
 refine (width_Narrow.calls A c (gi G) A0 c0 B A1 c1 P _ _ _ W hGL hr hc hr0 hc0 hr1 hc1 hn).mono ?_
 rintro e w' ⟨v0, v1, rfl, h0, h1, hb⟩
 obtain ⟨A, c, e0, h2, h3⟩ := Kd.R_reads h0
 obtain ⟨A', c', e1, h4, h5⟩ := Kd.R_reads h1
 subst e0 e1
 exact ⟨A, c, A', c', rfl, fun g hg => ⟨R_ne h0 hg, R_ne h1 hg⟩, hb⟩
theorem check_c {G : List Nat} (hG : Gr 9 G) (B P : List Int) : ∃ (n : Int) (ok : Bool), (ok = true → TD G B P) ∧ ∀ (W : World) (A : Option Addr) (c : Nat) (A0 : Option Addr) (c0 : Nat) (A1 : Option Addr) (c1 : Nat), GL W → (gi G).length ≤ c → Kd.C (Kd.int .i64) W A (gi G).length (gi G) → B.length ≤ c0 → Kd.C (Kd.int .i64) W A0 B.length B → P.length ≤ c1 → Kd.C (Kd.int .i64) W A1 P.length P →
  Calls Tryd.prog 50 #[.slice A (gi G).length c, .agg #[.slice A0 B.length c0, .slice A1 P.length c1]] W fun e w' => e = .returned (.tuple #[.int .i64 n, .bool ok, .int .i64 0]) ∧ Below W.heap.size W w' := by
 obtain ⟨r, hr, hr'⟩ := Check_ev hG B P
 obtain ⟨K, hK⟩ := hr
 have hk := hK K (Nat.le_refl _)
 rcases hr' with ⟨h, e⟩ | ⟨h, e⟩
 ·subst e
  exact ⟨_, true, fun _ => h, fun W A c A0 c0 A1 c1 hGL hc hr hc0 hr0 hc1 hr1 => width_Check.calls K A c (gi G) A0 c0 B A1 c1 P _ _ _ W hGL hr hc hr0 hc0 hr1 hc1 hk⟩
 ·subst e
  exact ⟨_, false, fun h => (by cases h), fun W A c A0 c0 A1 c1 hGL hc hr hc0 hr0 hc1 hr1 => width_Check.calls K A c (gi G) A0 c0 B A1 c1 P _ _ _ W hGL hr hc hr0 hc0 hr1 hc1 hk⟩
set_option maxHeartbeats 8000000 in
set_option maxRecDepth 100000 in
theorem cliques_no (Ag : Option Addr) (cg : Nat) (g : List Int) (A0 : Option Addr) (c0 : Nat) (B : List Int) (A1 : Option Addr) (c1 : Nat) (P : List Int) (w : World) (hGL : GL w) (hrg : Kd.C (Kd.int .i64) w Ag g.length g) (hcg : g.length ≤ cg) (hl : g.length < 2 ^ 44) (hchk : chk 9 g = false) :
  Calls Tryd.prog 13 #[.slice Ag g.length cg, .agg #[.slice A0 B.length c0, .slice A1 P.length c1]] w fun e w' => e = .returned (.bool true) ∧ Below w.heap.size w w' := by
 obtain ⟨h, e, e1, e2, e3⟩ := few_eq g hl
 have HFW : Aside0 (∀ W, Below w.heap.size w W → Calls Tryd.prog 19 #[.slice Ag g.length cg] W fun e w' => ∃ A c, e = .returned (.slice A h.length c) ∧ h.length ≤ c ∧ Kd.C (Kd.int .i64) w' A h.length h ∧ Below W.heap.size W w') := ⟨fun W hW => few_c Ag cg g h e W (Kd.C_below hrg hW) hcg⟩
 have HDC : Aside0 (∀ W A c, Below w.heap.size w W → h.length ≤ c → Kd.C (Kd.int .i64) W A h.length h → Calls Tryd.prog 52 #[.slice A h.length c] W fun e w' => ∃ A0 c0 A1 c1, e = .returned (.tuple #[.agg #[.slice A0 0 c0, .slice A1 0 c1], .int .i64 2]) ∧ Below W.heap.size W w') := ⟨fun W A c hW hc hr => dec_no h (by omega) (e2 hchk) W A c (GL_below hGL hW) hc hr⟩
 have HAW : Aside0 (∀ W, Below w.heap.size w W → Calls Tryd.prog 20 #[] W fun e w' => e = .returned (.bool true) ∧ Below W.heap.size W w') := ⟨fun W hW => awake_c W (GL_below hGL hW)⟩
 have hu52 := Tryd.underlying52
 have hu53 := Tryd.underlying53
 clear hrg hcg hl hchk e e1 e2 e3 hGL
 generalize g.length = n at *
 generalize h.length = m at *
 go_enter Tryd.func13, Tryd.ntmps13
 go_wp2_with (first | ((with_reducible refine gate_dst (N := 3) rfl ?_); refine box_event ?hg (N := 3) ?hd (cs := #[.slice A0 B.length c0, .slice A1 P.length c1]) (t := 52) ?hr ?_; (case hd => rfl); (case hg => rfl); (case hr => first | (go_simp; done) | (go_simp; rfl)); intro xB hxB w1 hbox hb1; have HB1 := Aside0.mk hb1; clear hbox hb1 hxB) | (go_at_call 19; refine (HFW.out _ HB1.out).mono ?_; rintro e w3 ⟨A2, c2, rfl, hc2, hC2, hb3⟩; have HB3 := Aside0.mk (below_step HB1.out hb3); have HD3 := Aside0.mk (HDC.out w3 A2 c2 HB3.out hc2 hC2); clear hb3 hc2 hC2) | (go_at_call 52; refine HD3.out.mono ?_; rintro e w4 ⟨A3, c3, A4, c4, rfl, hb4⟩; have HB4 := Aside0.mk (below_alloc (below_step HB3.out hb4) (Obj.cells #[.slice A3 0 c3, .slice A4 0 c4] 53)); clear hb4) | (go_at_call 20; refine (HAW.out _ HB4.out).mono ?_; rintro e w5 ⟨rfl, hb5⟩; have HB5 := Aside0.mk (below_step HB4.out hb5); clear hb5))
 go_ret
 exact ⟨rfl, HB5.out⟩
def TRS (G : List Nat) (W : World) (g n : Nat) : Prop := ∀ z, z < n → ∃ A c B A' c' P, W.cell? ⟨g, 2 * z, none⟩ = some (.slice A (B : List Int).length c) ∧ W.cell? ⟨g, 2 * z + 1, none⟩ = some (.slice A' (P : List Int).length c') ∧ Kd.C (Kd.int .i64) W A B.length B ∧ TD G B P
theorem TRS.kept {G : List Nat} {W V : World} {g n : Nat} (h : TRS G W g n) (hb : Below W.heap.size W V) : TRS G V g n := fun z hz => by
 obtain ⟨A, c, B, A', c', P, h1, h2, h3, h4⟩ := h z hz
 exact ⟨A, c, B, A', c', P, cell_be h1 hb, cell_be h2 hb, Kd.C_below h3 hb, h4⟩
theorem blk_adds {w : World} {g : Nat} {t : TypeId} {l : List Value} (h : w.heap[g]? = some (.cells l.toArray t (0, 0))) : ∀ j u, l[j]? = some u → w.cell? ((⟨g, 0, none⟩ : Addr).add j) = some u := by
 intro j u hj
 rw [show (⟨g, 0, none⟩ : Addr).add j = ⟨g, j, none⟩ from (by simp [Addr.add]; intro h; exact h.symm), blk_cell h j]
 simpa using hj
theorem grow_belowC {w w1 : World} (h : w.grownBy w1 none) : Below w.heap.size w w1 := ⟨h.os, h.tape, h.output, h.size, fun k hk => h.block k hk (by simp)⟩
theorem info53 : (Tryd.prog.info? 53).map (fun i => (i.zero, i.size, i.bytes)) = some (some (.agg #[.slice none 0 0, .slice none 0 0]), 2, 48) := by kernel_rfl
structure NY (w4 W : World) (A2 : Option Addr) (c2 : Nat) (A3 : Option Addr) (c3 gY : Nat) (B P : List Int) : Prop where
 rB : Kd.R (Kd.int .i64) 3 W w4.heap.size (fun k => k ≠ gY) (.slice A2 B.length c2) B
 rP : Kd.R (Kd.int .i64) 3 W w4.heap.size (fun k => k ≠ gY) (.slice A3 P.length c3) P
 blk : W.heap[gY]? = some nilO
 ge : w4.heap.size ≤ gY
section
variable {w4 W w5 w6 : World} {A2 A3 : Option Addr} {c2 c3 : Nat} {B P : List Int}
abbrev NR (W w' : World) (A2 : Option Addr) (c2 : Nat) (A3 : Option Addr) (c3 : Nat) (B P : List Int) : Prop := ∀ g, g < W.heap.size ∨ w'.heap.size ≤ g → Kd.R (Kd.int .i64) 3 w' W.heap.size (fun k => k ≠ g) (.slice A2 B.length c2) B ∧ Kd.R (Kd.int .i64) 3 w' W.heap.size (fun k => k ≠ g) (.slice A3 P.length c3) P
theorem ny137 (h4 : Below w4.heap.size w4 w5) (hR : NR w5 w6 A2 c2 A3 c3 B P) (hb : Below w5.heap.size w5 w6) : NY w4 (w6.alloc nilO) A2 c2 A3 c3 w6.heap.size B P := by
 obtain ⟨a, b⟩ := hR w6.heap.size (.inr (Nat.le_refl _))
 have c := h4.size; have d := hb.size
 exact ⟨Kd.R_lower (Kd.R_alloc a _) (by omega), Kd.R_lower (Kd.R_alloc b _) (by omega), blk_new _ _, by omega⟩
theorem ny173 (h4 : Below w4.heap.size w4 w5) (hR : NR (w5.alloc nilO) w6 A2 c2 A3 c3 B P) (hb : Below (w5.alloc nilO).heap.size (w5.alloc nilO) w6) : NY w4 w6 A2 c2 A3 c3 w5.heap.size B P := by
 have e : (w5.alloc nilO).heap.size = w5.heap.size + 1 := by simp
 obtain ⟨a, b⟩ := hR w5.heap.size (.inl (by omega))
 have c := h4.size
 exact ⟨Kd.R_lower a (by omega), Kd.R_lower b (by omega), blk_below (blk_new _ _) hb, c⟩
theorem ny713 (h4 : Below w4.heap.size w4 W) (h5 : Below (W.alloc nilO).heap.size (W.alloc nilO) w5) (hR : NR w5 w6 A2 c2 A3 c3 B P) (hb : Below w5.heap.size w5 w6) : NY w4 w6 A2 c2 A3 c3 W.heap.size B P := by
 have e : (W.alloc nilO).heap.size = W.heap.size + 1 := by simp
 have f := h5.size
 obtain ⟨a, b⟩ := hR W.heap.size (.inl (by omega))
 have c := h4.size
 exact ⟨Kd.R_lower a (by omega), Kd.R_lower b (by omega), blk_below (blk_below (blk_new _ _) h5) hb, c⟩
end
theorem bitJ0 (a y : Nat) (ha : a < 2 ^ 62) (hy : y < 62) : ∃ J : Int, ((a : Int) / 2 ^ min y 64) = J ∧ ((a : Int) / 2 ^ y) = J ∧ shr .i64 (a : Int) (y : Int) = J ∧ Go.bits .and .i64 J 1 = ((a.testBit y).toNat : Int) := by
 have e := bit_at a y ha hy
 have e2 := s_shr a y hy
 refine ⟨_, ?_, rfl, ?_, ?_⟩
 ·rw [Nat.min_eq_left (by omega)]
 ·rw [e2]; simp
 ·rw [← e, e2]; simp
theorem cliB_false {G : List Nat} {s v : Nat} (h : cliB G s v = false) : cliB G s (v + 1) = false := by rw [cliB, h]; rfl
theorem cliB_nob {G : List Nat} {s v : Nat} (h : cliB G s v = true) (hb : s.testBit v = false) : cliB G s (v + 1) = true := by rw [cliB, h, hb]; rfl
theorem cliB_bit {G : List Nat} {s v : Nat} (h : cliB G s v = true) (hb : s.testBit v = true) : cliB G s (v + 1) = decide (diff (diff s (G.getD v 0)) (2 ^ v) = 0) := by rw [cliB, h, hb]; simp
theorem cl_nums {G : List Nat} (hG : Gr 9 G) {s v : Nat} (hs : s < 2 ^ G.length) (hv : v < G.length) : ∃ (X J1 J2 D1 D2 : Int) (bz : Bool), X = rd (gi G) (v : Int) ∧ Go.bits .andNot .i64 (s : Int) X = D1 ∧ wrap64 (2 ^ v) = J2 ∧ wrap64 (2 ^ min v 64) = J2 ∧ shl .i64 1 (v : Int) = J2 ∧ Go.bits .andNot .i64 D1 J2 = D2 ∧ (D2 == 0) = bz ∧ decide (D2 = 0) = bz ∧ bz = decide (diff (diff s (G.getD v 0)) (2 ^ v) = 0) := by
 have hn := hG.most
 have hs9 : s < 512 := Nat.lt_of_lt_of_le hs (Nat.le_trans (Nat.pow_le_pow_right (by omega) hn) (by decide))
 obtain ⟨J, ⟨h1, h2, h3⟩, hJ⟩ := shK v (by omega)
 have hx : rd (gi G) (v : Int) = ((G.getD v 0 : Nat) : Int) := rd_gi G v
 have hg : G.getD v 0 < 2 ^ 62 := by
  have := hG.row v
  exact Nat.lt_of_lt_of_le this (Nat.le_trans (Nat.pow_le_pow_right (by omega) hn) (by decide))
 have hp : 2 ^ v < 2 ^ 62 := Nat.pow_lt_pow_right (by omega) (by omega)
 have hd : diff s (G.getD v 0) < 2 ^ 62 := Nat.lt_of_le_of_lt (diff_le _ _) (by omega)
 refine ⟨_, 0, J, _, _, _, rfl, rfl, h1, h2, h3, rfl, rfl, ?_, ?_⟩
 ·rfl
 ·rw [hx, b_andNot s _ (by omega) hg, hJ, b_andNot _ _ hd hp]
  generalize diff (diff s (G.getD v 0)) (2 ^ v) = d
  by_cases e : d = 0
  ·rw [e]; rfl
  ·rw [decide_eq_false e]
   simp [e]
set_option maxHeartbeats 8000000 in
set_option maxRecDepth 100000 in
theorem cliques_yes {G : List Nat} (hG : Gr 9 G) (Ag : Option Addr) (cg : Nat) (A0 : Option Addr) (c0 : Nat) (B : List Int) (A1 : Option Addr) (c1 : Nat) (P : List Int) (w : World) (hGL : GL w) (hrg : Kd.C (Kd.int .i64) w Ag (gi G).length (gi G)) (hcg : (gi G).length ≤ cg) (hr0 : Kd.C (Kd.int .i64) w A0 B.length B) (hc0 : B.length ≤ c0) (hr1 : Kd.C (Kd.int .i64) w A1 P.length P) (hc1 : P.length ≤ c1) :
  Calls Tryd.prog 13 #[.slice Ag (gi G).length cg, .agg #[.slice A0 B.length c0, .slice A1 P.length c1]] w fun e w' => e = .returned (.bool true) ∧ Below w.heap.size w w' := by
 have hn9 := hG.most
 obtain ⟨h, e, e1, e2, e3⟩ := few_eq (gi G) (by rw [gi_length]; omega)
 have hfw : lampblacklaw02_Few.f (gi G) = some (gi G) := by rw [e, e1 ((chk_iff 9 (by omega) _).2 ⟨G, rfl, hG⟩)]
 clear e e1 e2 e3
 obtain ⟨B2, P2, hT2, hdc⟩ := dec_yes hG
 obtain ⟨B3, P3, hT3, hna⟩ := nar_yes hG hT2
 obtain ⟨nk, ok, hok, hck⟩ := check_c hG (B.take 210) (P.take 210)
 have HFW : Aside0 (∀ W, Below w.heap.size w W → Calls Tryd.prog 19 #[.slice Ag (gi G).length cg] W fun e w' => ∃ A c, e = .returned (.slice A (gi G).length c) ∧ (gi G).length ≤ c ∧ Kd.C (Kd.int .i64) w' A (gi G).length (gi G) ∧ Below W.heap.size W w') := ⟨fun W hW => few_c Ag cg (gi G) (gi G) hfw W (Kd.C_below hrg hW) hcg⟩
 have HAW : Aside0 (∀ W, Below w.heap.size w W → Calls Tryd.prog 20 #[] W fun e w' => e = .returned (.bool true) ∧ Below W.heap.size W w') := ⟨fun W hW => awake_c W (GL_below hGL hW)⟩
 have HOF : Aside0 (∀ W, Below w.heap.size w W → Calls Tryd.prog 44 #[.agg #[.slice A0 B.length c0, .slice A1 P.length c1]] W fun e w' => ∃ A2 c2 A3 c3, e = .returned (.agg #[.slice A2 (B.take 210).length c2, .slice A3 (P.take 210).length c3]) ∧ (B.take 210).length ≤ c2 ∧ Kd.C (Kd.int .i64) w' A2 (B.take 210).length (B.take 210) ∧ (P.take 210).length ≤ c3 ∧ Kd.C (Kd.int .i64) w' A3 (P.take 210).length (P.take 210) ∧ Below W.heap.size W w') := ⟨fun W hW => of_c A0 c0 B A1 c1 P W (Kd.C_below hr0 hW) hc0 (Kd.C_below hr1 hW) hc1⟩
 have HGL := Aside0.mk hGL
 have HDC := Aside0.mk hdc
 have HNA := Aside0.mk hna
 have HCK := Aside0.mk hck
 have HRG := Aside0.mk hrg
 have HT2 := Aside0.mk hT2
 have HT3 := Aside0.mk hT3
 have HOK := Aside0.mk hok
 have HG := Aside0.mk hG
 have hu52 := Tryd.underlying52
 have hu53 := Tryd.underlying53
 clear hrg hcg hr0 hr1 hc0 hc1 hGL hdc hna hck hT2 hT3 hok hfw hG
 have hgl : (gi G).length = G.length := gi_length G
 rw [hgl] at HFW HRG ⊢
 rw [hgl] at HDC HNA HCK
 clear hgl
 generalize hB4 : B.take 210 = B4 at *
 generalize hP4 : P.take 210 = P4 at *
 clear hB4 hP4
 go_enter Tryd.func13, Tryd.ntmps13
 go_wp2_with (first | ((with_reducible refine gate_dst (N := 3) rfl ?_); refine box_event ?hg (N := 3) ?hd (cs := #[.slice A0 B.length c0, .slice A1 P.length c1]) (t := 52) ?hr ?_; (case hd => rfl); (case hg => rfl); (case hr => first | (go_simp; done) | (go_simp; rfl)); intro xB hxB w1 hbox hb1; have HX1 := Aside0.mk hbox; have HB1 := Aside0.mk hb1; clear hbox hb1 hxB) | (go_at_call 19; refine (HFW.out _ HB1.out).mono ?_; rintro e w3 ⟨Af, cf, rfl, hcf, hCf, hb3⟩; have HX3 := Aside0.mk (blk_below HX1.out hb3); have HB3 := Aside0.mk (below_step HB1.out hb3); have HD3 := Aside0.mk (HDC.out w3 Af cf (GL_below HGL.out HB3.out) hcf hCf); clear hb3 hcf hCf) | (go_at_call 52; refine HD3.out.mono ?_; rintro e w4 ⟨A5, c5, A6, c6, rfl, h5, h6, h7, h8, hb4⟩; have HX4 := Aside0.mk (blk_below HX3.out hb4); have HB4 := Aside0.mk (below_step HB3.out hb4); have HC4 := Aside0.mk (And.intro (And.intro h5 h7) (And.intro h6 h8)); clear h5 h6 h7 h8 hb4))
 clear HX1 HX3 HB1 HB3 HD3 HDC
 obtain ⟨wa, hwa⟩ : ∃ W : World, W = w4.alloc (Obj.cells #[.slice A5 B2.length c5, .slice A6 P2.length c6] 53) := ⟨_, rfl⟩
 have hblk : wa.heap[w4.heap.size]? = some (.cells #[.slice A5 B2.length c5, .slice A6 P2.length c6] 53 (0, 0)) := by rw [hwa]; exact Array.getElem?_push_size
 have hBa : Below w4.heap.size w4 wa := by rw [hwa]; exact below_alloc (Below.refl _ _) _
 rw [← hwa]
 clear hwa
 have HXT := Aside0.mk hblk
 have HXB := Aside0.mk (blk_below HX4.out hBa)
 have HBA := Aside0.mk (below_step HB4.out hBa)
 have HC5 := Aside0.mk (And.intro (Kd.C_below HC4.out.2.1 hBa) (Kd.C_below HC4.out.2.2 hBa))
 have HL5 := Aside0.mk HC4.out.1
 clear hBa hblk HX4 HB4 HC4
 generalize w4.heap.size = xT at *
 have HN : Aside0 (∀ W A c, Below wa.heap.size wa W → G.length ≤ c → Kd.C (Kd.int .i64) W A G.length (gi G) → Calls Tryd.prog 43 #[.slice A G.length c, .agg #[.slice A5 B2.length c5, .slice A6 P2.length c6]] W fun e w' => ∃ A2 c2 A3 c3, e = .returned (.tuple #[.agg #[.slice A2 B3.length c2, .slice A3 P3.length c3], .int .i64 0]) ∧ NR W w' A2 c2 A3 c3 B3 P3 ∧ Below W.heap.size W w') := ⟨fun W A c hW hc hC => HNA.out W A c A5 c5 A6 c6 (GL_below HGL.out (below_step HBA.out hW)) hc hC HL5.out.1 (Kd.C_below HC5.out.1 hW) HL5.out.2 (Kd.C_below HC5.out.2 hW)⟩
 have f0d : wa.drew.cell? ⟨xT, 0, none⟩ = some (.slice A5 B2.length c5) := (blk_cell HXT.out 0).trans rfl
 have f1d : wa.drew.cell? ⟨xT, 1, none⟩ = some (.slice A6 P2.length c6) := (blk_cell HXT.out 1).trans rfl
 have f2d : Below wa.heap.size wa wa.drew := below_drew (Below.refl _ _)
 clear HNA
 refine start_ (n := 10) (S := fun w' => w'.cell? ⟨xT, 0, none⟩ = some (.slice A5 B2.length c5) ∧ w'.cell? ⟨xT, 1, none⟩ = some (.slice A6 P2.length c6) ∧ Below wa.heap.size wa w') (ds := [8]) (Qbz 10 0) (by kernel_rfl) rfl rfl ⟨f0d, f1d, f2d⟩ (fun hHeld => ?_)
 refine Qpu 0 31 ?_ ?_ (Qbz 10 1) (by kernel_rfl) ?_
 refine take_ (i := 2) (N := some 33) (v := ?_) (a' := ?_) (Qbz 10 5) rfl rfl (by kernel_rfl) (fun _ _ _ h => h) (Or.inl ⟨by rfl, ?_⟩) hHeld ?_ ?_;rotate_left;(·rintro w' ⟨s0, s1, s2⟩;go_simp;with_reducible rfl);rotate_left;(·simp only [Act.put, Qp1, Qp2, Qp3, i64_w, i32_w];rfl)
 refine join_ (σ := Option Addr × Nat × Option Addr × Nat × Option Addr × Nat × Nat) 2 (Qbz 10 255) (fun s => [(32, .slice s.1 G.length s.2.1), (34, .tuple #[.agg #[.slice s.2.2.1 B3.length s.2.2.2.1, .slice s.2.2.2.2.1 P3.length s.2.2.2.2.2.1], .int .i64 0]), (30, .tuple #[.agg #[.slice s.2.2.1 B3.length s.2.2.2.1, .slice s.2.2.2.2.1 P3.length s.2.2.2.2.2.1], .int .i64 0]), (35, .agg #[.slice s.2.2.1 B3.length s.2.2.2.1, .slice s.2.2.2.2.1 P3.length s.2.2.2.2.2.1]), (36, .int .i64 0), (7, .pointer (some ⟨s.2.2.2.2.2.2, 0, none⟩))]) (fun s w' => NY wa w' s.2.2.1 s.2.2.2.1 s.2.2.2.2.1 s.2.2.2.2.2.1 s.2.2.2.2.2.2 B3 P3 ∧ (w'.cell? ⟨xT, 0, none⟩ = some (.slice A5 B2.length c5) ∧ w'.cell? ⟨xT, 1, none⟩ = some (.slice A6 P2.length c6) ∧ Below wa.heap.size wa w')) ?_ ?_
 rotate_left
 ·intro hCont
  refine two_ (i := 1) (j := 7) (Ni := some 32) (Nj := some 7) (Qbz 10 7) (Qbz 10 133) rfl rfl rfl rfl (by kernel_rfl) (by decide) (by decide) (fun K hK => ?_) (fun K hK => ?_)
  ·skip
   refine goes_ Tryd.func19 (by kernel_rfl) rfl #[.slice Ag G.length cg] (by rfl) rfl rfl (by simp only [List.map_toArray, List.map_cons, List.map_nil]; rfl) ?_
   with_reducible refine (HFW.out _ (below_step HBA.out hHeld.2.2)).mono ?_
   rintro e w5 ⟨Af2, cf2, rfl, hcf, hCf, hb5⟩
   refine ⟨_, rfl, ?_⟩
   refine hK.out _ _ ⟨cell_be hHeld.1 hb5, cell_be hHeld.2.1 hb5, below_step hHeld.2.2 hb5⟩ (fun hHeld => ?_)
   clear hK K
   refine norm_ (a' := ?_) ?_ ?_
   rotate_left
   ·show Act.put _ (some 32) _ = _
    simp only [Act.put, Qp1, Qp2, Qp3, i64_w, i32_w]
    rfl
   refine two_ (i := 3) (j := 7) (Ni := some 34) (Nj := some 7) (Qbz 10 15) (Qbz 10 135) rfl rfl rfl rfl (by kernel_rfl) (by decide) (by decide) (fun K hK => ?_) (fun K hK => ?_)
   ·skip
    refine goes_ Tryd.func43 (by kernel_rfl) rfl #[.slice Af2 G.length cf2, .agg #[.slice A5 B2.length c5, .slice A6 P2.length c6]] (by rfl) rfl rfl (by simp only [List.map_toArray, List.map_cons, List.map_nil]; rfl) ?_
    with_reducible refine (HN.out _ Af2 cf2 hHeld.2.2 hcf hCf).mono ?_
    rintro e w6 ⟨A7, c7, A8, c8, rfl, hR6, hb6⟩
    refine ⟨_, rfl, ?_⟩
    refine hK.out _ _ ⟨cell_be hHeld.1 hb6, cell_be hHeld.2.1 hb6, below_step hHeld.2.2 hb6⟩ (fun hHeld => ?_)
    clear hK K
    refine norm_ (a' := ?_) ?_ ?_
    rotate_left
    ·show Act.put _ (some 34) _ = _
     simp only [Act.put, Qp1, Qp2, Qp3, i64_w, i32_w]
     rfl
    refine Qpu 4 30 ?_ ?_ (Qbz 10 31) (by kernel_rfl) ?_
    refine Qpu 5 35 ?_ ?_ (Qbz 10 63) (by kernel_rfl) ?_
    refine Qpu 6 36 ?_ ?_ (Qbz 10 127) (by kernel_rfl) ?_
    refine one_ (i := 7) (N := some 7) (Qbz 10 255) rfl rfl (by kernel_rfl) (by decide) (fun K hK => ?_)
    refine value_ (w1 := ?_) (v := ?_) (by rfl) rfl ?_ ?_
    rotate_left 2
    ·go_simp
     constructor
     ·rfl
     ·rfl
    refine hK.out _ _ ⟨cell_al hHeld.1 nilO, cell_al hHeld.2.1 nilO, below_alloc hHeld.2.2 nilO⟩ (fun hHeld => ?_)
    clear hK K
    refine norm_ (a' := ?_) ?_ ?_
    rotate_left
    ·show Act.put _ (some 7) _ = _
     simp only [Act.put, Qp1, Qp2, Qp3, i64_w, i32_w]
     rfl
    exact norm_ (by simp only [putAll, Act.put, List.setIfInBounds_toArray, List.set_cons_zero, List.set_cons_succ]) (hCont (Af2, cf2, A7, c7, A8, c8, w6.heap.size) _ ⟨ny137 (below_step f2d hb5) hR6 hb6, hHeld⟩)
   ·skip
    refine value_ (w1 := ?_) (v := ?_) (by rfl) rfl ?_ ?_
    rotate_left 2
    ·go_simp
     constructor
     ·rfl
     ·rfl
    refine hK.out _ _ ⟨cell_al hHeld.1 nilO, cell_al hHeld.2.1 nilO, below_alloc hHeld.2.2 nilO⟩ (fun hHeld => ?_)
    clear hK K
    refine norm_ (a' := ?_) ?_ ?_
    rotate_left
    ·show Act.put _ (some 7) _ = _
     simp only [Act.put, Qp1, Qp2, Qp3, i64_w, i32_w]
     rfl
    refine one_ (i := 3) (N := some 34) (Qbz 10 143) rfl rfl (by kernel_rfl) (by decide) (fun K hK => ?_)
    refine goes_ Tryd.func43 (by kernel_rfl) rfl #[.slice Af2 G.length cf2, .agg #[.slice A5 B2.length c5, .slice A6 P2.length c6]] (by rfl) rfl rfl (by simp only [List.map_toArray, List.map_cons, List.map_nil]; rfl) ?_
    with_reducible refine (HN.out _ Af2 cf2 hHeld.2.2 hcf (Kd.C_alloc hCf _)).mono ?_
    rintro e w6 ⟨A7, c7, A8, c8, rfl, hR6, hb6⟩
    refine ⟨_, rfl, ?_⟩
    refine hK.out _ _ ⟨cell_be hHeld.1 hb6, cell_be hHeld.2.1 hb6, below_step hHeld.2.2 hb6⟩ (fun hHeld => ?_)
    clear hK K
    refine norm_ (a' := ?_) ?_ ?_
    rotate_left
    ·show Act.put _ (some 34) _ = _
     simp only [Act.put, Qp1, Qp2, Qp3, i64_w, i32_w]
     rfl
    refine Qpu 4 30 ?_ ?_ (Qbz 10 159) (by kernel_rfl) ?_
    refine Qpu 5 35 ?_ ?_ (Qbz 10 191) (by kernel_rfl) ?_
    refine Qpu 6 36 ?_ ?_ (Qbz 10 255) (by kernel_rfl) ?_
    exact norm_ (by simp only [putAll, Act.put, List.setIfInBounds_toArray, List.set_cons_zero, List.set_cons_succ]) (hCont (Af2, cf2, A7, c7, A8, c8, w5.heap.size) _ ⟨ny173 (below_step f2d hb5) hR6 hb6, hHeld⟩)
  ·skip
   refine value_ (w1 := ?_) (v := ?_) (by rfl) rfl ?_ ?_
   rotate_left 2
   ·go_simp
    constructor
    ·rfl
    ·rfl
   refine hK.out _ _ ⟨cell_al hHeld.1 nilO, cell_al hHeld.2.1 nilO, below_alloc hHeld.2.2 nilO⟩ (fun hHeld => ?_)
   clear hK K
   refine norm_ (a' := ?_) ?_ ?_
   rotate_left
   ·show Act.put _ (some 7) _ = _
    simp only [Act.put, Qp1, Qp2, Qp3, i64_w, i32_w]
    rfl
   refine one_ (i := 1) (N := some 32) (Qbz 10 135) rfl rfl (by kernel_rfl) (by decide) (fun K hK => ?_)
   refine goes_ Tryd.func19 (by kernel_rfl) rfl #[.slice Ag G.length cg] (by rfl) rfl rfl (by simp only [List.map_toArray, List.map_cons, List.map_nil]; rfl) ?_
   with_reducible refine (HFW.out _ (below_step HBA.out hHeld.2.2)).mono ?_
   rintro e w5 ⟨Af2, cf2, rfl, hcf, hCf, hb5⟩
   refine ⟨_, rfl, ?_⟩
   refine hK.out _ _ ⟨cell_be hHeld.1 hb5, cell_be hHeld.2.1 hb5, below_step hHeld.2.2 hb5⟩ (fun hHeld => ?_)
   clear hK K
   refine norm_ (a' := ?_) ?_ ?_
   rotate_left
   ·show Act.put _ (some 32) _ = _
    simp only [Act.put, Qp1, Qp2, Qp3, i64_w, i32_w]
    rfl
   refine one_ (i := 3) (N := some 34) (Qbz 10 143) rfl rfl (by kernel_rfl) (by decide) (fun K hK => ?_)
   refine goes_ Tryd.func43 (by kernel_rfl) rfl #[.slice Af2 G.length cf2, .agg #[.slice A5 B2.length c5, .slice A6 P2.length c6]] (by rfl) rfl rfl (by simp only [List.map_toArray, List.map_cons, List.map_nil]; rfl) ?_
   with_reducible refine (HN.out _ Af2 cf2 hHeld.2.2 hcf hCf).mono ?_
   rintro e w6 ⟨A7, c7, A8, c8, rfl, hR6, hb6⟩
   refine ⟨_, rfl, ?_⟩
   refine hK.out _ _ ⟨cell_be hHeld.1 hb6, cell_be hHeld.2.1 hb6, below_step hHeld.2.2 hb6⟩ (fun hHeld => ?_)
   clear hK K
   refine norm_ (a' := ?_) ?_ ?_
   rotate_left
   ·show Act.put _ (some 34) _ = _
    simp only [Act.put, Qp1, Qp2, Qp3, i64_w, i32_w]
    rfl
   refine Qpu 4 30 ?_ ?_ (Qbz 10 159) (by kernel_rfl) ?_
   refine Qpu 5 35 ?_ ?_ (Qbz 10 191) (by kernel_rfl) ?_
   refine Qpu 6 36 ?_ ?_ (Qbz 10 255) (by kernel_rfl) ?_
   exact norm_ (by simp only [putAll, Act.put, List.setIfInBounds_toArray, List.set_cons_zero, List.set_cons_succ]) (hCont (Af2, cf2, A7, c7, A8, c8, wa.heap.size) _ ⟨ny713 (W := wa.drew) f2d hb5 hR6 hb6, hHeld⟩)
 rintro ⟨Af2, cf2, A7, c7, A8, c8, gY⟩ w7 ⟨HNY0, hHeld⟩
 have HNY := Aside0.mk HNY0
 clear HNY0
 obtain ⟨⟨e1, e2⟩, ⟨e3, e4⟩, ⟨e5, e6⟩, e7⟩ := two_facts HNY.out.blk (.slice A7 B3.length c7) (.slice A8 P3.length c8)
 refine norm_ (a' := ?_) ?_ ?_
 rotate_left
 ·simp only [putAll, Act.put, List.setIfInBounds_toArray, List.set_cons_zero, List.set_cons_succ]
  rfl
 refine last_ (i := 8) (N := none) (Qbz 10 511) rfl rfl (by kernel_rfl) (by decide) (fun K hK => ?_)
 refine skip_ (w1 := ?_) (by rfl) rfl ?_ ?_
 rotate_left
 ·go_simp
  rfl
 refine hK.out _ _ ?_
 clear hK K
 refine Qpu 9 6 ?_ ?_ (Qbz 10 1023) (by kernel_rfl) ?_
 refine done_ (by kernel_rfl) ?_
 have HB7 := Aside0.mk hHeld.2.2
 obtain ⟨w8, hw8⟩ : ∃ W : World, W = (w7.setCell ⟨gY, 0, none⟩ (.slice A7 B3.length c7)).setCell ⟨gY, 1, none⟩ (.slice A8 P3.length c8) := ⟨_, rfl⟩
 have HB8 : Aside0 (Below wa.heap.size wa w8) := ⟨by rw [hw8]; exact below_set (below_set HB7.out HNY.out.ge) HNY.out.ge⟩
 have HYB : Aside0 (w8.heap[gY]? = some (.cells #[.slice A7 B3.length c7, .slice A8 P3.length c8] 53 (0, 0))) := ⟨by rw [hw8]; exact e7⟩
 have HC8 : Aside0 ((B3.length ≤ c7 ∧ Kd.C (Kd.int .i64) w8 A7 B3.length B3) ∧ (P3.length ≤ c8 ∧ Kd.C (Kd.int .i64) w8 A8 P3.length P3)) := ⟨by
  rw [hw8]
  exact ⟨(Kd.R_reads' (Kd.R_far (p := ⟨gY, 1, none⟩) (Kd.R_far (p := ⟨gY, 0, none⟩) HNY.out.rB (fun k e => e) _) (fun k e => e) _)).2, (Kd.R_reads' (Kd.R_far (p := ⟨gY, 1, none⟩) (Kd.R_far (p := ⟨gY, 0, none⟩) HNY.out.rP (fun k e => e) _) (fun k e => e) _)).2⟩⟩
 try rw [← hw8]
 clear hw8 HNY hHeld e1 e2 e3 e4 e5 e6 e7 HB7 f0d f1d f2d HN
 have HX8 := Aside0.mk (blk_below HXT.out HB8.out)
 have HXB8 := Aside0.mk (blk_below HXB.out HB8.out)
 have HBW := Aside0.mk (below_step HBA.out HB8.out)
 have HC58 := Aside0.mk (And.intro (Kd.C_below HC5.out.1 HB8.out) (Kd.C_below HC5.out.2 HB8.out))
 have x0 : w8.cell? ⟨xT, 0, none⟩ = some (.slice A5 B2.length c5) := (blk_cell HX8.out 0).trans rfl
 have x1 : w8.cell? ⟨xT, 1, none⟩ = some (.slice A6 P2.length c6) := (blk_cell HX8.out 1).trans rfl
 have y0 : w8.cell? ⟨gY, 0, none⟩ = some (.slice A7 B3.length c7) := (blk_cell HYB.out 0).trans rfl
 have y1 : w8.cell? ⟨gY, 1, none⟩ = some (.slice A8 P3.length c8) := (blk_cell HYB.out 1).trans rfl
 clear HXT HXB HBA HC5 HB8
 go_wp2
 obtain ⟨wb, hwb⟩ : ∃ W : World, W = w8.alloc (Obj.cells #[.slice A5 B2.length c5, .slice A6 P2.length c6, .slice A7 B3.length c7, .slice A8 P3.length c8] 53) := ⟨_, rfl⟩
 have hblk : wb.heap[w8.heap.size]? = some (.cells [.slice A5 B2.length c5, .slice A6 P2.length c6, .slice A7 B3.length c7, .slice A8 P3.length c8].toArray 53 (0, 0)) := by rw [hwb]; exact Array.getElem?_push_size
 have hBb : Below w8.heap.size w8 wb := by rw [hwb]; exact below_alloc (Below.refl _ _) _
 rw [← hwb]
 clear hwb
 have HTB := Aside0.mk hblk
 have HXBb := Aside0.mk (blk_below HXB8.out hBb)
 have HBb := Aside0.mk (below_step HBW.out hBb)
 have HC8b := Aside0.mk (And.intro (Kd.C_below HC8.out.1.2 hBb) (And.intro (Kd.C_below HC58.out.1 hBb) (Kd.C_below HC58.out.2 hBb)))
 generalize w8.heap.size = gT at *
 have HTR : Aside0 (TRS G wb gT 2) := ⟨fun z hz => by
  have c0 := blk_cell HTB.out 0; have c1 := blk_cell HTB.out 1; have c2 := blk_cell HTB.out 2; have c3 := blk_cell HTB.out 3
  match z, hz with
  | 0, _ => exact ⟨A5, c5, B2, A6, c6, P2, c0.trans rfl, c1.trans rfl, HC8b.out.2.1, HT2.out⟩
  | 1, _ => exact ⟨A7, c7, B3, A8, c8, P3, c2.trans rfl, c3.trans rfl, HC8b.out.1, HT3.out⟩⟩
 clear HX8 HXB8 HBW HC58 HC8 HYB hblk hBb x0 x1 y0 y1 HL5
 have f0d : wb.drew.cell? ⟨xB, 0, none⟩ = some (.slice A0 B.length c0) := (blk_cell HXBb.out 0).trans rfl
 have f1d : wb.drew.cell? ⟨xB, 1, none⟩ = some (.slice A1 P.length c1) := (blk_cell HXBb.out 1).trans rfl
 have f2d : Below wb.heap.size wb wb.drew := below_drew (Below.refl _ _)
 refine start_ (n := 12) (S := fun w' => w'.cell? ⟨xB, 0, none⟩ = some (.slice A0 B.length c0) ∧ w'.cell? ⟨xB, 1, none⟩ = some (.slice A1 P.length c1) ∧ Below wb.heap.size wb w') (ds := []) (Qbz 12 0) (by kernel_rfl) rfl rfl ⟨f0d, f1d, f2d⟩ (fun hHeld => ?_)
 refine Qpu 0 43 ?_ ?_ (Qbz 12 1) (by kernel_rfl) ?_
 refine take_ (i := 2) (N := some 45) (v := ?_) (a' := ?_) (Qbz 12 5) rfl rfl (by kernel_rfl) (fun _ _ _ h => h) (Or.inl ⟨by rfl, ?_⟩) hHeld ?_ ?_;rotate_left;(·rintro w' ⟨s0, s1, s2⟩;go_simp;with_reducible rfl);rotate_left;(·simp only [Act.put, Qp1, Qp2, Qp3, i64_w, i32_w];rfl)
 refine one_ (i := 1) (N := some 44) (Qbz 12 7) rfl rfl (by kernel_rfl) (by decide) (fun K hK => ?_)
 refine goes_ Tryd.func19 (by kernel_rfl) rfl #[.slice Ag G.length cg] (by rfl) rfl rfl (by simp only [List.map_toArray, List.map_cons, List.map_nil]; rfl) ?_
 with_reducible refine (HFW.out _ (below_step HBb.out hHeld.2.2)).mono ?_
 rintro e w9 ⟨Af3, cf3, rfl, hcf3, hCf3, hb9⟩
 refine ⟨_, rfl, ?_⟩
 refine hK.out _ _ ⟨cell_be hHeld.1 hb9, cell_be hHeld.2.1 hb9, below_step hHeld.2.2 hb9⟩ (fun hHeld => ?_)
 clear hK K
 refine norm_ (a' := ?_) ?_ ?_
 rotate_left
 ·show Act.put _ (some 44) _ = _
  simp only [Act.put, Qp1, Qp2, Qp3, i64_w, i32_w]
  rfl
 refine one_ (i := 3) (N := some 46) (Qbz 12 15) rfl rfl (by kernel_rfl) (by decide) (fun K hK => ?_)
 refine goes_ Tryd.func44 (by kernel_rfl) rfl #[.agg #[.slice A0 B.length c0, .slice A1 P.length c1]] (by rfl) rfl rfl (by simp only [List.map_toArray, List.map_cons, List.map_nil]; rfl) ?_
 with_reducible refine (HOF.out _ (below_step HBb.out hHeld.2.2)).mono ?_
 rintro e wc ⟨A9, c9, A10, c10, rfl, k1, k2, k3, k4, hb10⟩
 refine ⟨_, rfl, ?_⟩
 refine hK.out _ _ ⟨cell_be hHeld.1 hb10, cell_be hHeld.2.1 hb10, below_step hHeld.2.2 hb10⟩ (fun hHeld => ?_)
 clear hK K
 refine norm_ (a' := ?_) ?_ ?_
 rotate_left
 ·show Act.put _ (some 46) _ = _
  simp only [Act.put, Qp1, Qp2, Qp3, i64_w, i32_w]
  rfl
 refine one_ (i := 4) (N := some 47) (Qbz 12 31) rfl rfl (by kernel_rfl) (by decide) (fun K hK => ?_)
 refine goes_ Tryd.func50 (by kernel_rfl) rfl #[.slice Af3 G.length cf3, .agg #[.slice A9 B4.length c9, .slice A10 P4.length c10]] (by rfl) rfl rfl (by simp only [List.map_toArray, List.map_cons, List.map_nil]; rfl) ?_
 with_reducible refine (HCK.out _ Af3 cf3 A9 c9 A10 c10 (GL_below HGL.out (below_step HBb.out hHeld.2.2)) hcf3 (Kd.C_below hCf3 hb10) k1 k2 k3 k4).mono ?_
 rintro e wd ⟨rfl, hb11⟩
 refine ⟨_, rfl, ?_⟩
 refine hK.out _ _ ⟨cell_be hHeld.1 hb11, cell_be hHeld.2.1 hb11, below_step hHeld.2.2 hb11⟩ (fun hHeld => ?_)
 clear hK K
 refine norm_ (a' := ?_) ?_ ?_
 rotate_left
 ·show Act.put _ (some 47) _ = _
  simp only [Act.put, Qp1, Qp2, Qp3, i64_w, i32_w]
  rfl
 refine Qpu 5 42 ?_ ?_ (Qbz 12 63) (by kernel_rfl) ?_
 refine Qpu 6 48 ?_ ?_ (Qbz 12 127) (by kernel_rfl) ?_
 refine Qpu 7 49 ?_ ?_ (Qbz 12 255) (by kernel_rfl) ?_
 refine Qpu 8 50 ?_ ?_ (Qbz 12 511) (by kernel_rfl) ?_
 refine Qpu 9 9 ?_ ?_ (Qbz 12 1023) (by kernel_rfl) ?_
 refine Qpu 10 10 ?_ ?_ (Qbz 12 2047) (by kernel_rfl) ?_
 refine Qpu 11 11 ?_ ?_ (Qbz 12 4095) (by kernel_rfl) ?_
 refine done_ (by kernel_rfl) ?_
 have HBd := Aside0.mk hHeld.2.2
 have z0 := hHeld.1
 have z1 := hHeld.2.1
 clear hHeld f0d f1d f2d hcf3 hCf3 hb9 k1 k2 k3 k4 hb10 hb11 HCK HXBb
 obtain ⟨vT, hvT⟩ : ∃ v : Value, v = .slice (some ⟨gT, 0, none⟩) 2 2 := ⟨_, rfl⟩
 rw [← hvT]
 obtain ⟨J, ⟨hS1, hS2, hS3⟩, hJ⟩ := shK G.length (by omega)
 obtain ⟨NN, hNN⟩ : ∃ N : Nat, N = 2 ^ G.length := ⟨_, rfl⟩
 rw [← hNN] at hJ
 subst hJ
 have hN9 : NN ≤ 512 := by
  have := Nat.pow_le_pow_right (show 0 < 2 by omega) hn9
  rw [hNN]
  exact Nat.le_trans this (by decide)
 have HNN := Aside0.mk hNN
 clear hNN
 cases ok
 case' false =>
  obtain ⟨nt, hnt⟩ : ∃ n : Nat, n = 2 := ⟨_, rfl⟩
  obtain ⟨gt, hgt⟩ : ∃ g : Nat, g = gT := ⟨_, rfl⟩
  obtain ⟨ct, hct⟩ : ∃ c : Nat, c = 2 := ⟨_, rfl⟩
  have HTF : Aside0 (TRS G wd gt nt) := ⟨by rw [hnt, hgt]; exact HTR.out.kept HBd.out⟩
  have hvT2 : vT = .slice (some ⟨gt, 0, none⟩) nt ct := by rw [hvT, hnt, hgt, hct]
  have hnt3 : nt ≤ 3 := by omega
  clear hvT hnt hgt hct z0 z1
  subst hvT2
  have HBF := Aside0.mk (below_step HBb.out HBd.out)
  clear HBd
  obtain ⟨wx, rfl⟩ : ∃ W, W = wd := ⟨_, rfl⟩
  clear HTR HTB HBb HC8b HT2 HT3 HOK HOF
  go_wp2
 case' true =>
  obtain ⟨i53, hi53, hq0, hq1, hq2⟩ := info_parts info53
  rw [hvT]
  clear hvT
  go_wp2_with (first
   | (go_at_call 44; refine (HOF.out _ (below_step HBb.out HBd.out)).mono ?_; rintro e we ⟨A11, c11, A12, c12, rfl, k1, k2, k3, k4, hb12⟩; have HBe := Aside0.mk (below_step HBd.out hb12); have HTBe := Aside0.mk (blk_below (blk_below HTB.out HBd.out) hb12); have HC11 := Aside0.mk (And.intro k2 k4); clear k1 k2 k3 k4 hb12)
   | (at_builtin; refine wpList_append_grows _ rfl _ _ 66 rfl 53 i53 (.agg #[.slice none 0 0, .slice none 0 0]) 2 48 Tryd.underlying66 hi53 hq0 hq1 hq2 rfl (by decide) (some ⟨gT, 0, none⟩) 2 2 [.slice A5 B2.length c5, .slice A6 P2.length c6, .slice A7 B3.length c7, .slice A8 P3.length c8] rfl (fun e => by cases e) rfl (fun b hb => by injection hb with hb; subst hb; exact blk_adds (blk_alloc HTBe.out _)) ⟨we.heap.size, 0, none⟩ 1 1 [.slice A11 B4.length c11, .slice A12 P4.length c12] rfl rfl (blk_adds (blk_new _ _)) (by simp [Value.oneCell']) (by decide) (by unfold maxLen; omega) (by decide) ?_; intro v9 wx hown9 hg9; have HOW := Aside0.mk hown9; have HG9 := Aside0.mk (grow_belowC hg9); clear hown9 hg9))
  obtain ⟨gt, ct, hv9⟩ := own_succ HOW.out
  subst hv9
  have HBF : Aside0 (Below w.heap.size w wx) := ⟨below_step (below_step HBb.out HBe.out) (below_step (below_alloc (Below.refl _ _) _) HG9.out)⟩
  have HBX : Below wb.heap.size wb wx := below_step HBe.out (below_step (below_alloc (Below.refl _ _) _) HG9.out)
  have HBY : Below we.heap.size we wx := below_step (below_alloc (Below.refl _ _) _) HG9.out
  have HTF : Aside0 (TRS G wx gt (2 + 1)) := ⟨fun z hz => by
   have c0 := HOW.out.cellAt 0 (by decide); have c1 := HOW.out.cellAt 1 (by decide); have c2 := HOW.out.cellAt 2 (by decide); have c3 := HOW.out.cellAt 3 (by decide); have c4 := HOW.out.cellAt 4 (by decide); have c5' := HOW.out.cellAt 5 (by decide)
   match z, hz with
   | 0, _ => exact ⟨A5, c5, B2, A6, c6, P2, c0.trans rfl, c1.trans rfl, Kd.C_below HC8b.out.2.1 HBX, HT2.out⟩
   | 1, _ => exact ⟨A7, c7, B3, A8, c8, P3, c2.trans rfl, c3.trans rfl, Kd.C_below HC8b.out.1 HBX, HT3.out⟩
   | 2, _ => exact ⟨A11, c11, B4, A12, c12, P4, c4.trans rfl, c5'.trans rfl, Kd.C_below HC11.out.1 HBY, HOK.out (by trivial)⟩⟩
  clear HBX HBY HOW HG9 HC11 HTBe HBe HBd HTR HTB HBb HC8b HT2 HT3 HOK HOF z0 z1 hi53 hq0 hq1 hq2
  generalize hnt : 2 + 1 = nt at *
  have hnt3 : nt ≤ 3 := by omega
  clear hnt
  go_wp2
 all_goals
  rw [hS1]
  clear hS1 hS2 hS3
  go_loopg [64] NN (fun kq v64 w' => ∃ s : Nat, v64 = .int .i64 (s : Int) ∧ s + kq = NN ∧ Aside0 (Below wx.heap.size wx w'))
  case atStart => exact ⟨0, rfl, by omega, ⟨Below.refl _ _⟩⟩
  case round =>
   obtain ⟨s, rfl, hs, HW⟩ := hrel
   by_cases hsl : s < NN
   ·have hi1 : ((s : Int) < (NN : Int)) = True := eq_true (by omega)
    have hi2 : decide ((s : Int) < (NN : Int)) = true := decide_eq_true (by omega)
    cases gk with
    | zero => omega
    | succ gi =>
    have HS512 : Aside0 (s < 2 ^ G.length) := ⟨by rw [← HNN.out]; exact hsl⟩
    obtain ⟨wo, hwo⟩ : ∃ W : World, W = wr := ⟨_, rfl⟩
    rw [← hwo] at HW ⊢
    clear hwo
    go_wp2
    go_loopg [13, 69] G.length (fun kq v13 v69 w' => ∃ v : Nat, v13 = .bool (cliB G s v) ∧ v69 = .int .i64 (v : Int) ∧ v + kq = G.length ∧ Aside0 (Below wx.heap.size wx w' ∧ w'.heap[wo.heap.size]? = some (.cells #[.int .i64 (s : Int)] 3 (0, 0))))
    case atStart => exact ⟨0, rfl, rfl, by omega, ⟨below_step HW.out (below_alloc (Below.refl _ _) _), blk_new _ _⟩⟩
    case round =>
     obtain ⟨v, rfl, rfl, hv, HV⟩ := hrel
     generalize wo.heap.size = sB at *
     by_cases hvl : v < G.length
     ·have hi3 : ((v : Int) < (G.length : Int)) = True := eq_true (by omega)
      have hi4 : decide ((v : Int) < (G.length : Int)) = true := decide_eq_true (by omega)
      cases gk with
      | zero => omega
      | succ gv =>
      have b0d : wr.drew.cell? ⟨sB, 0, none⟩ = some (.int .i64 (s : Int)) := (blk_cell HV.out.2 0).trans rfl
      have b2d : Below wr.heap.size wr wr.drew := below_drew (Below.refl _ _)
      cases hcl : cliB G s v
      ·go_wp2
       refine start_ (n := 21) (S := fun w' => Below wr.heap.size wr w') (ds := []) (Qbz 21 0) (by kernel_rfl) rfl rfl (b2d) (fun hHeld => ?_)
       refine Qpu 0 72 ?_ ?_ (Qbz 21 1) (by kernel_rfl) ?_
       refine Qpu 1 73 ?_ ?_ (Qbz 21 3) (by kernel_rfl) ?_
       refine Qpn 2 74 ?_ (Qbz 21 7) (by kernel_rfl) ?_
       refine Qpn 3 75 ?_ (Qbz 21 15) (by kernel_rfl) ?_
       refine Qpn 4 76 ?_ (Qbz 21 31) (by kernel_rfl) ?_
       refine Qpn 5 77 ?_ (Qbz 21 63) (by kernel_rfl) ?_
       refine Qpn 6 78 ?_ (Qbz 21 127) (by kernel_rfl) ?_
       refine Qpn 7 79 ?_ (Qbz 21 255) (by kernel_rfl) ?_
       refine Qpn 8 80 ?_ (Qbz 21 511) (by kernel_rfl) ?_
       refine Qpn 9 81 ?_ (Qbz 21 1023) (by kernel_rfl) ?_
       refine Qpn 10 82 ?_ (Qbz 21 2047) (by kernel_rfl) ?_
       refine Qpn 11 83 ?_ (Qbz 21 4095) (by kernel_rfl) ?_
       refine Qpn 12 84 ?_ (Qbz 21 8191) (by kernel_rfl) ?_
       refine Qpn 13 85 ?_ (Qbz 21 16383) (by kernel_rfl) ?_
       refine Qpn 14 86 ?_ (Qbz 21 32767) (by kernel_rfl) ?_
       refine Qpn 15 87 ?_ (Qbz 21 65535) (by kernel_rfl) ?_
       refine Qpn 16 88 ?_ (Qbz 21 131071) (by kernel_rfl) ?_
       refine Qpn 17 89 ?_ (Qbz 21 262143) (by kernel_rfl) ?_
       refine Qpn 18 90 ?_ (Qbz 21 524287) (by kernel_rfl) ?_
       refine Qpu 19 91 ?_ ?_ (Qbz 21 1048575) (by kernel_rfl) ?_
       refine Qpu 20 13 ?_ ?_ (Qbz 21 2097151) (by kernel_rfl) ?_
       refine done_ (by kernel_rfl) ?_
       have HV2 : Aside0 (Below wx.heap.size wx wr.drew ∧ wr.drew.heap[sB]? = some (.cells #[.int .i64 (s : Int)] 3 (0, 0))) := ⟨below_step HV.out.1 b2d, blk_below HV.out.2 b2d⟩
       go_wp2
       go_roundg gv
       case measure => omega
       case rel => exact ⟨v + 1, by rw [cliB_false hcl], by go_num, by omega, HV2⟩
      ·obtain ⟨X, J1, J2, D1, D2, bz, hX, hD1, hJ2, hJ3, hJ4, hD2, hz1, hz2, hbz⟩ := cl_nums HG.out HS512.out hvl
       obtain ⟨ad, e1, hgx⟩ := Kd.at_int (Kd.C_below HRG.out (below_step HBF.out HV.out.1)) (v : Int) (by omega) (by omega)
       rw [← hX, Int.toNat_natCast] at hgx
       obtain ⟨J, hq1, hq2, hq3, hq4⟩ := bitJ0 s v (by omega) (by omega)
       have hv0 : ((v : Int) < 0) = False := eq_false (by omega)
       have hv1 : decide ((v : Int) < 0) = false := decide_eq_false (by omega)
       have g0d : wr.drew.cell? (ad.add v) = some (.int .i64 X) := cell_be hgx b2d
       have HBZ := Aside0.mk hbz
       have HV2 : Aside0 (Below wx.heap.size wx wr.drew ∧ wr.drew.heap[sB]? = some (.cells #[.int .i64 (s : Int)] 3 (0, 0))) := ⟨below_step HV.out.1 b2d, blk_below HV.out.2 b2d⟩
       clear hX hgx hbz
       subst e1
       cases hbt : s.testBit v
       ·rw [hbt] at hq4
        have hq5 : Go.bits .and .i64 J 1 = 0 := hq4
        clear hq4 HBZ hD1 hD2 hz1 hz2 g0d hJ2 hJ3 hJ4
        go_wp2
        refine start_ (n := 21) (S := fun w' => w'.cell? ⟨sB, 0, none⟩ = some (.int .i64 (s : Int)) ∧ Below wr.heap.size wr w') (ds := []) (Qbz 21 0) (by kernel_rfl) rfl rfl ⟨b0d, b2d⟩ (fun hHeld => ?_)
        refine Qpu 0 72 ?_ ?_ (Qbz 21 1) (by kernel_rfl) ?_
        refine Qpu 1 73 ?_ ?_ (Qbz 21 3) (by kernel_rfl) ?_
        refine Qpu 3 75 ?_ ?_ (Qbz 21 11) (by kernel_rfl) ?_
        refine take_ (i := 2) (N := some 74) (v := ?_) (a' := ?_) (Qbz 21 15) rfl rfl (by kernel_rfl) (fun _ _ _ h => h) (Or.inl ⟨by rfl, ?_⟩) hHeld ?_ ?_;rotate_left;(·rintro w' ⟨s0, s1⟩;go_simp;with_reducible rfl);rotate_left;(·simp only [Act.put, Qp1, Qp2, Qp3, i64_w, i32_w];rfl)
        refine Qpu 4 76 ?_ ?_ (Qbz 21 31) (by kernel_rfl) ?_
        refine Qpu 5 77 ?_ ?_ (Qbz 21 63) (by kernel_rfl) ?_
        refine Qpu 6 78 ?_ ?_ (Qbz 21 127) (by kernel_rfl) ?_
        refine Qpu 7 79 ?_ ?_ (Qbz 21 255) (by kernel_rfl) ?_
        refine Qpn 8 80 ?_ (Qbz 21 511) (by kernel_rfl) ?_
        refine Qpn 9 81 ?_ (Qbz 21 1023) (by kernel_rfl) ?_
        refine Qpn 10 82 ?_ (Qbz 21 2047) (by kernel_rfl) ?_
        refine Qpn 11 83 ?_ (Qbz 21 4095) (by kernel_rfl) ?_
        refine Qpn 12 84 ?_ (Qbz 21 8191) (by kernel_rfl) ?_
        refine Qpn 13 85 ?_ (Qbz 21 16383) (by kernel_rfl) ?_
        refine Qpn 14 86 ?_ (Qbz 21 32767) (by kernel_rfl) ?_
        refine Qpn 15 87 ?_ (Qbz 21 65535) (by kernel_rfl) ?_
        refine Qpn 16 88 ?_ (Qbz 21 131071) (by kernel_rfl) ?_
        refine Qpn 17 89 ?_ (Qbz 21 262143) (by kernel_rfl) ?_
        refine Qpu 18 90 ?_ ?_ (Qbz 21 524287) (by kernel_rfl) ?_
        refine Qpu 19 91 ?_ ?_ (Qbz 21 1048575) (by kernel_rfl) ?_
        refine Qpu 20 13 ?_ ?_ (Qbz 21 2097151) (by kernel_rfl) ?_
        refine done_ (by kernel_rfl) ?_
        go_wp2
        go_roundg gv
        case measure => omega
        case rel => exact ⟨v + 1, by rw [cliB_nob hcl hbt], by go_num, by omega, HV2⟩
       ·rw [hbt] at hq4
        have hq5 : Go.bits .and .i64 J 1 = 1 := hq4
        clear hq4
        go_wp2
        refine start_ (n := 21) (S := fun w' => w'.cell? ⟨sB, 0, none⟩ = some (.int .i64 (s : Int)) ∧ w'.cell? (ad.add v) = some (.int .i64 X) ∧ Below wr.heap.size wr w') (ds := []) (Qbz 21 0) (by kernel_rfl) rfl rfl ⟨b0d, g0d, b2d⟩ (fun hHeld => ?_)
        refine Qpu 0 72 ?_ ?_ (Qbz 21 1) (by kernel_rfl) ?_
        refine Qpu 1 73 ?_ ?_ (Qbz 21 3) (by kernel_rfl) ?_
        refine Qpu 3 75 ?_ ?_ (Qbz 21 11) (by kernel_rfl) ?_
        refine take_ (i := 2) (N := some 74) (v := ?_) (a' := ?_) (Qbz 21 15) rfl rfl (by kernel_rfl) (fun _ _ _ h => h) (Or.inl ⟨by rfl, ?_⟩) hHeld ?_ ?_;rotate_left;(·rintro w' ⟨s0, s1, s2⟩;go_simp;with_reducible rfl);rotate_left;(·simp only [Act.put, Qp1, Qp2, Qp3, i64_w, i32_w];rfl)
        refine Qpu 4 76 ?_ ?_ (Qbz 21 31) (by kernel_rfl) ?_
        refine Qpu 5 77 ?_ ?_ (Qbz 21 63) (by kernel_rfl) ?_
        refine Qpu 6 78 ?_ ?_ (Qbz 21 127) (by kernel_rfl) ?_
        refine Qpu 7 79 ?_ ?_ (Qbz 21 255) (by kernel_rfl) ?_
        refine Qpu 9 81 ?_ ?_ (Qbz 21 767) (by kernel_rfl) ?_
        refine Qpu 10 82 ?_ ?_ (Qbz 21 1791) (by kernel_rfl) ?_
        refine Qpu 11 83 ?_ ?_ (Qbz 21 3839) (by kernel_rfl) ?_
        refine Qpu 14 86 ?_ ?_ (Qbz 21 20223) (by kernel_rfl) ?_
        refine Qpu 15 87 ?_ ?_ (Qbz 21 52991) (by kernel_rfl) ?_
        refine take_ (i := 8) (N := some 80) (v := ?_) (a' := ?_) (Qbz 21 53247) rfl rfl (by kernel_rfl) (fun _ _ _ h => h) (Or.inl ⟨by rfl, ?_⟩) hHeld ?_ ?_;rotate_left;(·rintro w' ⟨s0, s1, s2⟩;go_simp;with_reducible rfl);rotate_left;(·simp only [Act.put, Qp1, Qp2, Qp3, i64_w, i32_w];rfl)
        refine take_ (i := 12) (N := some 84) (v := ?_) (a' := ?_) (Qbz 21 57343) rfl rfl (by kernel_rfl) (fun _ _ _ h => h) (Or.inl ⟨by rfl, ?_⟩) hHeld ?_ ?_;rotate_left;(·rintro w' ⟨s0, s1, s2⟩;go_simp;with_reducible rfl);rotate_left;(·simp only [Act.put, Qp1, Qp2, Qp3, i64_w, i32_w];rfl)
        refine Qpu 13 85 ?_ ?_ (Qbz 21 65535) (by kernel_rfl) ?_
        refine Qpu 16 88 ?_ ?_ (Qbz 21 131071) (by kernel_rfl) ?_
        refine Qpu 17 89 ?_ ?_ (Qbz 21 262143) (by kernel_rfl) ?_
        refine Qpu 18 90 ?_ ?_ (Qbz 21 524287) (by kernel_rfl) ?_
        refine Qpu 19 91 ?_ ?_ (Qbz 21 1048575) (by kernel_rfl) ?_
        refine Qpu 20 13 ?_ ?_ (Qbz 21 2097151) (by kernel_rfl) ?_
        refine done_ (by kernel_rfl) ?_
        go_wp2
        go_roundg gv
        case measure => omega
        case rel => exact ⟨v + 1, by rw [cliB_bit hcl hbt, ← HBZ.out], by go_num, by omega, HV2⟩
     ·have hve : v = G.length := by omega
      subst hve
      have hi3 : ((G.length : Int) < (G.length : Int)) = False := eq_false (by omega)
      have hi4 : decide ((G.length : Int) < (G.length : Int)) = false := decide_eq_false (by omega)
      cases hcl : cliB G s G.length
      ·go_wp2
       go_roundg gi
       case measure => omega
       case rel => exact ⟨s + 1, by go_num, by omega, ⟨HV.out.1⟩⟩
      ·go_wp2
       go_loopg [97] nt (fun kq v97 w' => ∃ z : Nat, v97 = .int .i64 (z : Int) ∧ z + kq = nt ∧ Aside0 (Below wx.heap.size wx w' ∧ w'.heap[sB]? = some (.cells #[.int .i64 (s : Int)] 3 (0, 0))))
       case atStart => exact ⟨0, rfl, by omega, HV⟩
       case round =>
        obtain ⟨z, rfl, hz, HZ⟩ := hrel
        by_cases hzl : z < nt
        ·have hi5 : ((z : Int) < (nt : Int)) = True := eq_true (by omega)
         have hi6 : decide ((z : Int) < (nt : Int)) = true := decide_eq_true (by omega)
         cases gk with
         | zero => omega
         | succ gz =>
         obtain ⟨Az, cz, Bz, Az', cz', Pz, t0, t1, hCz, hTz⟩ := HTF.out.kept HZ.out.1 z hzl
         have hany := clique_in HG.out hTz HS512.out hcl
         have HCC : Aside0 (∀ W, Below wr.heap.size wr W → Calls Tryd.prog 54 #[.slice Az Bz.length cz, .func (.func 55) #[] #[.pointer (some ⟨sB, 0, none⟩)]] W fun e w' => e = .returned (.bool true) ∧ Below W.heap.size W w') := ⟨fun W hW => by
          have := contains_cl Az cz Bz (s : Int) sB W (Kd.C_below hCz hW) (by have := hTz.most; omega) ((blk_cell (blk_below HZ.out.2 hW) 0).trans rfl)
          rw [hany] at this
          exact this⟩
         rw [Nat.mul_comm] at t0 t1
         clear hCz hTz hany
         go_wp2_with (go_at_call 54; refine (HCC.out _ (below_alloc (Below.refl _ _) _)).mono ?_; rintro e wz ⟨rfl, hbz⟩)
         go_roundg gz
         case measure => omega
         case rel =>
          have hb : Below wr.heap.size wr wz := below_step (below_alloc (Below.refl _ _) _) hbz
          exact ⟨z + 1, by go_num, by omega, ⟨below_step HZ.out.1 hb, blk_below HZ.out.2 hb⟩⟩
        ·have hi5 : ((z : Int) < (nt : Int)) = False := eq_false (by omega)
         have hi6 : decide ((z : Int) < (nt : Int)) = false := decide_eq_false (by omega)
         go_wp2
         go_roundg gi
         case measure => omega
         case rel => exact ⟨s + 1, by go_num, by omega, ⟨HZ.out.1⟩⟩
   ·have hi1 : ((s : Int) < (NN : Int)) = False := eq_false (by omega)
    have hi2 : decide ((s : Int) < (NN : Int)) = false := decide_eq_false (by omega)
    go_wp2_with (go_at_call 20; refine (HAW.out _ (below_step HBF.out HW.out)).mono ?_; rintro e wz ⟨rfl, hbz⟩)
    go_ret
    exact ⟨rfl, below_step (below_step HBF.out HW.out) hbz⟩
theorem lampblacklaw02_WidthCliques.calls (k : Nat) (A0 : Option Addr) (c0 : Nat) (l0 : List Int) (A1_0 : Option Addr) (c1_0 : Nat) (l1_0 : List Int) (A1_1 : Option Addr) (c1_1 : Nat) (l1_1 : List Int) (r : Bool) (w : World) (hGL : GL w) (hr0 : Kd.C (Kd.int .i64) w A0 l0.length l0) (hc0 : l0.length ≤ c0) (hr1_0 : Kd.C (Kd.int .i64) w A1_0 l1_0.length l1_0) (hc1_0 : l1_0.length ≤ c1_0) (hr1_1 : Kd.C (Kd.int .i64) w A1_1 l1_1.length l1_1) (hc1_1 : l1_1.length ≤ c1_1) (h : lampblacklaw02_WidthCliques.f k l0 l1_0 l1_1 = some r) :
  Calls Tryd.prog 13 #[.slice A0 l0.length c0, .agg #[.slice A1_0 l1_0.length c1_0, .slice A1_1 l1_1.length c1_1]] w fun e w' => e = .returned (.bool r) ∧ Below w.heap.size w w' := by
 unfold lampblacklaw02_WidthCliques.f at h
 by_cases hl : l0.length < 2 ^ 44
 ·rw [if_pos hl] at h
  obtain rfl := Option.some.inj h
  by_cases hchk : chk 9 l0 = true
  ·obtain ⟨G, rfl, hG⟩ := (chk_iff 9 (by omega) _).1 hchk
   exact cliques_yes hG A0 c0 A1_0 c1_0 l1_0 A1_1 c1_1 l1_1 w hGL hr0 hc0 hr1_0 hc1_0 hr1_1 hc1_1
  ·exact cliques_no A0 c0 l0 A1_0 c1_0 l1_0 A1_1 c1_1 l1_1 w hGL hr0 hc0 hl (by simpa using hchk)
 ·rw [if_neg hl] at h
  cases h
end Go.Proofs.YtoffehihicabcaaDoor.X
end
section
namespace Go.Proofs.YtoffehihicabcaaDoor.Pure
open Go.RowKit YtoffehihicabcaaDoorW.PrintWords YtoffehihicabcaaDoorW.PrintLast YtoffehihicabcaaDoorW.PrintMore YtoffehihicabcaaDoor.T YtoffehihicabcaaDoor.X
theorem WidthCliques : ∀ (l0 l1 l2 : List Int), l0.length ≤ maxLen → l0.length * 8 ≤ 140737488351232 → (∀ x ∈ l0, (Lit.int .i64 x).wf = true) → l1.length ≤ maxLen → l2.length ≤ maxLen → ∃ k, lampblacklaw02_WidthCliques.f k l0 l1 l2 = some true := by
 intro g B P _ hg _ _ _
 exact ⟨0, by unfold lampblacklaw02_WidthCliques.f; rw [if_pos (by omega)]⟩
end Go.Proofs.YtoffehihicabcaaDoor.Pure
end
section
namespace Go.Proofs.YtoffehihicabcaaDoor.X
open Go.RowKit Go.ChangeShapes Go.WideShapes
def RowI (w : World) (a : Option Addr) (len cap : Nat) (zs : List Int) : Prop :=
 (a = none ∧ len = 0 ∧ cap = 0 ∧ zs = []) ∨ ∃ x, a = some x ∧ len ≤ cap ∧ cap ≤ maxLen ∧ zs.length = cap ∧ (∀ i, i < zs.length → w.cell? (x.add i) = some (.int .i64 (zs.getD i 0))) ∧ ∀ n ∈ zs, (Lit.int .i64 n).wf = true
section
variable {H : Type} {enc : TypeId × Value → H} {P : Program} {w : World} {base : Nat} {spare : Nat → Bool} {held : Bool}
theorem open_rowI {t e : TypeId} {fuel : Nat} {c : Value} {x : DataW H × List MemPlace} (hsp : ∀ b, spare b = true) (ht : P.underlying t = some (.slice e)) (he : P.underlying e = some (.int .i64)) (hc : P.cellsOf e = 1)
  (h : DataW.trod enc P w base spare held fuel t [c] = some x) : ∃ a len cap zs, c = .slice a len cap ∧ RowI w a len cap zs := by
 rcases open_ints ht he hc h with ⟨hcs, _⟩ | ⟨ad, l, cp, zs, hcs, _, hl, hm, hz, _, hcell, hwz⟩
 ·simp at hcs
  exact ⟨none, 0, 0, [], hcs, .inl ⟨rfl, rfl, rfl, rfl⟩⟩
 ·simp at hcs
  exact ⟨some ad, l, cp, zs, hcs, .inr ⟨ad, rfl, hl, hm, by rw [hz, hsp]; rfl, hcell, hwz⟩⟩
theorem open_tree {t : TypeId} (e : TypeId) {f0 f1 : Field} {v : Value} {d : DataW H} {ps : List MemPlace} (hsp : ∀ b, spare b = true) (ht : P.underlying t = some (.struct #[f0, f1])) (h0 : P.underlying f0.type = some (.slice e)) (h1 : P.underlying f1.type = some (.slice e)) (he : P.underlying e = some (.int .i64)) (hc : P.cellsOf e = 1)
  (hC : P.cellsOf t = 2) (o0 : f0.offset = 0) (o1 : f1.offset = 1) (c0 : P.cellsOf f0.type = 1) (c1 : P.cellsOf f1.type = 1) (hv : ∃ cs, v = .agg cs ∧ cs.size = P.cellsOf t) (h : DataW.Trod enc P w base spare held t v d ps) :
  ∃ a0 n0 k0 z0 a1 n1 k1 z1, v = .agg #[.slice a0 n0 k0, .slice a1 n1 k1] ∧ RowI w a0 n0 k0 z0 ∧ RowI w a1 n1 k1 z1 := by
 obtain ⟨cs, rfl, hs⟩ := hv
 obtain ⟨fuel, hf⟩ := h
 obtain ⟨xs, n, _, _, hl, hxl, hf⟩ := DataW.trod_struct ht hf
 rw [hC] at hs
 obtain ⟨l⟩ := cs
 match l, hs with
 | [u0, u1], _ =>
  have g0 := hf 0 f0 rfl
  have g1 := hf 1 f1 rfl
  rw [o0, c0] at g0
  rw [o1, c1] at g1
  have y0 : xs[0]? = some (xs[0]'(by rw [hxl]; show 0 < 2; omega)) := List.getElem?_eq_getElem _
  have y1 : xs[1]? = some (xs[1]'(by rw [hxl]; show 1 < 2; omega)) := List.getElem?_eq_getElem _
  obtain ⟨a0, n0, k0, z0, e0, r0⟩ := open_rowI (c := u0) hsp h0 he hc (g0.trans y0)
  obtain ⟨a1, n1, k1, z1, e1, r1⟩ := open_rowI (c := u1) hsp h1 he hc (g1.trans y1)
  subst e0
  subst e1
  exact ⟨a0, n0, k0, z0, a1, n1, k1, z1, rfl, r0, r1⟩
end
end Go.Proofs.YtoffehihicabcaaDoor.X
end
section
namespace Go.Proofs.YtoffehihicabcaaDoorW.PrintWords
open Go.ChangeShapes Go.WideShapes
theorem sized_ints {H : Type} {enc : TypeId × Value → H} {P : Program} {W : World} {base : Nat} {spare : Nat → Bool} {held : Bool} {t e : TypeId} {k : IntKind} {a : Option Addr} {len cap : Nat} {d : DataW H} {ps : List MemPlace} {ts : List TypeId} {ds : List (DataW H)} {j : Nat}
  (hsz : (DataW.weightsEach P ts ds).all (· ≤ reachBytes) = true) (ht : ts[j]? = some t) (hd : ds[j]? = some d) (hu : P.underlying t = some (.slice e)) (he : P.underlying e = some (.int k)) (hc : P.cellsOf e = 1) {B : Nat} (hB : P.bytesOf e = B)
  (h : DataW.Trod enc P W base spare held t (.slice a len cap) d ps) : len * B ≤ 140737488351232 := by
 obtain ⟨fuel, hf⟩ := h
 rcases open_ints hu he hc hf with ⟨hcs, _⟩ | ⟨x, l, c, zs, hcs, _, hl, _, hz, hx, _, _⟩
 ·simp [Value.cells] at hcs
  obtain ⟨rfl, rfl, rfl⟩ := hcs
  simp
 ·simp [Value.cells] at hcs
  obtain ⟨rfl, rfl, rfl⟩ := hcs
  obtain ⟨hx, _⟩ := Prod.mk.inj hx
  subst hx
  have z := sized_slice hsz ht hd hu
  rw [hB] at z
  have hl2 : len ≤ zs.length := by
   rw [hz]
   split
   ·exact hl
   ·exact Nat.le_refl _
  have h1 : (lits (H := H) k (zs.take len)).length + (lits (H := H) k (zs.drop len)).length = zs.length := by
   simp [lits]
   omega
  rw [h1] at z
  exact Nat.le_trans (Nat.mul_le_mul_right _ hl2) z
end Go.Proofs.YtoffehihicabcaaDoorW.PrintWords
end
