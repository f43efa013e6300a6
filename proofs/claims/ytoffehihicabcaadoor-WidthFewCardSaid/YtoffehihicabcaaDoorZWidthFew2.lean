/- Part 2 of what WidthFew rests on: contracts of the functions that it reaches, and what they compute, in plain words. -/
import Derived.Test.YtoffehihicabcaaDoorZWidthFew1
import Derived.Test.YtoffehihicabcaaDoorZWidthFew0
import Derived.Outline
import Derived.ChangeSlices
import Derived.ChangeArms
import Derived.WideShapes
set_option linter.unusedVariables false
set_option linter.unusedSimpArgs false
section
namespace Go.Proofs.YtoffehihicabcaaDoor.X
open Go.RowKit YtoffehihicabcaaDoorW.PrintWords YtoffehihicabcaaDoorW.PrintLast YtoffehihicabcaaDoorW.PrintMore YtoffehihicabcaaDoor.T
attribute [local go_sem] max2_int min2_int max_two min_two max_three min_three max_four min_four
def width_Narrow.f (g B P : List Int) : Option (List Int × List Int × Int) :=
 if chk 9 g = true then (if treeB (g.map Int.toNat) B P = true then some ((narN B.length B P).1, (narN B.length B P).2, 0) else some ([], [], 2)) else if g.length < 1000 then some ([], [], 2) else none
theorem gi_toNatN (G : List Nat) : (gi G).map Int.toNat = G := by
 unfold gi
 rw [List.map_map]
 exact (List.map_congr_left (fun x _ => Int.toNat_natCast x)).trans (List.map_id _)
theorem readN_yes {G : List Nat} (hG : Gr 9 G) (A0 : Option Addr) (c0 : Nat) (w : World) (hr0 : Kd.C (Kd.int .i64) w A0 (gi G).length (gi G)) (hc0 : (gi G).length ≤ c0) :
  Calls Tryd.prog 59 #[.slice A0 (gi G).length c0] w fun e w' => ∃ A1 c1, e = .returned (.tuple #[.slice A1 (gi G).length c1, .bool true]) ∧ (gi G).length ≤ c1 ∧ Kd.C (Kd.int .i64) w' A1 (gi G).length (gi G) ∧ Below w.heap.size w w' := by
 obtain ⟨K, hK⟩ := read_ev (gi G) (by rw [gi_length]; have := hG.most; omega)
 have hk := hK K (Nat.le_refl _)
 rw [(chk_iff 9 (by omega) _).2 ⟨G, rfl, hG⟩] at hk
 have := width_read.calls K (fun k_ => k_ < w.heap.size) A0 c0 (gi G) (gi G) true w (Kd.V_mk hc0 (Kd.F_below (Kd.C_F (Kd.heap_int .i64) hr0) (Below.refl _ _))) hk
 refine this.mono ?_
 rintro e w' ⟨v, rfl, hv, hb⟩
 obtain ⟨A1, c1, rfl⟩ := Kd.V_slice hv
 have h2 := Kd.V_reads' hv
 exact ⟨A1, c1, rfl, h2.2.1, h2.2.2, hb⟩
theorem readN_no {g : List Int} (hl : g.length < 2 ^ 60) (hg : chk 9 g = false) (A0 : Option Addr) (c0 : Nat) (w : World) (hr0 : Kd.C (Kd.int .i64) w A0 g.length g) (hc0 : g.length ≤ c0) :
  Calls Tryd.prog 59 #[.slice A0 g.length c0] w fun e w' => ∃ v, e = .returned (.tuple #[v, .bool false]) ∧ Below w.heap.size w w' := by
 obtain ⟨K, hK⟩ := read_ev g hl
 have hk := hK K (Nat.le_refl _)
 rw [hg] at hk
 refine (width_read.calls K (fun k_ => k_ < w.heap.size) A0 c0 g [] false w (Kd.V_mk hc0 (Kd.F_below (Kd.C_F (Kd.heap_int .i64) hr0) (Below.refl _ _))) hk).mono ?_
 rintro e w' ⟨v, rfl, hv, hb⟩
 exact ⟨v, rfl, hb⟩
theorem clone_own (A : Option Addr) (c : Nat) (l : List Int) (h0 : 0 < l.length) (h9 : l.length ≤ 1000) (w : World) (hr : Kd.C (Kd.int .i64) w A l.length l) (hc : l.length ≤ c) :
  Calls Tryd.prog 72 #[.slice A l.length c] w fun e w' => ∃ g cp, e = .returned (.slice (some ⟨g, 0, none⟩) l.length cp) ∧ Kd.R (Kd.int .i64) 3 w' w.heap.size (fun k => k = g) (.slice (some ⟨g, 0, none⟩) l.length cp) l ∧ Below w.heap.size w w' := by
 refine (slices_Clone_int_int.calls A c l l w hr hc (by unfold slices_Clone_int_int.f; simp; omega)).mono ?_
 rintro e w' ⟨v, rfl, hR, hb⟩
 obtain ⟨n, hn⟩ : ∃ n, l.length = n + 1 := ⟨l.length - 1, by omega⟩
 have ho := Kd.own_of_R hR
 rw [hn] at ho
 obtain ⟨g, cp, rfl⟩ := own_succ ho
 rw [← hn] at *
 exact ⟨g, cp, rfl, ⟨fun k hk => by simp [Value.ownBlock] at hk; exact hk.symm, (Kd.R_of_own (ok := fun k => k = g) (Kd.own_of_R hR) (fun k hk => by simp [Value.ownBlock] at hk; exact hk.symm)).2⟩, hb⟩
structure NS (w4 W : World) (gB cB gP cP gO : Nat) (B P : List Int) : Prop where
 rB : Kd.R (Kd.int .i64) 3 W w4.heap.size (fun k => k = gB) (.slice (some ⟨gB, 0, none⟩) B.length cB) B
 rP : Kd.R (Kd.int .i64) 3 W w4.heap.size (fun k => k = gP) (.slice (some ⟨gP, 0, none⟩) P.length cP) P
 blk : W.heap[gO]? = some (.cells #[.slice none 0 0, .slice none 0 0] 53 (0, 0))
 below : Below w4.heap.size w4 W
 ge : w4.heap.size ≤ gO
 nB : gO ≠ gB
 nP : gO ≠ gP
 nBP : gB ≠ gP
section
variable {w4 W w3 w5 : World} {gB cB gP cP gO : Nat} {B P : List Int}
theorem R_new_ge {b g c : Nat} {l : List Int} (h : Kd.R (Kd.int .i64) 3 W b (fun k => k = g) (.slice (some ⟨g, 0, none⟩) l.length c) l) : b ≤ g ∧ g < W.heap.size := ⟨own_base2 (Kd.own_of_R h) g (by simp [Value.ownBlock]), own_lt2 (Kd.own_of_R h) g (by simp [Value.ownBlock])⟩
def nilO : Obj := .cells #[.slice none 0 0, .slice none 0 0] 53 (0, 0)
theorem ns257 (h4 : Below w4.heap.size w4 W) (hR3 : Kd.R (Kd.int .i64) 3 w3 W.heap.size (fun k => k = gB) (.slice (some ⟨gB, 0, none⟩) B.length cB) B) (hb3 : Below W.heap.size W w3) (hR5 : Kd.R (Kd.int .i64) 3 w5 w3.heap.size (fun k => k = gP) (.slice (some ⟨gP, 0, none⟩) P.length cP) P) (hb5 : Below w3.heap.size w3 w5) :
  NS w4 (w5.alloc nilO) gB cB gP cP w5.heap.size B P := by
 have a := R_new_ge hR3; have b := R_new_ge hR5; have c := h4.size; have d := hb3.size; have f := hb5.size
 have hR3' := Kd.R_below hR3 hb5
 exact ⟨Kd.R_lower (Kd.R_alloc hR3' _) (by omega), Kd.R_lower (Kd.R_alloc hR5 _) (by omega), blk_new _ _, below_alloc (below_step (below_step h4 hb3) hb5) _, by omega, by omega, by omega, by omega⟩
theorem ns275 (h4 : Below w4.heap.size w4 W) (hR3 : Kd.R (Kd.int .i64) 3 w3 W.heap.size (fun k => k = gB) (.slice (some ⟨gB, 0, none⟩) B.length cB) B) (hb3 : Below W.heap.size W w3) (hR5 : Kd.R (Kd.int .i64) 3 w5 (w3.alloc nilO).heap.size (fun k => k = gP) (.slice (some ⟨gP, 0, none⟩) P.length cP) P) (hb5 : Below (w3.alloc nilO).heap.size (w3.alloc nilO) w5) :
  NS w4 w5 gB cB gP cP w3.heap.size B P := by
 have a := R_new_ge hR3; have b := R_new_ge hR5; have c := h4.size; have d := hb3.size; have f := hb5.size
 have e : (w3.alloc nilO).heap.size = w3.heap.size + 1 := by simp
 exact ⟨Kd.R_lower (Kd.R_below (Kd.R_alloc hR3 _) hb5) (by omega), Kd.R_lower hR5 (by omega), blk_below (blk_new _ _) hb5, below_step (below_alloc (below_step h4 hb3) _) hb5, by omega, by omega, by omega, by omega⟩
theorem ns725 (h4 : Below w4.heap.size w4 W) (hR3 : Kd.R (Kd.int .i64) 3 w3 (W.alloc nilO).heap.size (fun k => k = gB) (.slice (some ⟨gB, 0, none⟩) B.length cB) B) (hb3 : Below (W.alloc nilO).heap.size (W.alloc nilO) w3) (hR5 : Kd.R (Kd.int .i64) 3 w5 w3.heap.size (fun k => k = gP) (.slice (some ⟨gP, 0, none⟩) P.length cP) P) (hb5 : Below w3.heap.size w3 w5) :
  NS w4 w5 gB cB gP cP W.heap.size B P := by
 have a := R_new_ge hR3; have b := R_new_ge hR5; have c := h4.size; have d := hb3.size; have f := hb5.size
 have e : (W.alloc nilO).heap.size = W.heap.size + 1 := by simp
 exact ⟨Kd.R_lower (Kd.R_below hR3 hb5) (by omega), Kd.R_lower hR5 (by omega), blk_below (blk_below (blk_new _ _) hb3) hb5, below_step (below_step (below_alloc h4 _) hb3) hb5, by omega, by omega, by omega, by omega⟩
theorem two_facts {g : Nat} {t : TypeId} {x0 x1 : Value} (h : W.heap[g]? = some (.cells #[x0, x1] t (0, 0))) (u0 u1 : Value) :
  (W.cell? ⟨g, 0, none⟩ = some x0 ∧ W.frozen? ⟨g, 0, none⟩ = false) ∧ ((W.setCell ⟨g, 0, none⟩ u0).cell? ⟨g, 1, none⟩ = some x1 ∧ (W.setCell ⟨g, 0, none⟩ u0).frozen? ⟨g, 1, none⟩ = false) ∧ (W.cell? ⟨g, 1, none⟩ = some x1 ∧ W.frozen? ⟨g, 1, none⟩ = false) ∧ ((W.setCell ⟨g, 0, none⟩ u0).setCell ⟨g, 1, none⟩ u1).heap[g]? = some (.cells #[u0, u1] t (0, 0)) := by
 have h1 : (W.setCell ⟨g, 0, none⟩ u0).heap[g]? = some (.cells #[u0, x1] t (0, 0)) := blk_put h 0 u0 rfl
 exact ⟨⟨(blk_cell h 0).trans rfl, blk_frozen h 0⟩, ⟨(blk_cell h1 1).trans rfl, blk_frozen h1 1⟩, ⟨(blk_cell h 1).trans rfl, blk_frozen h 1⟩, blk_put h1 1 u1 rfl⟩
theorem NS.ms (h : NS w4 W gB cB gP cP gO B P) : MS w4 ((W.setCell ⟨gO, 0, none⟩ (.slice (some ⟨gB, 0, none⟩) B.length cB)).setCell ⟨gO, 1, none⟩ (.slice (some ⟨gP, 0, none⟩) P.length cP)) gO gB cB gP cP B P :=
 ⟨(two_facts h.blk _ _).2.2.2, Kd.R_far (p := ⟨gO, 1, none⟩) (Kd.R_far (p := ⟨gO, 0, none⟩) h.rB (fun k e => by rw [e]; exact fun e2 => h.nB e2.symm) _) (fun k e => by rw [e]; exact fun e2 => h.nB e2.symm) _, Kd.R_far (p := ⟨gO, 1, none⟩) (Kd.R_far (p := ⟨gO, 0, none⟩) h.rP (fun k e => by rw [e]; exact fun e2 => h.nP e2.symm) _) (fun k e => by rw [e]; exact fun e2 => h.nP e2.symm) _, below_set (below_set h.below h.ge) h.ge, h.ge, h.nB, h.nP, h.nBP⟩
theorem cell_al {a : Addr} {v : Value} (h : W.cell? a = some v) (o : Obj) : (W.alloc o).cell? a = some v := ((below_alloc (Below.refl _ _) o).cell (World.block_lt_of_cell? W _ h)).trans h
theorem cell_be {a : Addr} {v : Value} (h : W.cell? a = some v) (hb : Below W.heap.size W w3) : w3.cell? a = some v := (hb.cell (World.block_lt_of_cell? W _ h)).trans h
end
set_option maxHeartbeats 8000000 in
set_option maxRecDepth 100000 in
theorem merge_none {G : List Nat} (hG : Gr 9 G) (w0 W : World) (xB gB cB gP cP : Nat) (B P : List Int) (hT : TD G B P) (hS : MS w0 W xB gB cB gP cP B P) (hR : pickM B P = none) :
  Calls Tryd.prog 79 #[.pointer (some ⟨xB, 0, none⟩)] W fun e w' => e = .returned (.bool false) ∧ MS w0 w' xB gB cB gP cP B P := by
 refine (merge_calls hG w0 W xB gB cB gP cP B P hT hS none hR).mono ?_
 rintro e w' (⟨_, h⟩ | ⟨i, p, h, _⟩)
 ·exact h
 ·cases h
theorem merge_some {G : List Nat} (hG : Gr 9 G) (w0 W : World) (xB gB cB gP cP : Nat) (B P : List Int) (hT : TD G B P) (hS : MS w0 W xB gB cB gP cP B P) (i : Nat) (hR : pickM B P = some i) :
  Calls Tryd.prog 79 #[.pointer (some ⟨xB, 0, none⟩)] W fun e w' => e = .returned (.bool true) ∧ MS w0 w' xB gB cB gP cP (mergeB B i (rd P (i : Int)).toNat) (mergeP P i (rd P (i : Int)).toNat) := by
 refine (merge_calls hG w0 W xB gB cB gP cP B P hT hS (some i) hR).mono ?_
 rintro e w' (⟨h, _⟩ | ⟨j, p, h, h1, h2, h3⟩)
 ·cases h
 ·obtain rfl := Option.some.inj h
  rw [h1, Int.toNat_natCast]
  exact ⟨h2, h3⟩
set_option maxHeartbeats 8000000 in
set_option maxRecDepth 100000 in
theorem narrow_no (Ag : Option Addr) (cg : Nat) (g : List Int) (A0 : Option Addr) (c0 : Nat) (B : List Int) (A1 : Option Addr) (c1 : Nat) (P : List Int) (w : World) (hrg : Kd.C (Kd.int .i64) w Ag g.length g) (hcg : g.length ≤ cg) (hl : g.length < 1000) (hchk : chk 9 g = false) :
  Calls Tryd.prog 43 #[.slice Ag g.length cg, .agg #[.slice A0 B.length c0, .slice A1 P.length c1]] w fun e w' => e = .returned (.tuple #[.agg #[.slice none 0 0, .slice none 0 0], .int .i64 2]) ∧ Below w.heap.size w w' := by
 have HRD : Aside0 (∀ W, Below w.heap.size w W → Calls Tryd.prog 59 #[.slice Ag g.length cg] W fun e w' => ∃ v, e = .returned (.tuple #[v, .bool false]) ∧ Below W.heap.size W w') := ⟨fun W hW => readN_no (by omega) hchk Ag cg W (Kd.C_below hrg hW) hcg⟩
 have hu53 := Tryd.underlying53
 clear hrg hcg hl hchk
 go_enter Tryd.func43, Tryd.ntmps43
 go_wp2_with (first | ((with_reducible refine gate_dst (N := 3) rfl ?_); refine box_event ?hg (N := 3) ?hd (cs := #[.slice A0 B.length c0, .slice A1 P.length c1]) (t := 53) ?hr ?_; (case hd => rfl); (case hg => rfl); (case hr => first | (go_simp; done) | (go_simp; rfl)); intro xB hxB w1 hbox hb1; have HX := Aside0.mk hbox; have HB1 := Aside0.mk hb1; clear hbox hb1 hxB) | ((with_reducible refine gate_dst (N := 4) rfl ?_); refine box_event ?hg (N := 4) ?hd (cs := #[.slice none 0 0, .slice none 0 0]) (t := 53) ?hr ?_; (case hd => rfl); (case hg => rfl); (case hr => first | (go_simp; done) | (go_simp; rfl)); intro rB hrB w2 hbox hb2; have HR := Aside0.mk hbox; have HB2 := Aside0.mk (below_step HB1.out hb2); have HGR : Aside0 (w.heap.size ≤ rB) := ⟨by rw [hrB]; exact HB1.out.size⟩; clear hbox hb2 hrB) | (go_at_call 59; refine (HRD.out _ HB2.out).mono ?_; rintro e w3 ⟨v, rfl, hb3⟩; have HR3 := Aside0.mk (blk_below HR.out hb3); have HB3 := Aside0.mk (below_step HB2.out hb3); obtain ⟨⟨e1, e2⟩, ⟨e3, e4⟩, ⟨e5, e6⟩, e7⟩ := two_facts HR3.out (.slice none 0 0) (.slice none 0 0); have E7 := Aside0.mk e7; clear hb3 e7))
 refine bodyPost_ret (results_ct rfl _ _ rB 53 #[.slice none 0 0, .slice none 0 0] (0, 0) _ rfl E7.out Tryd.underlying53 rfl (by kernel_rfl)) rfl ?_
 exact ⟨rfl, below_set (below_set HB3.out HGR.out) HGR.out⟩
set_option maxHeartbeats 8000000 in
set_option maxRecDepth 100000 in
theorem narrow_bad {G : List Nat} (hG : Gr 9 G) (Ag : Option Addr) (cg : Nat) (A0 : Option Addr) (c0 : Nat) (B : List Int) (A1 : Option Addr) (c1 : Nat) (P : List Int) (w : World) (hGL : GL w) (hrg : Kd.C (Kd.int .i64) w Ag (gi G).length (gi G)) (hcg : (gi G).length ≤ cg) (hr0 : Kd.C (Kd.int .i64) w A0 B.length B) (hc0 : B.length ≤ c0) (hr1 : Kd.C (Kd.int .i64) w A1 P.length P) (hc1 : P.length ≤ c1) (hbt : treeB G B P = false) :
  Calls Tryd.prog 43 #[.slice Ag (gi G).length cg, .agg #[.slice A0 B.length c0, .slice A1 P.length c1]] w fun e w' => e = .returned (.tuple #[.agg #[.slice none 0 0, .slice none 0 0], .int .i64 2]) ∧ Below w.heap.size w w' := by
 have HRD : Aside0 (∀ W, Below w.heap.size w W → Calls Tryd.prog 59 #[.slice Ag (gi G).length cg] W fun e w' => ∃ A1 c1, e = .returned (.tuple #[.slice A1 (gi G).length c1, .bool true]) ∧ (gi G).length ≤ c1 ∧ Kd.C (Kd.int .i64) w' A1 (gi G).length (gi G) ∧ Below W.heap.size W w') := ⟨fun W hW => readN_yes hG Ag cg W (Kd.C_below hrg hW) hcg⟩
 have HTR : Aside0 (∀ W A2 c2, Below w.heap.size w W → (gi G).length ≤ c2 → Kd.C (Kd.int .i64) W A2 (gi G).length (gi G) → Calls Tryd.prog 78 #[.slice A2 (gi G).length c2, .agg #[.slice A0 B.length c0, .slice A1 P.length c1]] W fun e w' => e = .returned (.bool false) ∧ Below W.heap.size W w') := ⟨fun W A2 c2 hW hc hC => width_town_tree.calls A2 c2 (gi G) A0 c0 B A1 c1 P false W (GL_below hGL hW) hC hc (Kd.C_below hr0 hW) hc0 (Kd.C_below hr1 hW) hc1 (by unfold width_town_tree.f; rw [if_pos ((chk_iff 9 (by omega) _).2 ⟨G, rfl, hG⟩), gi_toNatN, hbt])⟩
 have hu53 := Tryd.underlying53
 clear hrg hcg hr0 hr1 hbt hGL
 generalize (gi G).length = n at *
 generalize gi G = g at *
 go_enter Tryd.func43, Tryd.ntmps43
 go_wp2_with (first | ((with_reducible refine gate_dst (N := 3) rfl ?_); refine box_event ?hg (N := 3) ?hd (cs := #[.slice A0 B.length c0, .slice A1 P.length c1]) (t := 53) ?hr ?_; (case hd => rfl); (case hg => rfl); (case hr => first | (go_simp; done) | (go_simp; rfl)); intro xB hxB w1 hbox hb1; have HX := Aside0.mk hbox; have HB1 := Aside0.mk hb1; clear hbox hb1 hxB) | ((with_reducible refine gate_dst (N := 4) rfl ?_); refine box_event ?hg (N := 4) ?hd (cs := #[.slice none 0 0, .slice none 0 0]) (t := 53) ?hr ?_; (case hd => rfl); (case hg => rfl); (case hr => first | (go_simp; done) | (go_simp; rfl)); intro rB hrB w2 hbox hb2; have HR := Aside0.mk hbox; have HX2 := Aside0.mk (blk_below HX.out hb2); have HB2 := Aside0.mk (below_step HB1.out hb2); have HGR : Aside0 (w.heap.size ≤ rB) := ⟨by rw [hrB]; exact HB1.out.size⟩; clear hbox hb2 hrB) | (go_at_call 59; refine (HRD.out _ HB2.out).mono ?_; rintro e w3 ⟨A2, c2, rfl, hc2, hC2, hb3⟩; have HR3 := Aside0.mk (blk_below HR.out hb3); have HX3 := Aside0.mk (blk_below HX2.out hb3); have HB3 := Aside0.mk (below_step HB2.out hb3); have HT3 := Aside0.mk (HTR.out w3 A2 c2 HB3.out hc2 hC2); have x0 : w3.cell? ⟨xB, 0, none⟩ = some (.slice A0 B.length c0) := (blk_cell HX3.out 0).trans rfl; have x1 : w3.cell? ⟨xB, 1, none⟩ = some (.slice A1 P.length c1) := (blk_cell HX3.out 1).trans rfl; clear hb3 hc2 hC2) | (go_at_call 78; refine HT3.out.mono ?_; rintro e w4 ⟨rfl, hb4⟩; have HB4 := Aside0.mk (below_step HB3.out hb4); obtain ⟨⟨e1, e2⟩, ⟨e3, e4⟩, ⟨e5, e6⟩, e7⟩ := two_facts (blk_below HR3.out hb4) (.slice none 0 0) (.slice none 0 0); have E7 := Aside0.mk e7; clear hb4 e7))
 refine bodyPost_ret (results_ct rfl _ _ rB 53 #[.slice none 0 0, .slice none 0 0] (0, 0) _ rfl E7.out Tryd.underlying53 rfl (by kernel_rfl)) rfl ?_
 exact ⟨rfl, below_set (below_set HB4.out HGR.out) HGR.out⟩
set_option maxHeartbeats 8000000 in
set_option maxRecDepth 100000 in
theorem narrow_yes {G : List Nat} (hG : Gr 9 G) (Ag : Option Addr) (cg : Nat) (A0 : Option Addr) (c0 : Nat) (B : List Int) (A1 : Option Addr) (c1 : Nat) (P : List Int) (w : World) (hGL : GL w) (hrg : Kd.C (Kd.int .i64) w Ag (gi G).length (gi G)) (hcg : (gi G).length ≤ cg) (hr0 : Kd.C (Kd.int .i64) w A0 B.length B) (hc0 : B.length ≤ c0) (hr1 : Kd.C (Kd.int .i64) w A1 P.length P) (hc1 : P.length ≤ c1) (hbt : treeB G B P = true) (hT : TD G B P) (r1 r2 : List Int) (hres : narN B.length B P = (r1, r2)) :
  Calls Tryd.prog 43 #[.slice Ag (gi G).length cg, .agg #[.slice A0 B.length c0, .slice A1 P.length c1]] w fun e w' => ∃ v0_ v1_ : Value, e = .returned (.tuple #[.agg #[v0_, v1_], .int .i64 0]) ∧ Kd.R (Kd.int .i64) 3 w' w.heap.size (fun k_ => some k_ ≠ (v1_ : Value).ownBlock) v0_ r1 ∧ Kd.R (Kd.int .i64) 3 w' w.heap.size (fun k_ => some k_ ≠ (v0_ : Value).ownBlock) v1_ r2 ∧ Below w.heap.size w w' := by
 have HRD : Aside0 (∀ W, Below w.heap.size w W → Calls Tryd.prog 59 #[.slice Ag (gi G).length cg] W fun e w' => ∃ A1 c1, e = .returned (.tuple #[.slice A1 (gi G).length c1, .bool true]) ∧ (gi G).length ≤ c1 ∧ Kd.C (Kd.int .i64) w' A1 (gi G).length (gi G) ∧ Below W.heap.size W w') := ⟨fun W hW => readN_yes hG Ag cg W (Kd.C_below hrg hW) hcg⟩
 have HTR : Aside0 (∀ W A2 c2, Below w.heap.size w W → (gi G).length ≤ c2 → Kd.C (Kd.int .i64) W A2 (gi G).length (gi G) → Calls Tryd.prog 78 #[.slice A2 (gi G).length c2, .agg #[.slice A0 B.length c0, .slice A1 P.length c1]] W fun e w' => e = .returned (.bool true) ∧ Below W.heap.size W w') := ⟨fun W A2 c2 hW hc hC => width_town_tree.calls A2 c2 (gi G) A0 c0 B A1 c1 P true W (GL_below hGL hW) hC hc (Kd.C_below hr0 hW) hc0 (Kd.C_below hr1 hW) hc1 (by unfold width_town_tree.f; rw [if_pos ((chk_iff 9 (by omega) _).2 ⟨G, rfl, hG⟩), gi_toNatN, hbt])⟩
 have h30 := hT.most
 have hpl := hT.len
 have hpos := hT.pos
 have CB : Aside0 (∀ W, Below w.heap.size w W → Calls Tryd.prog 72 #[.slice A0 B.length c0] W fun e w' => ∃ g cp, e = .returned (.slice (some ⟨g, 0, none⟩) B.length cp) ∧ Kd.R (Kd.int .i64) 3 w' W.heap.size (fun k => k = g) (.slice (some ⟨g, 0, none⟩) B.length cp) B ∧ Below W.heap.size W w') := ⟨fun W hW => clone_own A0 c0 B (by omega) (by omega) W (Kd.C_below hr0 hW) hc0⟩
 have CP : Aside0 (∀ W, Below w.heap.size w W → Calls Tryd.prog 72 #[.slice A1 P.length c1] W fun e w' => ∃ g cp, e = .returned (.slice (some ⟨g, 0, none⟩) P.length cp) ∧ Kd.R (Kd.int .i64) 3 w' W.heap.size (fun k => k = g) (.slice (some ⟨g, 0, none⟩) P.length cp) P ∧ Below W.heap.size W w') := ⟨fun W hW => clone_own A1 c1 P (by omega) (by omega) W (Kd.C_below hr1 hW) hc1⟩
 have hu53 := Tryd.underlying53
 have HT0 := Aside0.mk hT
 have HRES := Aside0.mk hres
 clear hrg hcg hr0 hr1 hbt hGL hT hres hpl hpos h30
 generalize (gi G).length = n at *
 generalize gi G = g at *
 go_enter Tryd.func43, Tryd.ntmps43
 go_wp2_with (first | ((with_reducible refine gate_dst (N := 3) rfl ?_); refine box_event ?hg (N := 3) ?hd (cs := #[.slice A0 B.length c0, .slice A1 P.length c1]) (t := 53) ?hr ?_; (case hd => rfl); (case hg => rfl); (case hr => first | (go_simp; done) | (go_simp; rfl)); intro xB hxB w1 hbox hb1; have HX := Aside0.mk hbox; have HB1 := Aside0.mk hb1; clear hbox hb1 hxB) | ((with_reducible refine gate_dst (N := 4) rfl ?_); refine box_event ?hg (N := 4) ?hd (cs := #[.slice none 0 0, .slice none 0 0]) (t := 53) ?hr ?_; (case hd => rfl); (case hg => rfl); (case hr => first | (go_simp; done) | (go_simp; rfl)); intro rB hrB w2 hbox hb2; have HR := Aside0.mk hbox; have HX2 := Aside0.mk (blk_below HX.out hb2); have HB2 := Aside0.mk (below_step HB1.out hb2); have HGR : Aside0 (w.heap.size ≤ rB) := ⟨by rw [hrB]; exact HB1.out.size⟩; clear hbox hb2 hrB) | (go_at_call 59; refine (HRD.out _ HB2.out).mono ?_; rintro e w3 ⟨A2, c2, rfl, hc2, hC2, hb3⟩; have HR3 := Aside0.mk (blk_below HR.out hb3); have HX3 := Aside0.mk (blk_below HX2.out hb3); have HB3 := Aside0.mk (below_step HB2.out hb3); have HT3 := Aside0.mk (HTR.out w3 A2 c2 HB3.out hc2 hC2); have x0 : w3.cell? ⟨xB, 0, none⟩ = some (.slice A0 B.length c0) := (blk_cell HX3.out 0).trans rfl; have x1 : w3.cell? ⟨xB, 1, none⟩ = some (.slice A1 P.length c1) := (blk_cell HX3.out 1).trans rfl; clear hb3 hc2 hC2) | (go_at_call 78; refine HT3.out.mono ?_; rintro e w4 ⟨rfl, hb4⟩; have HB4 := Aside0.mk (below_step HB3.out hb4); have HR4 := Aside0.mk (blk_below HR3.out hb4); have HX4 := Aside0.mk (blk_below HX3.out hb4); clear hb4))
 clear HRD HTR HT3 HB1 HB2 HB3 HX HX2 HX3 HR HR3 x0 x1
 have f0d : w4.drew.cell? ⟨xB, 0, none⟩ = some (.slice A0 B.length c0) := (blk_cell HX4.out 0).trans rfl
 have f1d : w4.drew.cell? ⟨xB, 1, none⟩ = some (.slice A1 P.length c1) := (blk_cell HX4.out 1).trans rfl
 have fbd : Below w4.heap.size w4 w4.drew := below_drew (Below.refl _ _)
 refine start_ (n := 9) (S := fun w' => w'.cell? ⟨xB, 0, none⟩ = some (.slice A0 B.length c0) ∧ w'.cell? ⟨xB, 1, none⟩ = some (.slice A1 P.length c1) ∧ Below w4.heap.size w4 w') (ds := [8]) (Qbz 9 0) (by kernel_rfl) rfl rfl ⟨f0d, f1d, fbd⟩ (fun hHeld => ?_)
 refine pure_ (i := 0) (N := some 23) (v := ?_) (a' := ?_) (Qbz 9 1) rfl rfl (by kernel_rfl) (fun _ _ _ h => h) (Or.inl ⟨by rfl, ?_⟩) ?_ ?_
 rotate_left
 ·intro w'
  go_simp
  with_reducible rfl
 rotate_left
 ·simp only [Act.put, Qp1, Qp2, Qp3, i64_w, i32_w]
  rfl
 refine pure_ (i := 3) (N := some 26) (v := ?_) (a' := ?_) (Qbz 9 9) rfl rfl (by kernel_rfl) (fun _ _ _ h => h) (Or.inl ⟨by rfl, ?_⟩) ?_ ?_
 rotate_left
 ·intro w'
  go_simp
  with_reducible rfl
 rotate_left
 ·simp only [Act.put, Qp1, Qp2, Qp3, i64_w, i32_w]
  rfl
 refine take_ (i := 1) (N := some 24) (v := ?_) (a' := ?_) (Qbz 9 11) rfl rfl (by kernel_rfl) (fun _ _ _ h => h) (Or.inl ⟨by rfl, ?_⟩) hHeld ?_ ?_
 rotate_left
 ·rintro w' ⟨s0, s1, s2⟩
  go_simp
  with_reducible rfl
 rotate_left
 ·simp only [Act.put, Qp1, Qp2, Qp3, i64_w, i32_w]
  rfl
 refine take_ (i := 4) (N := some 27) (v := ?_) (a' := ?_) (Qbz 9 27) rfl rfl (by kernel_rfl) (fun _ _ _ h => h) (Or.inl ⟨by rfl, ?_⟩) hHeld ?_ ?_
 rotate_left
 ·rintro w' ⟨s0, s1, s2⟩
  go_simp
  with_reducible rfl
 rotate_left
 ·simp only [Act.put, Qp1, Qp2, Qp3, i64_w, i32_w]
  rfl
 refine join_ (σ := Nat × Nat × Nat × Nat × Nat) 1 (Qbz 9 255) (fun s => [(25, .slice (some ⟨s.1, 0, none⟩) B.length s.2.1), (28, .slice (some ⟨s.2.2.1, 0, none⟩) P.length s.2.2.2.1), (29, .agg #[.slice (some ⟨s.1, 0, none⟩) B.length s.2.1, .slice (some ⟨s.2.2.1, 0, none⟩) P.length s.2.2.2.1]), (8, .pointer (some ⟨s.2.2.2.2, 0, none⟩))]) (fun s w' => NS w4 w' s.1 s.2.1 s.2.2.1 s.2.2.2.1 s.2.2.2.2 B P ∧ (w'.cell? ⟨xB, 0, none⟩ = some (.slice A0 B.length c0) ∧ w'.cell? ⟨xB, 1, none⟩ = some (.slice A1 P.length c1) ∧ Below w4.heap.size w4 w')) ?_ ?_
 rotate_left
 ·intro hCont
  refine two_ (i := 2) (j := 7) (Ni := some 25) (Nj := some 8) (Qbz 9 31) (Qbz 9 155) rfl rfl rfl rfl (by kernel_rfl) (by decide) (by decide) (fun K hK => ?_) (fun K hK => ?_)
  ·skip
   refine goes_ Tryd.func72 (by kernel_rfl) rfl #[.slice A0 B.length c0] (by rfl) rfl rfl (by simp only [List.map_toArray, List.map_cons, List.map_nil]; rfl) ?_
   with_reducible refine (CB.out _ (below_step HB4.out hHeld.2.2)).mono ?_
   rintro e w5 ⟨gB, cB, rfl, hR5, hb5⟩
   refine ⟨_, rfl, ?_⟩
   refine hK.out _ _ ⟨cell_be hHeld.1 hb5, cell_be hHeld.2.1 hb5, below_step hHeld.2.2 hb5⟩ (fun hHeld => ?_)
   clear hK K
   refine norm_ (a' := ?_) ?_ ?_
   rotate_left
   ·show Act.put _ (some 25) _ = _
    simp only [Act.put, Qp1, Qp2, Qp3, i64_w, i32_w]
    rfl
   refine two_ (i := 5) (j := 7) (Ni := some 28) (Nj := some 8) (Qbz 9 63) (Qbz 9 159) rfl rfl rfl rfl (by kernel_rfl) (by decide) (by decide) (fun K hK => ?_) (fun K hK => ?_)
   ·skip
    refine goes_ Tryd.func72 (by kernel_rfl) rfl #[.slice A1 P.length c1] (by rfl) rfl rfl (by simp only [List.map_toArray, List.map_cons, List.map_nil]; rfl) ?_
    with_reducible refine (CP.out _ (below_step HB4.out hHeld.2.2)).mono ?_
    rintro e w6 ⟨gP, cP, rfl, hR6, hb6⟩
    refine ⟨_, rfl, ?_⟩
    refine hK.out _ _ ⟨cell_be hHeld.1 hb6, cell_be hHeld.2.1 hb6, below_step hHeld.2.2 hb6⟩ (fun hHeld => ?_)
    clear hK K
    refine norm_ (a' := ?_) ?_ ?_
    rotate_left
    ·show Act.put _ (some 28) _ = _
     simp only [Act.put, Qp1, Qp2, Qp3, i64_w, i32_w]
     rfl
    refine pure_ (i := 6) (N := some 29) (v := ?_) (a' := ?_) (Qbz 9 127) rfl rfl (by kernel_rfl) (fun _ _ _ h => h) (Or.inl ⟨by rfl, ?_⟩) ?_ ?_
    rotate_left
    ·intro w'
     go_simp
     with_reducible rfl
    rotate_left
    ·simp only [Act.put, Qp1, Qp2, Qp3, i64_w, i32_w]
     rfl
    refine one_ (i := 7) (N := some 8) (Qbz 9 255) rfl rfl (by kernel_rfl) (by decide) (fun K hK => ?_)
    refine value_ (w1 := ?_) (v := ?_) (by rfl) rfl ?_ ?_
    rotate_left 2
    ·go_simp
     constructor
     ·rfl
     ·rfl
    refine hK.out _ _ ⟨cell_al hHeld.1 nilO, cell_al hHeld.2.1 nilO, below_alloc hHeld.2.2 nilO⟩ (fun hHeld => ?_)
    clear hK K
    refine norm_ (a' := ?_) ?_ ?_
    rotate_left
    ·show Act.put _ (some 8) _ = _
     simp only [Act.put, Qp1, Qp2, Qp3, i64_w, i32_w]
     rfl
    exact norm_ (by simp only [putAll, Act.put, List.setIfInBounds_toArray, List.set_cons_zero, List.set_cons_succ]) (hCont (gB, cB, gP, cP, w6.heap.size) _ ⟨ns257 (W := w4.drew) fbd hR5 hb5 hR6 hb6, hHeld⟩)
   ·skip
    refine value_ (w1 := ?_) (v := ?_) (by rfl) rfl ?_ ?_
    rotate_left 2
    ·go_simp
     constructor
     ·rfl
     ·rfl
    refine hK.out _ _ ⟨cell_al hHeld.1 nilO, cell_al hHeld.2.1 nilO, below_alloc hHeld.2.2 nilO⟩ (fun hHeld => ?_)
    clear hK K
    refine norm_ (a' := ?_) ?_ ?_
    rotate_left
    ·show Act.put _ (some 8) _ = _
     simp only [Act.put, Qp1, Qp2, Qp3, i64_w, i32_w]
     rfl
    refine one_ (i := 5) (N := some 28) (Qbz 9 191) rfl rfl (by kernel_rfl) (by decide) (fun K hK => ?_)
    refine goes_ Tryd.func72 (by kernel_rfl) rfl #[.slice A1 P.length c1] (by rfl) rfl rfl (by simp only [List.map_toArray, List.map_cons, List.map_nil]; rfl) ?_
    with_reducible refine (CP.out _ (below_step HB4.out hHeld.2.2)).mono ?_
    rintro e w6 ⟨gP, cP, rfl, hR6, hb6⟩
    refine ⟨_, rfl, ?_⟩
    refine hK.out _ _ ⟨cell_be hHeld.1 hb6, cell_be hHeld.2.1 hb6, below_step hHeld.2.2 hb6⟩ (fun hHeld => ?_)
    clear hK K
    refine norm_ (a' := ?_) ?_ ?_
    rotate_left
    ·show Act.put _ (some 28) _ = _
     simp only [Act.put, Qp1, Qp2, Qp3, i64_w, i32_w]
     rfl
    refine pure_ (i := 6) (N := some 29) (v := ?_) (a' := ?_) (Qbz 9 255) rfl rfl (by kernel_rfl) (fun _ _ _ h => h) (Or.inl ⟨by rfl, ?_⟩) ?_ ?_
    rotate_left
    ·intro w'
     go_simp
     with_reducible rfl
    rotate_left
    ·simp only [Act.put, Qp1, Qp2, Qp3, i64_w, i32_w]
     rfl
    exact norm_ (by simp only [putAll, Act.put, List.setIfInBounds_toArray, List.set_cons_zero, List.set_cons_succ]) (hCont (gB, cB, gP, cP, w5.heap.size) _ ⟨ns275 (W := w4.drew) fbd hR5 hb5 hR6 hb6, hHeld⟩)
  ·skip
   refine value_ (w1 := ?_) (v := ?_) (by rfl) rfl ?_ ?_
   rotate_left 2
   ·go_simp
    constructor
    ·rfl
    ·rfl
   refine hK.out _ _ ⟨cell_al hHeld.1 nilO, cell_al hHeld.2.1 nilO, below_alloc hHeld.2.2 nilO⟩ (fun hHeld => ?_)
   clear hK K
   refine norm_ (a' := ?_) ?_ ?_
   rotate_left
   ·show Act.put _ (some 8) _ = _
    simp only [Act.put, Qp1, Qp2, Qp3, i64_w, i32_w]
    rfl
   refine one_ (i := 2) (N := some 25) (Qbz 9 159) rfl rfl (by kernel_rfl) (by decide) (fun K hK => ?_)
   refine goes_ Tryd.func72 (by kernel_rfl) rfl #[.slice A0 B.length c0] (by rfl) rfl rfl (by simp only [List.map_toArray, List.map_cons, List.map_nil]; rfl) ?_
   with_reducible refine (CB.out _ (below_step HB4.out hHeld.2.2)).mono ?_
   rintro e w5 ⟨gB, cB, rfl, hR5, hb5⟩
   refine ⟨_, rfl, ?_⟩
   refine hK.out _ _ ⟨cell_be hHeld.1 hb5, cell_be hHeld.2.1 hb5, below_step hHeld.2.2 hb5⟩ (fun hHeld => ?_)
   clear hK K
   refine norm_ (a' := ?_) ?_ ?_
   rotate_left
   ·show Act.put _ (some 25) _ = _
    simp only [Act.put, Qp1, Qp2, Qp3, i64_w, i32_w]
    rfl
   refine one_ (i := 5) (N := some 28) (Qbz 9 191) rfl rfl (by kernel_rfl) (by decide) (fun K hK => ?_)
   refine goes_ Tryd.func72 (by kernel_rfl) rfl #[.slice A1 P.length c1] (by rfl) rfl rfl (by simp only [List.map_toArray, List.map_cons, List.map_nil]; rfl) ?_
   with_reducible refine (CP.out _ (below_step HB4.out hHeld.2.2)).mono ?_
   rintro e w6 ⟨gP, cP, rfl, hR6, hb6⟩
   refine ⟨_, rfl, ?_⟩
   refine hK.out _ _ ⟨cell_be hHeld.1 hb6, cell_be hHeld.2.1 hb6, below_step hHeld.2.2 hb6⟩ (fun hHeld => ?_)
   clear hK K
   refine norm_ (a' := ?_) ?_ ?_
   rotate_left
   ·show Act.put _ (some 28) _ = _
    simp only [Act.put, Qp1, Qp2, Qp3, i64_w, i32_w]
    rfl
   refine pure_ (i := 6) (N := some 29) (v := ?_) (a' := ?_) (Qbz 9 255) rfl rfl (by kernel_rfl) (fun _ _ _ h => h) (Or.inl ⟨by rfl, ?_⟩) ?_ ?_
   rotate_left
   ·intro w'
    go_simp
    with_reducible rfl
   rotate_left
   ·simp only [Act.put, Qp1, Qp2, Qp3, i64_w, i32_w]
    rfl
   exact norm_ (by simp only [putAll, Act.put, List.setIfInBounds_toArray, List.set_cons_zero, List.set_cons_succ]) (hCont (gB, cB, gP, cP, w4.heap.size) _ ⟨ns725 (W := w4.drew) fbd hR5 hb5 hR6 hb6, hHeld⟩)
 rintro ⟨gB, cB, gP, cP, gO⟩ w7 ⟨HNS0, hHeld⟩
 have HNS := Aside0.mk HNS0
 clear HNS0
 obtain ⟨⟨e1, e2⟩, ⟨e3, e4⟩, ⟨e5, e6⟩, e7⟩ := two_facts HNS.out.blk (.slice (some ⟨gB, 0, none⟩) B.length cB) (.slice (some ⟨gP, 0, none⟩) P.length cP)
 refine norm_ (a' := ?_) ?_ ?_
 rotate_left
 ·simp only [putAll, Act.put, List.setIfInBounds_toArray, List.set_cons_zero, List.set_cons_succ]
  rfl
 refine last_ (i := 8) (N := none) (Qbz 9 511) rfl rfl (by kernel_rfl) (by decide) (fun K hK => ?_)
 refine skip_ (w1 := ?_) (by rfl) rfl ?_ ?_
 rotate_left
 ·go_simp
  rfl
 refine hK.out _ _ ?_
 clear hK K
 refine done_ (by kernel_rfl) ?_
 have HMS := Aside0.mk HNS.out.ms
 generalize ((w7.setCell ⟨gO, 0, none⟩ (.slice (some ⟨gB, 0, none⟩) B.length cB)).setCell ⟨gO, 1, none⟩ (.slice (some ⟨gP, 0, none⟩) P.length cP)) = w8 at *
 clear HNS hHeld e1 e2 e3 e4 e5 e6 e7 CB CP f0d f1d fbd
 go_wp2
 go_loopg [30] B.length (fun kq v30 w' => ∃ B' P' : List Int, B'.length = kq ∧ Aside0 (TD G B' P') ∧ Aside0 (narN kq B' P' = (r1, r2)) ∧ Aside0 (MS w4 w' gO gB cB gP cP B' P'))
 case atStart => exact ⟨B, P, rfl, HT0, HRES, HMS⟩
 case round =>
  clear HMS HT0 HRES
  obtain ⟨B', P', hk, HT, HN, HM⟩ := hrel
  have hpos := HT.out.pos
  cases gk with
  | zero => omega
  | succ gk' =>
  cases hp : pickM B' P' with
  | none =>
   have HC := Aside0.mk (merge_none hG w4 wr gO gB cB gP cP B' P' HT.out HM.out hp)
   have hn := HN.out
   rw [narN, hp] at hn
   injection hn with hn1 hn2
   subst hn1 hn2
   clear HN hp HM hk hpos
   go_wp2_with (go_at_call 79; refine HC.out.mono ?_; rintro e w9 ⟨rfl, hm⟩; have HM9 := Aside0.mk hm; have x0 := hm.xb; have x1 := hm.xp; have HR9 := Aside0.mk ((hm.below.block rB (blk_lt HR4.out)).trans HR4.out); obtain ⟨⟨e1, e2⟩, ⟨e3, e4⟩, ⟨e5, e6⟩, e7⟩ := two_facts HR9.out (.slice (some ⟨gB, 0, none⟩) B'.length cB) (.slice (some ⟨gP, 0, none⟩) P'.length cP); have E7 := Aside0.mk e7; clear hm e7)
   refine bodyPost_ret (results_ct rfl _ _ rB 53 #[.slice (some ⟨gB, 0, none⟩) B'.length cB, .slice (some ⟨gP, 0, none⟩) P'.length cP] (0, 0) _ rfl E7.out Tryd.underlying53 rfl (by kernel_rfl)) rfl ?_
   have hlt := blk_lt HR4.out
   have hB := HM9.out.gBge
   have hP := HM9.out.gPge
   have hBP := HM9.out.nBP
   have hws := HB4.out.size
   refine ⟨_, _, rfl, ?_, ?_, below_set (below_set (below_step HB4.out HM9.out.below) HGR.out) HGR.out⟩
   ·exact Kd.R_mono (Kd.R_lower (Kd.R_far (p := ⟨rB, 1, none⟩) (Kd.R_far (p := ⟨rB, 0, none⟩) HM9.out.rB (fun k e => by rw [e]; show gB ≠ rB; omega) _) (fun k e => by rw [e]; show gB ≠ rB; omega) _) hws) (fun k e => by rw [e]; simp [Value.ownBlock]; exact hBP)
   ·exact Kd.R_mono (Kd.R_lower (Kd.R_far (p := ⟨rB, 1, none⟩) (Kd.R_far (p := ⟨rB, 0, none⟩) HM9.out.rP (fun k e => by rw [e]; show gP ≠ rB; omega) _) (fun k e => by rw [e]; show gP ≠ rB; omega) _) hws) (fun k e => by rw [e]; simp [Value.ownBlock]; exact fun e2 => hBP e2.symm)
  | some i =>
   have HC := Aside0.mk (merge_some hG w4 wr gO gB cB gP cP B' P' HT.out HM.out i hp)
   obtain ⟨p, hq, hi, hpn, _⟩ := merge_bags HT.out hp
   have HT2 := Aside0.mk (merge_td hG HT.out hi hq)
   have hml := mergeB_len (B := B') (p := p) hi
   have hn := HN.out
   rw [narN, hp] at hn
   simp only [hq, Int.toNat_natCast] at hn
   have HN2 := Aside0.mk hn
   rw [hq, Int.toNat_natCast] at HC
   clear HN hp HM hn hq
   go_wp2_with (go_at_call 79; refine HC.out.mono ?_; rintro e w9 ⟨rfl, hm⟩; have HM9 := Aside0.mk hm; clear hm)
   go_roundg gk'
   case measure => omega
   case rel => exact ⟨mergeB B' i p, mergeP P' i p, by omega, HT2, HN2, HM9⟩
theorem width_Narrow.calls (Ag : Option Addr) (cg : Nat) (g : List Int) (A0 : Option Addr) (c0 : Nat) (B : List Int) (A1 : Option Addr) (c1 : Nat) (P : List Int) (r1 r2 : List Int) (r3 : Int) (w : World) (hGL : GL w) (hrg : Kd.C (Kd.int .i64) w Ag g.length g) (hcg : g.length ≤ cg) (hr0 : Kd.C (Kd.int .i64) w A0 B.length B) (hc0 : B.length ≤ c0) (hr1 : Kd.C (Kd.int .i64) w A1 P.length P) (hc1 : P.length ≤ c1) (h : width_Narrow.f g B P = some (r1, r2, r3)) :
  Calls Tryd.prog 43 #[.slice Ag g.length cg, .agg #[.slice A0 B.length c0, .slice A1 P.length c1]] w fun e w' => ∃ v0_ v1_ : Value, e = .returned (.tuple #[.agg #[v0_, v1_], .int .i64 r3]) ∧ Kd.R (Kd.int .i64) 3 w' w.heap.size (fun k_ => some k_ ≠ (v1_ : Value).ownBlock) v0_ r1 ∧ Kd.R (Kd.int .i64) 3 w' w.heap.size (fun k_ => some k_ ≠ (v0_ : Value).ownBlock) v1_ r2 ∧ Below w.heap.size w w' := by
 unfold width_Narrow.f at h
 have no : r1 = [] ∧ r2 = [] ∧ r3 = 2 → Calls Tryd.prog 43 #[.slice Ag g.length cg, .agg #[.slice A0 B.length c0, .slice A1 P.length c1]] w (fun e w' => e = .returned (.tuple #[.agg #[.slice none 0 0, .slice none 0 0], .int .i64 2]) ∧ Below w.heap.size w w') → Calls Tryd.prog 43 #[.slice Ag g.length cg, .agg #[.slice A0 B.length c0, .slice A1 P.length c1]] w fun e w' => ∃ v0_ v1_ : Value, e = .returned (.tuple #[.agg #[v0_, v1_], .int .i64 r3]) ∧ Kd.R (Kd.int .i64) 3 w' w.heap.size (fun k_ => some k_ ≠ (v1_ : Value).ownBlock) v0_ r1 ∧ Kd.R (Kd.int .i64) 3 w' w.heap.size (fun k_ => some k_ ≠ (v0_ : Value).ownBlock) v1_ r2 ∧ Below w.heap.size w w' := by
  rintro ⟨rfl, rfl, rfl⟩ hc
  refine hc.mono ?_
  rintro e w' ⟨rfl, hb⟩
  exact ⟨_, _, rfl, Kd.R_nil _ _ _ _ _, Kd.R_nil _ _ _ _ _, hb⟩
 by_cases hchk : chk 9 g = true
 ·rw [if_pos hchk] at h
  obtain ⟨G, rfl, hG⟩ := (chk_iff 9 (by omega) _).1 hchk
  rw [gi_toNatN] at h
  by_cases hbt : treeB G B P = true
  ·rw [if_pos hbt] at h
   have h1 := Option.some.inj h
   simp only [Prod.mk.injEq] at h1
   obtain ⟨h1, h2, h3⟩ := h1
   subst h3
   exact narrow_yes hG Ag cg A0 c0 B A1 c1 P w hGL hrg hcg hr0 hc0 hr1 hc1 hbt ((treeB_iff hG B P).1 hbt) r1 r2 (by rw [← h1, ← h2])
  ·rw [if_neg hbt] at h
   have h1 := Option.some.inj h
   simp only [Prod.mk.injEq] at h1
   obtain ⟨h1, h2, h3⟩ := h1
   exact no ⟨h1.symm, h2.symm, h3.symm⟩ (narrow_bad hG Ag cg A0 c0 B A1 c1 P w hGL hrg hcg hr0 hc0 hr1 hc1 (by simpa using hbt))
 ·rw [if_neg hchk] at h
  by_cases hl : g.length < 1000
  ·rw [if_pos hl] at h
   have h1 := Option.some.inj h
   simp only [Prod.mk.injEq] at h1
   obtain ⟨h1, h2, h3⟩ := h1
   exact no ⟨h1.symm, h2.symm, h3.symm⟩ (narrow_no Ag cg g A0 c0 B A1 c1 P w hrg hcg hl (by simpa using hchk))
  ·rw [if_neg hl] at h
   cases h
end Go.Proofs.YtoffehihicabcaaDoor.X
end
section
namespace Go.Proofs.YtoffehihicabcaaDoor.X
open Go.RowKit YtoffehihicabcaaDoorW.PrintWords YtoffehihicabcaaDoorW.PrintLast YtoffehihicabcaaDoorW.PrintMore
attribute [local go_sem] max2_int min2_int max_two min_two max_three min_three max_four min_four
noncomputable section
def slices_Index_int_int.l0 : Nat → List Int → Int → Int → Int → Option (Int)
 | 0, _, _, _, _ => none
 | k + 1, x0, x1, x7, x8 => if x8 < x7 then (if 0 ≤ x8 then (if x8 < (x0.length : Int) then (if x1 = (rd x0 x8) then (some x8) else (slices_Index_int_int.l0 k x0 x1 x7 (wrap64 (x8 + 1)))) else (none)) else (none)) else (some (-1))
def slices_Index_int_int.f (k : Nat) (l0 : List Int) (a1 : Int) : Option (Int) := slices_Index_int_int.l0 k l0 a1 (l0.length : Int) 0
set_option maxHeartbeats 8000000 in
set_option maxRecDepth 100000 in
theorem slices_Index_int_int.calls (k : Nat) (A0 : Option Addr) (c0 : Nat) (l0 : List Int) (a1 : Int) (r : Int) (w : World) (hr0 : Kd.C (Kd.int .i64) w A0 l0.length l0) (hc0 : l0.length ≤ c0) (h : slices_Index_int_int.f k l0 a1 = some r) :
  Calls Tryd.prog 82 #[.slice A0 l0.length c0, .int .i64 a1] w fun e w' => e = .returned (.int .i64 r) ∧ Drawn0 w w' := by
 have HR0 := Aside0.mk hr0
 have HC0 := Aside0.mk hc0
 clear hr0 hc0
 have H : (slices_Index_int_int.l0 k l0 a1 (l0.length : Int) 0) = some r := h
 clear h
 have H' := Aside0.mk H
 clear H
 go_enter Tryd.func82, Tryd.ntmps82
 go_wp2
 go_loopg [8] k (fun kq v8 w' => ∃ (x8_1 : Int), v8 = .int .i64 x8_1 ∧ Aside0 (slices_Index_int_int.l0 kq l0 a1 (l0.length : Int) x8_1 = some r) ∧ Aside0 (kq ≤ k) ∧ Drawn0 w w')
 case atStart => exact ⟨(0), (Qrs), H', ⟨Nat.le_refl _⟩, by repeat (first | exact Drawn0.refl _ | apply Drawn0.step)⟩
 case round =>
  clear H'
  try clear p2
  obtain ⟨x8_1, rfl, HA, HK1, ⟨m1, rfl⟩⟩ := hrel
  cases gk with
  | zero => exact absurd HA.out (by simp [slices_Index_int_int.l0])
  | succ k1 =>
   have H := HA.out
   clear HA
   simp only [slices_Index_int_int.l0] at H
   by_cases c3 : x8_1 < (l0.length : Int)
   ·rw [if_pos c3] at H
    have c3b0 : decide (x8_1 < (l0.length : Int)) = true := decide_eq_true c3
    clear c3
    by_cases c4 : 0 ≤ x8_1
    ·rw [if_pos c4] at H
     have c4b0 : decide (0 ≤ x8_1) = true := decide_eq_true c4
     clear c4
     by_cases c5 : x8_1 < (l0.length : Int)
     ·rw [if_pos c5] at H
      have c5b0 : decide (x8_1 < (l0.length : Int)) = true := decide_eq_true c5
      clear c5
      by_cases c6 : a1 = (rd l0 x8_1)
      ·rw [if_pos c6] at H
       have c6b0 : (a1 == (rd l0 x8_1)) = true := beq_iff_eq.mpr c6
       have c6b1 : (a1 != (rd l0 x8_1)) = false := bne_eq_false_iff_eq.mpr c6
       clear c6
       obtain rfl := Option.some.inj H
       have p518 : 0 ≤ (x8_1 : Int) := of_decide_eq_true (Qas)
       have q518 : x8_1 < (l0.length : Int) := of_decide_eq_true (Qas)
       obtain ⟨ad518, e518, hx518_0⟩ := Kd.at_int HR0.out x8_1 p518 q518
       cases e518
       replace p518 := eq_true p518
       replace q518 := eq_true q518
       go_wp2
       go_ret
       exact ⟨by first | rfl | (simp; done) | (simp [*]; done), by repeat (first | exact Drawn0.refl _ | apply Drawn0.step)⟩
      ·rw [if_neg c6] at H
       have c6b0 : (a1 == (rd l0 x8_1)) = false := beq_eq_false_iff_ne.mpr c6
       have c6b1 : (a1 != (rd l0 x8_1)) = true := bne_iff_ne.mpr c6
       have H' := Aside0.mk H
       clear H
       have p518 : 0 ≤ (x8_1 : Int) := of_decide_eq_true (Qas)
       have q518 : x8_1 < (l0.length : Int) := of_decide_eq_true (Qas)
       obtain ⟨ad518, e518, hx518_0⟩ := Kd.at_int HR0.out x8_1 p518 q518
       cases e518
       replace p518 := eq_true p518
       replace q518 := eq_true q518
       go_wp2
       go_roundg k1
       case measure => have := HK1.out; omega
       case rel => exact ⟨(wrap64 (x8_1 + 1)), (Qrs), H', ⟨by have := HK1.out; omega⟩, by repeat (first | exact Drawn0.refl _ | apply Drawn0.step)⟩
     ·rw [if_neg c5] at H
      exact absurd H (by simp)
    ·rw [if_neg c4] at H
     exact absurd H (by simp)
   ·rw [if_neg c3] at H
    have c3b0 : decide (x8_1 < (l0.length : Int)) = false := decide_eq_false c3
    clear c3
    obtain rfl := Option.some.inj H
    go_wp2
    go_ret
    exact ⟨by first | rfl | (simp; done) | (simp [*]; done), by repeat (first | exact Drawn0.refl _ | apply Drawn0.step)⟩
end
noncomputable section
def slices_Contains_int_int.f (k : Nat) (l0 : List Int) (a1 : Int) : Option (Bool) := (slices_Index_int_int.f k l0 a1).bind fun t519 => (some (decide (t519 ≥ 0)))
set_option maxHeartbeats 8000000 in
set_option maxRecDepth 100000 in
theorem slices_Contains_int_int.calls (k : Nat) (A0 : Option Addr) (c0 : Nat) (l0 : List Int) (a1 : Int) (r : Bool) (w : World) (hr0 : Kd.C (Kd.int .i64) w A0 l0.length l0) (hc0 : l0.length ≤ c0) (h : slices_Contains_int_int.f k l0 a1 = some r) :
  Calls Tryd.prog 51 #[.slice A0 l0.length c0, .int .i64 a1] w fun e w' => e = .returned (.bool r) ∧ Drawn0 w w' := by
 have HR0 := Aside0.mk hr0
 have HC0 := Aside0.mk hc0
 clear hr0 hc0
 have H : ((slices_Index_int_int.f k l0 a1).bind fun t519 => (some (decide (t519 ≥ 0)))) = some r := h
 clear h
 replace H := Option.bind_eq_some_iff.mp H
 obtain ⟨t519, A30, H⟩ := H
 replace H : (some (decide (t519 ≥ 0))) = some r := H
 have A3 := Aside0.mk A30
 clear A30
 obtain rfl := Option.some.inj H
 go_enter Tryd.func51, Tryd.ntmps51
 go_wp2_with (first | ((with_reducible refine gate_callee (f := 82) rfl ?_); refine goesL_ (some 7) rfl rfl Tryd.func82 (by kernel_rfl) rfl #[.slice A0 l0.length c0, .int .i64 a1] rfl (Qls) ?_; (with_reducible refine (slices_Index_int_int.calls k _ _ l0 a1 t519 _ ?side1 ?side2 A3.out).mono ?_); (case side1 => exact Qsc HR0.out); (case side2 => exact HC0.out); rintro e w' ⟨rfl, ⟨nd, rfl⟩⟩; refine ⟨_, rfl, ?_⟩))
 go_ret
 exact ⟨by first | rfl | (simp; done) | (simp [*]; done), by repeat (first | exact Drawn0.refl _ | apply Drawn0.step)⟩
end
noncomputable section
def width_Check.f (k : Nat) (l0 : List Int) (l1_0 : List Int) (l1_1 : List Int) : Option (Int × Bool × Int) := (width_read.f k l0).bind fun bt512 => (if bt512.2 = true then ((width_town_tree.f bt512.1 l1_0 l1_1).bind fun t516 => (if t516 = true then ((width_Tree_width.f k l1_0 l1_1).bind fun t517 => (some (t517, true, 0))) else (some (0, false, 0)))) else (some (0, false, 2)))
set_option maxHeartbeats 8000000 in
set_option maxRecDepth 100000 in
theorem width_Check.calls (k : Nat) (A0 : Option Addr) (c0 : Nat) (l0 : List Int) (A1_0 : Option Addr) (c1_0 : Nat) (l1_0 : List Int) (A1_1 : Option Addr) (c1_1 : Nat) (l1_1 : List Int) (r1 : Int) (r2 : Bool) (r3 : Int) (w : World) (hGL : GL w) (hr0 : Kd.C (Kd.int .i64) w A0 l0.length l0) (hc0 : l0.length ≤ c0) (hr1_0 : Kd.C (Kd.int .i64) w A1_0 l1_0.length l1_0) (hc1_0 : l1_0.length ≤ c1_0) (hr1_1 : Kd.C (Kd.int .i64) w A1_1 l1_1.length l1_1) (hc1_1 : l1_1.length ≤ c1_1) (h : width_Check.f k l0 l1_0 l1_1 = some (r1, r2, r3)) :
  Calls Tryd.prog 50 #[.slice A0 l0.length c0, .agg #[.slice A1_0 l1_0.length c1_0, .slice A1_1 l1_1.length c1_1]] w fun e w' => e = .returned (.tuple #[.int .i64 r1, .bool r2, .int .i64 r3]) ∧ Below w.heap.size w w' := by
 have HGL := Aside0.mk hGL
 clear hGL
 have hu53 := Tryd.underlying53
 have HR0 := Aside0.mk hr0
 have HC0 := Aside0.mk hc0
 clear hr0 hc0
 have HR1_0 := Aside0.mk hr1_0
 have HC1_0 := Aside0.mk hc1_0
 clear hr1_0 hc1_0
 have HR1_1 := Aside0.mk hr1_1
 have HC1_1 := Aside0.mk hc1_1
 clear hr1_1 hc1_1
 have HB := Aside0.mk (Below.refl w.heap.size w)
 have H : ((width_read.f k l0).bind fun bt512 => (if bt512.2 = true then ((width_town_tree.f bt512.1 l1_0 l1_1).bind fun t516 => (if t516 = true then ((width_Tree_width.f k l1_0 l1_1).bind fun t517 => (some (t517, true, 0))) else (some (0, false, 0)))) else (some (0, false, 2)))) = some (r1, r2, r3) := h
 clear h
 replace H := Option.bind_eq_some_iff.mp H
 obtain ⟨⟨t512, t515⟩, A30, H⟩ := H
 replace H : (if t515 = true then ((width_town_tree.f t512 l1_0 l1_1).bind fun t516 => (if t516 = true then ((width_Tree_width.f k l1_0 l1_1).bind fun t517 => (some (t517, true, 0))) else (some (0, false, 0)))) else (some (0, false, 2))) = some (r1, r2, r3) := H
 have A3 := Aside0.mk A30
 clear A30
 by_cases c4 : t515 = true
 ·subst c4
  have H1 : ((width_town_tree.f t512 l1_0 l1_1).bind fun t516 => (if t516 = true then ((width_Tree_width.f k l1_0 l1_1).bind fun t517 => (some (t517, true, 0))) else (some (0, false, 0)))) = some (r1, r2, r3) := by rw [if_pos rfl] at H; exact H
  clear H
  have H := H1
  clear H1
  replace H := Option.bind_eq_some_iff.mp H
  obtain ⟨t516, A50, H⟩ := H
  replace H : (if t516 = true then ((width_Tree_width.f k l1_0 l1_1).bind fun t517 => (some (t517, true, 0))) else (some (0, false, 0))) = some (r1, r2, r3) := H
  have A5 := Aside0.mk A50
  clear A50
  by_cases c6 : t516 = true
  ·subst c6
   have H1 : ((width_Tree_width.f k l1_0 l1_1).bind fun t517 => (some (t517, true, 0))) = some (r1, r2, r3) := by rw [if_pos rfl] at H; exact H
   clear H
   have H := H1
   clear H1
   replace H := Option.bind_eq_some_iff.mp H
   obtain ⟨t517, A70, H⟩ := H
   replace H : (some (t517, true, 0)) = some (r1, r2, r3) := H
   have A7 := Aside0.mk A70
   clear A70
   simp only [Option.some.injEq, Prod.mk.injEq] at H
   obtain ⟨rfl, rfl, rfl⟩ := H
   go_enter Tryd.func50, Tryd.ntmps50
   go_wp2_with (first | ((with_reducible refine gate_dst (N := 3) rfl ?_); refine box_event ?hg (N := 3) ?hd (cs := #[.slice A1_0 l1_0.length c1_0, .slice A1_1 l1_1.length c1_1]) (t := 53) ?hr ?_; (case hd => rfl); (case hg => rfl); (case hr => first | (go_simp; done) | (go_simp; rfl)); intro gb511 hg w8 hbox hb; have n0_ := Aside0.mk (below_step (Qaw) hb); have n1_ := Aside0.mk (hbox); have n2_ := Aside0.mk ((by rw [hg]; exact (below_size (Qaw)) : w.heap.size ≤ gb511)); have n3_ := Aside0.mk ((by rw [hg]; exact (below_size (Qaw)) : w.heap.size ≤ gb511)); clear HB; have HB := n0_; have BK511 := n1_; have GW511 := n2_; have GE511 := n3_; clear n0_ n1_ n2_ n3_; clear hb hbox hg) | ((with_reducible refine gate_callee (f := 59) rfl ?_); refine goesL_ (some 11) rfl rfl Tryd.func59 (by kernel_rfl) rfl #[.slice A0 l0.length c0] rfl (Qls) ?_; (with_reducible refine (width_read.calls k (fun k_ => k_ < w.heap.size) _ _ l0 t512 true _ ?side1 A3.out).mono ?_); (case side1 => exact Kd.V_mk HC0.out (Kd.F_below (Kd.C_F (Kd.heap_int .i64) HR0.out) (Qag GE511.out))); rintro e w9 ⟨v513, rfl, ho0, hb⟩; refine ⟨_, rfl, ?_⟩; have n0_ := Aside0.mk (Kd.V_lower (Kd.V_mono (ok' := fun k_ => k_ ≠ gb511) ho0 (fun k_ hk_ => Or.elim hk_ (fun hs_ => fun e_ => Nat.not_le.2 hs_ (by rw [e_]; exact GW511.out)) (fun hn_ => (Kd.freshB (g := gb511) (o := .cells #[.slice A1_0 l1_0.length c1_0, .slice A1_1 l1_1.length c1_1] 53 (0, 0)) (Qbl BK511.out) k_ hn_)))) (below_size (Qag GE511.out))); have n1_ := Aside0.mk (blk_below (g := gb511) (o := .cells #[.slice A1_0 l1_0.length c1_0, .slice A1_1 l1_1.length c1_1] 53 (0, 0)) (Qbl BK511.out) hb); have n2_ := Aside0.mk (below_step (Qag GE511.out) hb); clear BK511; clear HB; have HO514 := n0_; have BK511 := n1_; have HB := n2_; clear n0_ n1_ n2_; (try clear hb); (try clear hb2); (try clear hk); (try clear hi); (try clear ho0); have hcz10_0 : w9.cell? ⟨gb511, 0, none⟩ = some (.slice A1_0 l1_0.length c1_0) := (blk_cell BK511.out 0).trans rfl; have hcz10_1 : w9.cell? ⟨gb511, 1, none⟩ = some (.slice A1_1 l1_1.length c1_1) := (blk_cell BK511.out 1).trans rfl; have hfz10_0 := blk_frozen BK511.out 0; have hfz10_1 := blk_frozen BK511.out 1; obtain ⟨Ao11, co11, eo11⟩ := Kd.V_slice HO514.out; subst eo11) | ((with_reducible refine gate_callee (f := 78) rfl ?_); refine goesL_ (some 18) rfl rfl Tryd.func78 (by kernel_rfl) rfl #[.slice Ao11 t512.length co11, .agg #[.slice A1_0 l1_0.length c1_0, .slice A1_1 l1_1.length c1_1]] rfl (Qls) ?_; (with_reducible refine (width_town_tree.calls (hGL := (Qlg)) _ _ t512 _ _ l1_0 _ _ l1_1 true _ ?side1 ?side2 ?side3 ?side4 ?side5 ?side6 A5.out).mono ?_); (case side1 => exact Qsc (Kd.V_reads' HO514.out).2.2); (case side2 => exact (Kd.V_reads' HO514.out).2.1); (case side3 => exact Qsc (Kd.C_below HR1_0.out HB.out)); (case side4 => exact HC1_0.out); (case side5 => exact Qsc (Kd.C_below HR1_1.out HB.out)); (case side6 => exact HC1_1.out); rintro e w12 ⟨rfl, hb⟩; refine ⟨_, rfl, ?_⟩; have n0_ := Aside0.mk (Kd.V_below (by (with_reducible repeat (first | apply Kd.V_alloc | apply Kd.V_drewN | apply Kd.V_drew)); exact HO514.out) hb); have n1_ := Aside0.mk (blk_below (g := gb511) (o := .cells #[.slice A1_0 l1_0.length c1_0, .slice A1_1 l1_1.length c1_1] 53 (0, 0)) (Qbl BK511.out) hb); have n2_ := Aside0.mk (below_step (Qag GE511.out) hb); clear HO514; clear BK511; clear HB; have HO514 := n0_; have BK511 := n1_; have HB := n2_; clear n0_ n1_ n2_; (try clear hb); (try clear hb2); (try clear hk); (try clear hi); have hcz13_0 : w12.cell? ⟨gb511, 0, none⟩ = some (.slice A1_0 l1_0.length c1_0) := (blk_cell BK511.out 0).trans rfl; have hcz13_1 : w12.cell? ⟨gb511, 1, none⟩ = some (.slice A1_1 l1_1.length c1_1) := (blk_cell BK511.out 1).trans rfl; have hfz13_0 := blk_frozen BK511.out 0; have hfz13_1 := blk_frozen BK511.out 1) | ((with_reducible refine gate_callee (f := 81) rfl ?_); refine goesL_ (some 21) rfl rfl Tryd.func81 (by kernel_rfl) rfl #[.agg #[.slice A1_0 l1_0.length c1_0, .slice A1_1 l1_1.length c1_1]] rfl (Qls) ?_; (with_reducible refine (width_Tree_width.calls k _ _ l1_0 _ _ l1_1 t517 _ ?side1 ?side2 ?side3 ?side4 A7.out).mono ?_); (case side1 => exact Qsc (Kd.C_below HR1_0.out HB.out)); (case side2 => exact HC1_0.out); (case side3 => exact Qsc (Kd.C_below HR1_1.out HB.out)); (case side4 => exact HC1_1.out); rintro e w14 ⟨rfl, hb⟩; refine ⟨_, rfl, ?_⟩; have n0_ := Aside0.mk (Kd.V_below (by (with_reducible repeat (first | apply Kd.V_alloc | apply Kd.V_drewN | apply Kd.V_drew)); exact HO514.out) hb); have n1_ := Aside0.mk (blk_below (g := gb511) (o := .cells #[.slice A1_0 l1_0.length c1_0, .slice A1_1 l1_1.length c1_1] 53 (0, 0)) (Qbl BK511.out) hb); have n2_ := Aside0.mk (below_step (Qag GE511.out) hb); clear HO514; clear BK511; clear HB; have HO514 := n0_; have BK511 := n1_; have HB := n2_; clear n0_ n1_ n2_; (try clear hb); (try clear hb2); (try clear hk); (try clear hi)))
   go_ret3
   exact ⟨by first | rfl | (simp [errW_none, errW_some] <;> rfl) | (simp [*, errW_none, errW_some] <;> rfl), by repeat (first | (with_reducible first | exact HB.out | apply below_alloc | apply pw_below_drewN | apply below_drew1 | refine below_set ?_ GE511.out) | exact HB.out)⟩
  ·replace c6 := Bool.eq_false_iff.mpr c6
   subst c6
   have H1 : (some (0, false, 0)) = some (r1, r2, r3) := by rw [if_neg (show ¬ (false = true) by decide)] at H; exact H
   clear H
   have H := H1
   clear H1
   simp only [Option.some.injEq, Prod.mk.injEq] at H
   obtain ⟨rfl, rfl, rfl⟩ := H
   go_enter Tryd.func50, Tryd.ntmps50
   go_wp2_with (first | ((with_reducible refine gate_dst (N := 3) rfl ?_); refine box_event ?hg (N := 3) ?hd (cs := #[.slice A1_0 l1_0.length c1_0, .slice A1_1 l1_1.length c1_1]) (t := 53) ?hr ?_; (case hd => rfl); (case hg => rfl); (case hr => first | (go_simp; done) | (go_simp; rfl)); intro gb511 hg w15 hbox hb; have n0_ := Aside0.mk (below_step (Qaw) hb); have n1_ := Aside0.mk (hbox); have n2_ := Aside0.mk ((by rw [hg]; exact (below_size (Qaw)) : w.heap.size ≤ gb511)); have n3_ := Aside0.mk ((by rw [hg]; exact (below_size (Qaw)) : w.heap.size ≤ gb511)); clear HB; have HB := n0_; have BK511 := n1_; have GW511 := n2_; have GE511 := n3_; clear n0_ n1_ n2_ n3_; clear hb hbox hg) | ((with_reducible refine gate_callee (f := 59) rfl ?_); refine goesL_ (some 11) rfl rfl Tryd.func59 (by kernel_rfl) rfl #[.slice A0 l0.length c0] rfl (Qls) ?_; (with_reducible refine (width_read.calls k (fun k_ => k_ < w.heap.size) _ _ l0 t512 true _ ?side1 A3.out).mono ?_); (case side1 => exact Kd.V_mk HC0.out (Kd.F_below (Kd.C_F (Kd.heap_int .i64) HR0.out) (Qag GE511.out))); rintro e w16 ⟨v513, rfl, ho0, hb⟩; refine ⟨_, rfl, ?_⟩; have n0_ := Aside0.mk (Kd.V_lower (Kd.V_mono (ok' := fun k_ => k_ ≠ gb511) ho0 (fun k_ hk_ => Or.elim hk_ (fun hs_ => fun e_ => Nat.not_le.2 hs_ (by rw [e_]; exact GW511.out)) (fun hn_ => (Kd.freshB (g := gb511) (o := .cells #[.slice A1_0 l1_0.length c1_0, .slice A1_1 l1_1.length c1_1] 53 (0, 0)) (Qbl BK511.out) k_ hn_)))) (below_size (Qag GE511.out))); have n1_ := Aside0.mk (blk_below (g := gb511) (o := .cells #[.slice A1_0 l1_0.length c1_0, .slice A1_1 l1_1.length c1_1] 53 (0, 0)) (Qbl BK511.out) hb); have n2_ := Aside0.mk (below_step (Qag GE511.out) hb); clear BK511; clear HB; have HO514 := n0_; have BK511 := n1_; have HB := n2_; clear n0_ n1_ n2_; (try clear hb); (try clear hb2); (try clear hk); (try clear hi); (try clear ho0); have hcz17_0 : w16.cell? ⟨gb511, 0, none⟩ = some (.slice A1_0 l1_0.length c1_0) := (blk_cell BK511.out 0).trans rfl; have hcz17_1 : w16.cell? ⟨gb511, 1, none⟩ = some (.slice A1_1 l1_1.length c1_1) := (blk_cell BK511.out 1).trans rfl; have hfz17_0 := blk_frozen BK511.out 0; have hfz17_1 := blk_frozen BK511.out 1; obtain ⟨Ao18, co18, eo18⟩ := Kd.V_slice HO514.out; subst eo18) | ((with_reducible refine gate_callee (f := 78) rfl ?_); refine goesL_ (some 18) rfl rfl Tryd.func78 (by kernel_rfl) rfl #[.slice Ao18 t512.length co18, .agg #[.slice A1_0 l1_0.length c1_0, .slice A1_1 l1_1.length c1_1]] rfl (Qls) ?_; (with_reducible refine (width_town_tree.calls (hGL := (Qlg)) _ _ t512 _ _ l1_0 _ _ l1_1 false _ ?side1 ?side2 ?side3 ?side4 ?side5 ?side6 A5.out).mono ?_); (case side1 => exact Qsc (Kd.V_reads' HO514.out).2.2); (case side2 => exact (Kd.V_reads' HO514.out).2.1); (case side3 => exact Qsc (Kd.C_below HR1_0.out HB.out)); (case side4 => exact HC1_0.out); (case side5 => exact Qsc (Kd.C_below HR1_1.out HB.out)); (case side6 => exact HC1_1.out); rintro e w19 ⟨rfl, hb⟩; refine ⟨_, rfl, ?_⟩; have n0_ := Aside0.mk (Kd.V_below (by (with_reducible repeat (first | apply Kd.V_alloc | apply Kd.V_drewN | apply Kd.V_drew)); exact HO514.out) hb); have n1_ := Aside0.mk (blk_below (g := gb511) (o := .cells #[.slice A1_0 l1_0.length c1_0, .slice A1_1 l1_1.length c1_1] 53 (0, 0)) (Qbl BK511.out) hb); have n2_ := Aside0.mk (below_step (Qag GE511.out) hb); clear HO514; clear BK511; clear HB; have HO514 := n0_; have BK511 := n1_; have HB := n2_; clear n0_ n1_ n2_; (try clear hb); (try clear hb2); (try clear hk); (try clear hi)))
   go_ret3
   exact ⟨by first | rfl | (simp [errW_none, errW_some] <;> rfl) | (simp [*, errW_none, errW_some] <;> rfl), by repeat (first | (with_reducible first | exact HB.out | apply below_alloc | apply pw_below_drewN | apply below_drew1 | refine below_set ?_ GE511.out) | exact HB.out)⟩
 ·replace c4 := Bool.eq_false_iff.mpr c4
  subst c4
  have H1 : (some (0, false, 2)) = some (r1, r2, r3) := by rw [if_neg (show ¬ (false = true) by decide)] at H; exact H
  clear H
  have H := H1
  clear H1
  simp only [Option.some.injEq, Prod.mk.injEq] at H
  obtain ⟨rfl, rfl, rfl⟩ := H
  go_enter Tryd.func50, Tryd.ntmps50
  go_wp2_with (first | ((with_reducible refine gate_dst (N := 3) rfl ?_); refine box_event ?hg (N := 3) ?hd (cs := #[.slice A1_0 l1_0.length c1_0, .slice A1_1 l1_1.length c1_1]) (t := 53) ?hr ?_; (case hd => rfl); (case hg => rfl); (case hr => first | (go_simp; done) | (go_simp; rfl)); intro gb511 hg w20 hbox hb; have n0_ := Aside0.mk (below_step (Qaw) hb); have n1_ := Aside0.mk (hbox); have n2_ := Aside0.mk ((by rw [hg]; exact (below_size (Qaw)) : w.heap.size ≤ gb511)); have n3_ := Aside0.mk ((by rw [hg]; exact (below_size (Qaw)) : w.heap.size ≤ gb511)); clear HB; have HB := n0_; have BK511 := n1_; have GW511 := n2_; have GE511 := n3_; clear n0_ n1_ n2_ n3_; clear hb hbox hg) | ((with_reducible refine gate_callee (f := 59) rfl ?_); refine goesL_ (some 11) rfl rfl Tryd.func59 (by kernel_rfl) rfl #[.slice A0 l0.length c0] rfl (Qls) ?_; (with_reducible refine (width_read.calls k (fun k_ => k_ < w.heap.size) _ _ l0 t512 false _ ?side1 A3.out).mono ?_); (case side1 => exact Kd.V_mk HC0.out (Kd.F_below (Kd.C_F (Kd.heap_int .i64) HR0.out) (Qag GE511.out))); rintro e w21 ⟨v513, rfl, ho0, hb⟩; refine ⟨_, rfl, ?_⟩; have n0_ := Aside0.mk (Kd.V_lower (Kd.V_mono (ok' := fun k_ => k_ ≠ gb511) ho0 (fun k_ hk_ => Or.elim hk_ (fun hs_ => fun e_ => Nat.not_le.2 hs_ (by rw [e_]; exact GW511.out)) (fun hn_ => (Kd.freshB (g := gb511) (o := .cells #[.slice A1_0 l1_0.length c1_0, .slice A1_1 l1_1.length c1_1] 53 (0, 0)) (Qbl BK511.out) k_ hn_)))) (below_size (Qag GE511.out))); have n1_ := Aside0.mk (blk_below (g := gb511) (o := .cells #[.slice A1_0 l1_0.length c1_0, .slice A1_1 l1_1.length c1_1] 53 (0, 0)) (Qbl BK511.out) hb); have n2_ := Aside0.mk (below_step (Qag GE511.out) hb); clear BK511; clear HB; have HO514 := n0_; have BK511 := n1_; have HB := n2_; clear n0_ n1_ n2_; (try clear hb); (try clear hb2); (try clear hk); (try clear hi); (try clear ho0)))
  go_ret3
  exact ⟨by first | rfl | (simp [errW_none, errW_some] <;> rfl) | (simp [*, errW_none, errW_some] <;> rfl), by repeat (first | (with_reducible first | exact HB.out | apply below_alloc | apply pw_below_drewN | apply below_drew1 | refine below_set ?_ GE511.out) | exact HB.out)⟩
end
noncomputable section
mutual
def lampblacklaw02_WidthFew.j0 : Nat → Bool → List Int → List Int → List Int → List Int → Option (Bool)
 | 0, _, _, _, _, _ => none
 | k + 1, x73, x521000, x521001, x538000, x538001 => if x73 = true then (some false) else (lampblacklaw02_WidthFew.l0 k x538000 (x538000.length : Int) 0 x521000 x521001)
def lampblacklaw02_WidthFew.l0 : Nat → List Int → Int → Int → List Int → List Int → Option (Bool)
 | 0, _, _, _, _, _ => none
 | k + 1, x75, x76, x77, x521000, x521001 => if x77 < x76 then (if 0 ≤ x77 then (if x77 < (x75.length : Int) then ((slices_Contains_int_int.f k x521000 (rd x75 x77)).bind fun t558 => (if t558 = true then (lampblacklaw02_WidthFew.l0 k x75 x76 (wrap64 (x77 + 1)) x521000 x521001) else (some false))) else (none)) else (none)) else ((lampblacklaw02_awake.f k).bind fun t559 => (some t559))
end
def lampblacklaw02_WidthFew.f (k : Nat) (l0 : List Int) (l1_0 : List Int) (l1_1 : List Int) : Option (Bool) := (lampblacklaw02_Few.f l0).bind fun t521 => ((lampblacklaw02_Of.f l1_0 l1_1).bind fun bt524 => ((width_Narrow.f t521 bt524.1 bt524.2).bind fun bt530 => (if bt530.2.2 = 0 then ((lampblacklaw02_Few.f l0).bind fun t539 => ((width_Check.f k t539 bt530.1 bt530.2.1).bind fun bt542 => ((lampblacklaw02_Few.f l0).bind fun t545 => ((lampblacklaw02_Of.f l1_0 l1_1).bind fun bt548 => ((width_Check.f k t545 bt548.1 bt548.2).bind fun bt554 => (if bt542.2.2 = 0 then (if bt554.2.2 = 0 then (if bt542.2.1 = true then (if bt554.2.1 = true then (if bt542.1 > bt554.1 then (lampblacklaw02_WidthFew.j0 k true l1_0 l1_1 bt530.1 bt530.2.1) else (lampblacklaw02_WidthFew.j0 k (decide ((bt530.1.length : Int) > (l0.length : Int))) l1_0 l1_1 bt530.1 bt530.2.1)) else (lampblacklaw02_WidthFew.j0 k true l1_0 l1_1 bt530.1 bt530.2.1)) else (lampblacklaw02_WidthFew.j0 k true l1_0 l1_1 bt530.1 bt530.2.1)) else (lampblacklaw02_WidthFew.j0 k true l1_0 l1_1 bt530.1 bt530.2.1)) else (lampblacklaw02_WidthFew.j0 k true l1_0 l1_1 bt530.1 bt530.2.1))))))) else (if bt530.2.2 = 2 then ((lampblacklaw02_awake.f k).bind fun t538 => (some t538)) else (some false)))))
def lampblacklaw02_WidthFew.T1 : Bool × List (List Nat × List Nat) := (true, [([], []), ([0], [0]), ([], []), ([2, 1], [2]), ([1, 3, 3], [1, 3]), ([4], [4]), ([5], [5]), ([5], [5]), ([], []), ([8, 6, 4, 0, 1, 2, 3, 4, 5, 6, 8], [6, 8]), ([7, 9, 0, 1, 2, 3, 4, 5, 6, 7, 8, 9], [7])])
def lampblacklaw02_WidthFew.B1 : List Nat := [0, 1, 0, 7, 15, 31, 63, 63, 0, 383, 1023]
theorem lampblacklaw02_WidthFew.tab1 : rtab .any (opsOf Tryd.f11 1) = lampblacklaw02_WidthFew.T1 := by kernel_rfl
theorem lampblacklaw02_WidthFew.bits1 : waitsOk lampblacklaw02_WidthFew.T1.2 lampblacklaw02_WidthFew.B1 = true := by kernel_rfl
def lampblacklaw02_WidthFew.T4 : Bool × List (List Nat × List Nat) := (true, [([], []), ([0], [0]), ([], []), ([1, 2, 1], [1, 2]), ([3], [3]), ([4], [4]), ([4], [4]), ([4], [4]), ([5, 3, 0, 1, 2, 3, 4, 5], [5]), ([6, 8, 0, 1, 2, 3, 4, 5, 6, 8], [6]), ([7, 9, 0, 1, 2, 3, 4, 5, 6, 7, 8, 9], [7])])
def lampblacklaw02_WidthFew.B4 : List Nat := [0, 1, 0, 7, 15, 31, 31, 31, 63, 383, 1023]
theorem lampblacklaw02_WidthFew.tab4 : rtab .any (opsOf Tryd.f11 4) = lampblacklaw02_WidthFew.T4 := by kernel_rfl
theorem lampblacklaw02_WidthFew.bits4 : waitsOk lampblacklaw02_WidthFew.T4.2 lampblacklaw02_WidthFew.B4 = true := by kernel_rfl
def lampblacklaw02_WidthFew.T5 : Bool × List (List Nat × List Nat) := (true, [([], []), ([0], [0]), ([], []), ([2, 1], [2]), ([1, 3, 3], [1, 3]), ([4], [4]), ([5], [5]), ([5], [5]), ([5], [5]), ([6, 4, 0, 1, 2, 3, 4, 5, 6], [6]), ([7, 9, 0, 1, 2, 3, 4, 5, 6, 7, 9], [7]), ([8, 10, 0, 1, 2, 3, 4, 5, 6, 7, 8, 9, 10], [8])])
def lampblacklaw02_WidthFew.B5 : List Nat := [0, 1, 0, 7, 15, 31, 63, 63, 63, 127, 767, 2047]
theorem lampblacklaw02_WidthFew.tab5 : rtab .any (opsOf Tryd.f11 5) = lampblacklaw02_WidthFew.T5 := by kernel_rfl
theorem lampblacklaw02_WidthFew.bits5 : waitsOk lampblacklaw02_WidthFew.T5.2 lampblacklaw02_WidthFew.B5 = true := by kernel_rfl
set_option maxHeartbeats 8000000 in
set_option maxRecDepth 100000 in
theorem lampblacklaw02_WidthFew.calls (k : Nat) (A0 : Option Addr) (c0 : Nat) (l0 : List Int) (A1_0 : Option Addr) (c1_0 : Nat) (l1_0 : List Int) (A1_1 : Option Addr) (c1_1 : Nat) (l1_1 : List Int) (r : Bool) (w : World) (hGL : GL w) (hr0 : Kd.C (Kd.int .i64) w A0 l0.length l0) (hc0 : l0.length ≤ c0) (hr1_0 : Kd.C (Kd.int .i64) w A1_0 l1_0.length l1_0) (hc1_0 : l1_0.length ≤ c1_0) (hr1_1 : Kd.C (Kd.int .i64) w A1_1 l1_1.length l1_1) (hc1_1 : l1_1.length ≤ c1_1) (h : lampblacklaw02_WidthFew.f k l0 l1_0 l1_1 = some r) (hrt : r = true) :
  Calls Tryd.prog 11 #[.slice A0 l0.length c0, .agg #[.slice A1_0 l1_0.length c1_0, .slice A1_1 l1_1.length c1_1]] w fun e w' => e = .returned (.bool r) ∧ Below w.heap.size w w' := by
 have HRT := Aside0.mk hrt
 clear hrt
 have HGL := Aside0.mk hGL
 clear hGL
 have hu52 := Tryd.underlying52
 have hu53 := Tryd.underlying53
 have HR0 := Aside0.mk hr0
 have HC0 := Aside0.mk hc0
 clear hr0 hc0
 have HR1_0 := Aside0.mk hr1_0
 have HC1_0 := Aside0.mk hc1_0
 clear hr1_0 hc1_0
 have HR1_1 := Aside0.mk hr1_1
 have HC1_1 := Aside0.mk hc1_1
 clear hr1_1 hc1_1
 have HB := Aside0.mk (Below.refl w.heap.size w)
 have H : ((lampblacklaw02_Few.f l0).bind fun t521 => ((lampblacklaw02_Of.f l1_0 l1_1).bind fun bt524 => ((width_Narrow.f t521 bt524.1 bt524.2).bind fun bt530 => (if bt530.2.2 = 0 then ((lampblacklaw02_Few.f l0).bind fun t539 => ((width_Check.f k t539 bt530.1 bt530.2.1).bind fun bt542 => ((lampblacklaw02_Few.f l0).bind fun t545 => ((lampblacklaw02_Of.f l1_0 l1_1).bind fun bt548 => ((width_Check.f k t545 bt548.1 bt548.2).bind fun bt554 => (if bt542.2.2 = 0 then (if bt554.2.2 = 0 then (if bt542.2.1 = true then (if bt554.2.1 = true then (if bt542.1 > bt554.1 then (lampblacklaw02_WidthFew.j0 k true l1_0 l1_1 bt530.1 bt530.2.1) else (lampblacklaw02_WidthFew.j0 k (decide ((bt530.1.length : Int) > (l0.length : Int))) l1_0 l1_1 bt530.1 bt530.2.1)) else (lampblacklaw02_WidthFew.j0 k true l1_0 l1_1 bt530.1 bt530.2.1)) else (lampblacklaw02_WidthFew.j0 k true l1_0 l1_1 bt530.1 bt530.2.1)) else (lampblacklaw02_WidthFew.j0 k true l1_0 l1_1 bt530.1 bt530.2.1)) else (lampblacklaw02_WidthFew.j0 k true l1_0 l1_1 bt530.1 bt530.2.1))))))) else (if bt530.2.2 = 2 then ((lampblacklaw02_awake.f k).bind fun t538 => (some t538)) else (some false)))))) = some r := h
 clear h
 replace H := Option.bind_eq_some_iff.mp H
 obtain ⟨t521, A30, H⟩ := H
 replace H : ((lampblacklaw02_Of.f l1_0 l1_1).bind fun bt524 => ((width_Narrow.f t521 bt524.1 bt524.2).bind fun bt530 => (if bt530.2.2 = 0 then ((lampblacklaw02_Few.f l0).bind fun t539 => ((width_Check.f k t539 bt530.1 bt530.2.1).bind fun bt542 => ((lampblacklaw02_Few.f l0).bind fun t545 => ((lampblacklaw02_Of.f l1_0 l1_1).bind fun bt548 => ((width_Check.f k t545 bt548.1 bt548.2).bind fun bt554 => (if bt542.2.2 = 0 then (if bt554.2.2 = 0 then (if bt542.2.1 = true then (if bt554.2.1 = true then (if bt542.1 > bt554.1 then (lampblacklaw02_WidthFew.j0 k true l1_0 l1_1 bt530.1 bt530.2.1) else (lampblacklaw02_WidthFew.j0 k (decide ((bt530.1.length : Int) > (l0.length : Int))) l1_0 l1_1 bt530.1 bt530.2.1)) else (lampblacklaw02_WidthFew.j0 k true l1_0 l1_1 bt530.1 bt530.2.1)) else (lampblacklaw02_WidthFew.j0 k true l1_0 l1_1 bt530.1 bt530.2.1)) else (lampblacklaw02_WidthFew.j0 k true l1_0 l1_1 bt530.1 bt530.2.1)) else (lampblacklaw02_WidthFew.j0 k true l1_0 l1_1 bt530.1 bt530.2.1))))))) else (if bt530.2.2 = 2 then ((lampblacklaw02_awake.f k).bind fun t538 => (some t538)) else (some false))))) = some r := H
 have A3 := Aside0.mk A30
 clear A30
 replace H := Option.bind_eq_some_iff.mp H
 obtain ⟨⟨t524, t527⟩, A40, H⟩ := H
 replace H : ((width_Narrow.f t521 t524 t527).bind fun bt530 => (if bt530.2.2 = 0 then ((lampblacklaw02_Few.f l0).bind fun t539 => ((width_Check.f k t539 bt530.1 bt530.2.1).bind fun bt542 => ((lampblacklaw02_Few.f l0).bind fun t545 => ((lampblacklaw02_Of.f l1_0 l1_1).bind fun bt548 => ((width_Check.f k t545 bt548.1 bt548.2).bind fun bt554 => (if bt542.2.2 = 0 then (if bt554.2.2 = 0 then (if bt542.2.1 = true then (if bt554.2.1 = true then (if bt542.1 > bt554.1 then (lampblacklaw02_WidthFew.j0 k true l1_0 l1_1 bt530.1 bt530.2.1) else (lampblacklaw02_WidthFew.j0 k (decide ((bt530.1.length : Int) > (l0.length : Int))) l1_0 l1_1 bt530.1 bt530.2.1)) else (lampblacklaw02_WidthFew.j0 k true l1_0 l1_1 bt530.1 bt530.2.1)) else (lampblacklaw02_WidthFew.j0 k true l1_0 l1_1 bt530.1 bt530.2.1)) else (lampblacklaw02_WidthFew.j0 k true l1_0 l1_1 bt530.1 bt530.2.1)) else (lampblacklaw02_WidthFew.j0 k true l1_0 l1_1 bt530.1 bt530.2.1))))))) else (if bt530.2.2 = 2 then ((lampblacklaw02_awake.f k).bind fun t538 => (some t538)) else (some false)))) = some r := H
 have A4 := Aside0.mk A40
 clear A40
 replace H := Option.bind_eq_some_iff.mp H
 obtain ⟨⟨t530, t533, t536⟩, A50, H⟩ := H
 replace H : (if t536 = 0 then ((lampblacklaw02_Few.f l0).bind fun t539 => ((width_Check.f k t539 t530 t533).bind fun bt542 => ((lampblacklaw02_Few.f l0).bind fun t545 => ((lampblacklaw02_Of.f l1_0 l1_1).bind fun bt548 => ((width_Check.f k t545 bt548.1 bt548.2).bind fun bt554 => (if bt542.2.2 = 0 then (if bt554.2.2 = 0 then (if bt542.2.1 = true then (if bt554.2.1 = true then (if bt542.1 > bt554.1 then (lampblacklaw02_WidthFew.j0 k true l1_0 l1_1 t530 t533) else (lampblacklaw02_WidthFew.j0 k (decide ((t530.length : Int) > (l0.length : Int))) l1_0 l1_1 t530 t533)) else (lampblacklaw02_WidthFew.j0 k true l1_0 l1_1 t530 t533)) else (lampblacklaw02_WidthFew.j0 k true l1_0 l1_1 t530 t533)) else (lampblacklaw02_WidthFew.j0 k true l1_0 l1_1 t530 t533)) else (lampblacklaw02_WidthFew.j0 k true l1_0 l1_1 t530 t533))))))) else (if t536 = 2 then ((lampblacklaw02_awake.f k).bind fun t538 => (some t538)) else (some false))) = some r := H
 have A5 := Aside0.mk A50
 clear A50
 by_cases c6 : t536 = 0
 ·rw [if_pos c6] at H
  have c6b0 : (t536 == 0) = true := beq_iff_eq.mpr c6
  have c6b1 : (t536 != 0) = false := bne_eq_false_iff_eq.mpr c6
  clear c6
  replace H := Option.bind_eq_some_iff.mp H
  obtain ⟨t539, A70, H⟩ := H
  replace H : ((width_Check.f k t539 t530 t533).bind fun bt542 => ((lampblacklaw02_Few.f l0).bind fun t545 => ((lampblacklaw02_Of.f l1_0 l1_1).bind fun bt548 => ((width_Check.f k t545 bt548.1 bt548.2).bind fun bt554 => (if bt542.2.2 = 0 then (if bt554.2.2 = 0 then (if bt542.2.1 = true then (if bt554.2.1 = true then (if bt542.1 > bt554.1 then (lampblacklaw02_WidthFew.j0 k true l1_0 l1_1 t530 t533) else (lampblacklaw02_WidthFew.j0 k (decide ((t530.length : Int) > (l0.length : Int))) l1_0 l1_1 t530 t533)) else (lampblacklaw02_WidthFew.j0 k true l1_0 l1_1 t530 t533)) else (lampblacklaw02_WidthFew.j0 k true l1_0 l1_1 t530 t533)) else (lampblacklaw02_WidthFew.j0 k true l1_0 l1_1 t530 t533)) else (lampblacklaw02_WidthFew.j0 k true l1_0 l1_1 t530 t533)))))) = some r := H
  have A7 := Aside0.mk A70
  clear A70
  replace H := Option.bind_eq_some_iff.mp H
  obtain ⟨⟨t542, t543, t544⟩, A80, H⟩ := H
  replace H : ((lampblacklaw02_Few.f l0).bind fun t545 => ((lampblacklaw02_Of.f l1_0 l1_1).bind fun bt548 => ((width_Check.f k t545 bt548.1 bt548.2).bind fun bt554 => (if t544 = 0 then (if bt554.2.2 = 0 then (if t543 = true then (if bt554.2.1 = true then (if t542 > bt554.1 then (lampblacklaw02_WidthFew.j0 k true l1_0 l1_1 t530 t533) else (lampblacklaw02_WidthFew.j0 k (decide ((t530.length : Int) > (l0.length : Int))) l1_0 l1_1 t530 t533)) else (lampblacklaw02_WidthFew.j0 k true l1_0 l1_1 t530 t533)) else (lampblacklaw02_WidthFew.j0 k true l1_0 l1_1 t530 t533)) else (lampblacklaw02_WidthFew.j0 k true l1_0 l1_1 t530 t533)) else (lampblacklaw02_WidthFew.j0 k true l1_0 l1_1 t530 t533))))) = some r := H
  have A8 := Aside0.mk A80
  clear A80
  replace H := Option.bind_eq_some_iff.mp H
  obtain ⟨t545, A90, H⟩ := H
  replace H : ((lampblacklaw02_Of.f l1_0 l1_1).bind fun bt548 => ((width_Check.f k t545 bt548.1 bt548.2).bind fun bt554 => (if t544 = 0 then (if bt554.2.2 = 0 then (if t543 = true then (if bt554.2.1 = true then (if t542 > bt554.1 then (lampblacklaw02_WidthFew.j0 k true l1_0 l1_1 t530 t533) else (lampblacklaw02_WidthFew.j0 k (decide ((t530.length : Int) > (l0.length : Int))) l1_0 l1_1 t530 t533)) else (lampblacklaw02_WidthFew.j0 k true l1_0 l1_1 t530 t533)) else (lampblacklaw02_WidthFew.j0 k true l1_0 l1_1 t530 t533)) else (lampblacklaw02_WidthFew.j0 k true l1_0 l1_1 t530 t533)) else (lampblacklaw02_WidthFew.j0 k true l1_0 l1_1 t530 t533)))) = some r := H
  have A9 := Aside0.mk A90
  clear A90
  replace H := Option.bind_eq_some_iff.mp H
  obtain ⟨⟨t548, t551⟩, A100, H⟩ := H
  replace H : ((width_Check.f k t545 t548 t551).bind fun bt554 => (if t544 = 0 then (if bt554.2.2 = 0 then (if t543 = true then (if bt554.2.1 = true then (if t542 > bt554.1 then (lampblacklaw02_WidthFew.j0 k true l1_0 l1_1 t530 t533) else (lampblacklaw02_WidthFew.j0 k (decide ((t530.length : Int) > (l0.length : Int))) l1_0 l1_1 t530 t533)) else (lampblacklaw02_WidthFew.j0 k true l1_0 l1_1 t530 t533)) else (lampblacklaw02_WidthFew.j0 k true l1_0 l1_1 t530 t533)) else (lampblacklaw02_WidthFew.j0 k true l1_0 l1_1 t530 t533)) else (lampblacklaw02_WidthFew.j0 k true l1_0 l1_1 t530 t533))) = some r := H
  have A10 := Aside0.mk A100
  clear A100
  replace H := Option.bind_eq_some_iff.mp H
  obtain ⟨⟨t554, t555, t556⟩, A110, H⟩ := H
  replace H : (if t544 = 0 then (if t556 = 0 then (if t543 = true then (if t555 = true then (if t542 > t554 then (lampblacklaw02_WidthFew.j0 k true l1_0 l1_1 t530 t533) else (lampblacklaw02_WidthFew.j0 k (decide ((t530.length : Int) > (l0.length : Int))) l1_0 l1_1 t530 t533)) else (lampblacklaw02_WidthFew.j0 k true l1_0 l1_1 t530 t533)) else (lampblacklaw02_WidthFew.j0 k true l1_0 l1_1 t530 t533)) else (lampblacklaw02_WidthFew.j0 k true l1_0 l1_1 t530 t533)) else (lampblacklaw02_WidthFew.j0 k true l1_0 l1_1 t530 t533)) = some r := H
  have A11 := Aside0.mk A110
  clear A110
  have HC12 := Aside0.mk H
  clear H
  go_enter Tryd.func11, Tryd.ntmps11
  try go_wp2_with (first | ((with_reducible refine gate_dst (N := 3) rfl ?_); (try (refine gate_guard (by rfl) ?_; dsimp only)); refine box_event ?hg (N := 3) ?hd (cs := #[.slice A1_0 l1_0.length c1_0, .slice A1_1 l1_1.length c1_1]) (t := 52) ?hr ?_; (case hd => rfl); (case hg => rfl); (case hr => first | (go_simp; done) | (go_simp; rfl)); intro gb520 hg w13 hbox hb; have n0_ := Aside0.mk (below_step (Qaw) hb); have n1_ := Aside0.mk (hbox); have n2_ := Aside0.mk ((by rw [hg]; exact (below_size (Qaw)) : w.heap.size ≤ gb520)); have n3_ := Aside0.mk ((by rw [hg]; exact (below_size (Qaw)) : w.heap.size ≤ gb520)); clear HB; have HB := n0_; have BK520 := n1_; have GW520 := n2_; have GE520 := n3_; clear n0_ n1_ n2_ n3_; clear hb hbox hg))
  have n0_ := Aside0.mk (blk_drew BK520.out)
  have n1_ := Aside0.mk (below_drew1 HB.out)
  clear BK520
  clear HB
  have BK520 := n0_
  have HB := n1_
  clear n0_ n1_
  refine start_ (n := 11) (S := fun w' => w'.cell? ⟨gb520, 0, none⟩ = some (.slice A1_0 l1_0.length c1_0) ∧ w'.cell? ⟨gb520, 1, none⟩ = some (.slice A1_1 l1_1.length c1_1)) (ds := []) (Qbz 11 0) (by kernel_rfl) rfl rfl ⟨(blk_cell BK520.out 0).trans rfl, (blk_cell BK520.out 1).trans rfl⟩ (fun hHeld => ?_); refine with_tabW lampblacklaw02_WidthFew.tab1 lampblacklaw02_WidthFew.bits1 (fun HT_ HW_ => ?_)
  generalize w13.drew = w14 at BK520 HB hHeld ⊢
  refine pure_ (i := 0) (N := some 16) (v := ?_) (a' := ?_) (Qbz 11 1) rfl rfl (Qao) (fun _ _ _ h => h) (Or.inl ⟨by rfl, ?_⟩) ?_ ?_
  rotate_left
  ·intro w'
   go_simp
   with_reducible rfl
  rotate_left
  ·simp only [Act.put, Qp1, Qp2, Qp3, i64_w, i32_w]
   rfl
  refine take_ (i := 2) (N := some 18) (v := ?_) (a' := ?_) (Qbz 11 5) rfl rfl (take_ofW HT_.out HW_.out (by kernel_rfl)) (fun _ _ _ h => h) (Or.inl ⟨by rfl, ?_⟩) hHeld ?_ ?_
  rotate_left
  ·rintro w' ⟨s0, s1⟩
   go_simp
   with_reducible rfl
  rotate_left
  ·simp only [Act.put, Qp1, Qp2, Qp3, i64_w, i32_w]
   rfl
  refine join_ (σ := Value × Value × Value × Value × Value × Nat) 2 (Qbz 11 511) (fun s_ => [(17, s_.1), (19, .agg #[s_.2.1, s_.2.2.1]), (20, .tuple #[.agg #[s_.2.2.2.1, s_.2.2.2.2.1], .int .i64 t536]), (5, .pointer (some ⟨s_.2.2.2.2.2, 0, none⟩)), (15, .tuple #[.agg #[s_.2.2.2.1, s_.2.2.2.2.1], .int .i64 t536]), (21, .agg #[s_.2.2.2.1, s_.2.2.2.2.1]), (22, .int .i64 t536)]) (fun s_ w' => (w'.cell? ⟨gb520, 0, none⟩ = some (.slice A1_0 l1_0.length c1_0) ∧ w'.cell? ⟨gb520, 1, none⟩ = some (.slice A1_1 l1_1.length c1_1)) ∧ (Kd.R (Kd.int .i64) 3 w' w.heap.size (fun k_ => some k_ ≠ (s_.2.1 : Value).ownBlock ∧ some k_ ≠ (s_.2.2.1 : Value).ownBlock ∧ some k_ ≠ (s_.2.2.2.1 : Value).ownBlock ∧ some k_ ≠ (s_.2.2.2.2.1 : Value).ownBlock) s_.1 t521) ∧ (Kd.R (Kd.int .i64) 3 w' w.heap.size (fun k_ => some k_ ≠ (s_.1 : Value).ownBlock ∧ some k_ ≠ (s_.2.2.1 : Value).ownBlock ∧ some k_ ≠ (s_.2.2.2.1 : Value).ownBlock ∧ some k_ ≠ (s_.2.2.2.2.1 : Value).ownBlock) s_.2.1 t524) ∧ (Kd.R (Kd.int .i64) 3 w' w.heap.size (fun k_ => some k_ ≠ (s_.1 : Value).ownBlock ∧ some k_ ≠ (s_.2.1 : Value).ownBlock ∧ some k_ ≠ (s_.2.2.2.1 : Value).ownBlock ∧ some k_ ≠ (s_.2.2.2.2.1 : Value).ownBlock) s_.2.2.1 t527) ∧ (Kd.R (Kd.int .i64) 3 w' w.heap.size (fun k_ => some k_ ≠ (s_.1 : Value).ownBlock ∧ some k_ ≠ (s_.2.1 : Value).ownBlock ∧ some k_ ≠ (s_.2.2.1 : Value).ownBlock ∧ some k_ ≠ (s_.2.2.2.2.1 : Value).ownBlock) s_.2.2.2.1 t530) ∧ (Kd.R (Kd.int .i64) 3 w' w.heap.size (fun k_ => some k_ ≠ (s_.1 : Value).ownBlock ∧ some k_ ≠ (s_.2.1 : Value).ownBlock ∧ some k_ ≠ (s_.2.2.1 : Value).ownBlock ∧ some k_ ≠ (s_.2.2.2.1 : Value).ownBlock) s_.2.2.2.2.1 t533) ∧ (w'.heap[gb520]? = some (.cells #[.slice A1_0 l1_0.length c1_0, .slice A1_1 l1_1.length c1_1] 52 (0, 0))) ∧ (w'.heap[s_.2.2.2.2.2]? = some (.cells #[.slice none 0 0, .slice none 0 0] 53 (0, 0))) ∧ (w.heap.size ≤ s_.2.2.2.2.2) ∧ (w.heap.size ≤ s_.2.2.2.2.2) ∧ (gb520 ≠ s_.2.2.2.2.2) ∧ (s_.2.2.2.2.2 ≠ gb520) ∧ (Below w.heap.size w w')) ?_ ?_
  rotate_left
  ·intro hCont
   refine two_ (i := 1) (j := 8) (Ni := some 17) (Nj := some 5) (Qbz 11 7) (Qbz 11 261) rfl rfl rfl rfl (two_of HT_.out (by kernel_rfl)) (by decide) (by decide) (fun K hK => ?_) (fun K hK => ?_)
   ·skip
    refine goes_ Tryd.func19 (by kernel_rfl) rfl #[.slice A0 l0.length c0] (by rfl) rfl rfl (Qls) ?_
    with_reducible refine (lampblacklaw02_Few.calls _ _ l0 t521 _ ?side1 ?side2 A3.out).mono ?_
    (case side1 => exact Qsc (Kd.C_below HR0.out HB.out))
    (case side2 => exact HC0.out)
    rintro e w15 ⟨v522, rfl, ho0, hb⟩
    refine ⟨_, rfl, ?_⟩
    have n0_ := Aside0.mk (Kd.R_lower ho0 (below_size (Qag GE520.out)))
    have n1_ := Aside0.mk (blk_below (g := gb520) (o := .cells #[.slice A1_0 l1_0.length c1_0, .slice A1_1 l1_1.length c1_1] 52 (0, 0)) (Qbl BK520.out) hb)
    have n2_ := Aside0.mk (below_step (Qag GE520.out) hb)
    clear BK520
    clear HB
    have HO523 := n0_
    have BK520 := n1_
    have HB := n2_
    clear n0_ n1_ n2_
    (try clear hb)
    (try clear hb2)
    (try clear hk)
    (try clear hi)
    (try clear ho0)
    refine hK.out _ _ ⟨(blk_cell BK520.out 0).trans rfl, (blk_cell BK520.out 1).trans rfl⟩ (fun hHeld => ?_)
    clear hK K
    refine norm_ (a' := ?_) ?_ ?_
    rotate_left
    ·show Act.put _ (some 17) _ = _
     simp only [Act.put, Qp1, Qp2, Qp3, i64_w, i32_w]
     rfl
    refine two_ (i := 3) (j := 8) (Ni := some 19) (Nj := some 5) (Qbz 11 15) (Qbz 11 263) rfl rfl rfl rfl (two_of HT_.out (by kernel_rfl)) (by decide) (by decide) (fun K hK => ?_) (fun K hK => ?_)
    ·skip
     refine goes_ Tryd.func44 (by kernel_rfl) rfl #[.agg #[.slice A1_0 l1_0.length c1_0, .slice A1_1 l1_1.length c1_1]] (by rfl) rfl rfl (Qls) ?_
     with_reducible refine (lampblacklaw02_Of.calls _ _ l1_0 _ _ l1_1 t524 t527 _ ?side1 ?side2 ?side3 ?side4 A4.out).mono ?_
     (case side1 => exact Qsc (Kd.C_below HR1_0.out HB.out))
     (case side2 => exact HC1_0.out)
     (case side3 => exact Qsc (Kd.C_below HR1_1.out HB.out))
     (case side4 => exact HC1_1.out)
     rintro e w16 ⟨v525, v528, rfl, ho0, ho1, hb⟩
     refine ⟨_, rfl, ?_⟩
     have n0_ := Aside0.mk (Kd.R_mono (Kd.R_told (Kd.R_told (Kd.R_old (Qro HO523.out) hb) (Kd.R_base ho0)) (Kd.R_base ho1)) (fun _ h_ => h_.1))
     have n1_ := Aside0.mk (Kd.R_lower (Kd.R_new' ho0 (Kd.R_lt (Qro HO523.out))) (below_size (Qag GE520.out)))
     have n2_ := Aside0.mk (Kd.R_lower (Kd.R_new' ho1 (Kd.R_lt (Qro HO523.out))) (below_size (Qag GE520.out)))
     have n3_ := Aside0.mk (blk_below (g := gb520) (o := .cells #[.slice A1_0 l1_0.length c1_0, .slice A1_1 l1_1.length c1_1] 52 (0, 0)) (Qbl BK520.out) hb)
     have n4_ := Aside0.mk (below_step (Qag GE520.out) hb)
     clear HO523
     clear BK520
     clear HB
     have HO523 := n0_
     have HO526 := n1_
     have HO529 := n2_
     have BK520 := n3_
     have HB := n4_
     clear n0_ n1_ n2_ n3_ n4_
     (try clear hb)
     (try clear hb2)
     (try clear hk)
     (try clear hi)
     (try clear ho0)
     (try clear ho1)
     obtain ⟨Ao17, co17, eo17⟩ := Kd.R_slice HO523.out
     (first | subst eo17 | (injection eo17 with f1_ f2_ f3_; have f4_ := f1_.symm; have f5_ := f3_.symm; clear f1_ f2_ f3_; subst f4_; subst f5_))
     obtain ⟨Ao18, co18, eo18⟩ := Kd.R_slice HO526.out
     (first | subst eo18 | (injection eo18 with f1_ f2_ f3_; have f4_ := f1_.symm; have f5_ := f3_.symm; clear f1_ f2_ f3_; subst f4_; subst f5_))
     obtain ⟨Ao19, co19, eo19⟩ := Kd.R_slice HO529.out
     (first | subst eo19 | (injection eo19 with f1_ f2_ f3_; have f4_ := f1_.symm; have f5_ := f3_.symm; clear f1_ f2_ f3_; subst f4_; subst f5_))
     refine hK.out _ _ ⟨(blk_cell BK520.out 0).trans rfl, (blk_cell BK520.out 1).trans rfl⟩ (fun hHeld => ?_)
     clear hK K
     refine norm_ (a' := ?_) ?_ ?_
     rotate_left
     ·show Act.put _ (some 19) _ = _
      simp only [Act.put, Qp1, Qp2, Qp3, i64_w, i32_w]
      rfl
     refine two_ (i := 4) (j := 8) (Ni := some 20) (Nj := some 5) (Qbz 11 31) (Qbz 11 271) rfl rfl rfl rfl (two_of HT_.out (by kernel_rfl)) (by decide) (by decide) (fun K hK => ?_) (fun K hK => ?_)
     ·skip
      refine goes_ Tryd.func43 (by kernel_rfl) rfl #[.slice Ao17 t521.length co17, .agg #[.slice Ao18 t524.length co18, .slice Ao19 t527.length co19]] (by rfl) rfl rfl (Qls) ?_
      with_reducible refine (width_Narrow.calls (hGL := (Qlg)) _ _ t521 _ _ t524 _ _ t527 t530 t533 t536 _ ?side1 ?side2 ?side3 ?side4 ?side5 ?side6 A5.out).mono ?_
      (case side1 => exact Qsc (Kd.R_reads' HO523.out).2.2)
      (case side2 => exact (Kd.R_reads' HO523.out).2.1)
      (case side3 => exact Qsc (Kd.R_reads' HO526.out).2.2)
      (case side4 => exact (Kd.R_reads' HO526.out).2.1)
      (case side5 => exact Qsc (Kd.R_reads' HO529.out).2.2)
      (case side6 => exact (Kd.R_reads' HO529.out).2.1)
      rintro e w20 ⟨v531, v534, rfl, ho0, ho1, hb⟩
      refine ⟨_, rfl, ?_⟩
      have n0_ := Aside0.mk (Kd.R_mono (Kd.R_told (Kd.R_told (Kd.R_old (Qro HO523.out) hb) (Kd.R_base ho0)) (Kd.R_base ho1)) (fun _ h_ => h_.1))
      have n1_ := Aside0.mk (Kd.R_mono (Kd.R_told (Kd.R_told (Kd.R_old (Qro HO526.out) hb) (Kd.R_base ho0)) (Kd.R_base ho1)) (fun _ h_ => h_.1))
      have n2_ := Aside0.mk (Kd.R_mono (Kd.R_told (Kd.R_told (Kd.R_old (Qro HO529.out) hb) (Kd.R_base ho0)) (Kd.R_base ho1)) (fun _ h_ => h_.1))
      have n3_ := Aside0.mk (Kd.R_lower (Kd.R_new' (Kd.R_new' (Kd.R_new' ho0 (Kd.R_lt (Qro HO523.out))) (Kd.R_lt (Qro HO526.out))) (Kd.R_lt (Qro HO529.out))) (below_size (Qag GE520.out)))
      have n4_ := Aside0.mk (Kd.R_lower (Kd.R_new' (Kd.R_new' (Kd.R_new' ho1 (Kd.R_lt (Qro HO523.out))) (Kd.R_lt (Qro HO526.out))) (Kd.R_lt (Qro HO529.out))) (below_size (Qag GE520.out)))
      have n5_ := Aside0.mk (blk_below (g := gb520) (o := .cells #[.slice A1_0 l1_0.length c1_0, .slice A1_1 l1_1.length c1_1] 52 (0, 0)) (Qbl BK520.out) hb)
      have n6_ := Aside0.mk (below_step (Qag GE520.out) hb)
      clear HO523
      clear HO526
      clear HO529
      clear BK520
      clear HB
      have HO523 := n0_
      have HO526 := n1_
      have HO529 := n2_
      have HO532 := n3_
      have HO535 := n4_
      have BK520 := n5_
      have HB := n6_
      clear n0_ n1_ n2_ n3_ n4_ n5_ n6_
      (try clear hb)
      (try clear hb2)
      (try clear hk)
      (try clear hi)
      (try clear ho0)
      (try clear ho1)
      refine hK.out _ _ ⟨(blk_cell BK520.out 0).trans rfl, (blk_cell BK520.out 1).trans rfl⟩ (fun hHeld => ?_)
      clear hK K
      refine norm_ (a' := ?_) ?_ ?_
      rotate_left
      ·show Act.put _ (some 20) _ = _
       simp only [Act.put, Qp1, Qp2, Qp3, i64_w, i32_w]
       rfl
      refine pure_ (i := 5) (N := some 15) (v := ?_) (a' := ?_) (Qbz 11 63) rfl rfl (Qao) (fun _ _ _ h => h) (Or.inl ⟨by rfl, ?_⟩) ?_ ?_
      rotate_left
      ·intro w'
       go_simp
       with_reducible rfl
      rotate_left
      ·simp only [Act.put, Qp1, Qp2, Qp3, i64_w, i32_w]
       rfl
      refine pure_ (i := 6) (N := some 21) (v := ?_) (a' := ?_) (Qbz 11 127) rfl rfl (Qao) (fun _ _ _ h => h) (Or.inl ⟨by rfl, ?_⟩) ?_ ?_
      rotate_left
      ·intro w'
       go_simp
       with_reducible rfl
      rotate_left
      ·simp only [Act.put, Qp1, Qp2, Qp3, i64_w, i32_w]
       rfl
      refine pure_ (i := 7) (N := some 22) (v := ?_) (a' := ?_) (Qbz 11 255) rfl rfl (Qao) (fun _ _ _ h => h) (Or.inl ⟨by rfl, ?_⟩) ?_ ?_
      rotate_left
      ·intro w'
       go_simp
       with_reducible rfl
      rotate_left
      ·simp only [Act.put, Qp1, Qp2, Qp3, i64_w, i32_w]
       rfl
      refine one_ (i := 8) (N := some 5) (Qbz 11 511) rfl rfl (one_of HT_.out (by kernel_rfl)) (by decide) (fun K hK => ?_)
      refine box_step ?hg (N := 5) ?hd (cs := #[.slice none 0 0, .slice none 0 0]) (t := 53) ?hr ?_; (case hd => rfl); (case hg => rfl); (case hr => first | (go_simp; done) | (go_simp; rfl))
      intro gb537 hg w21 hbox hb
      have n0_ := Aside0.mk (Kd.R_below (Qro HO523.out) hb)
      have n1_ := Aside0.mk (Kd.R_below (Qro HO526.out) hb)
      have n2_ := Aside0.mk (Kd.R_below (Qro HO529.out) hb)
      have n3_ := Aside0.mk (Kd.R_below (Qro HO532.out) hb)
      have n4_ := Aside0.mk (Kd.R_below (Qro HO535.out) hb)
      have n5_ := Aside0.mk (blk_below (g := gb520) (o := .cells #[.slice A1_0 l1_0.length c1_0, .slice A1_1 l1_1.length c1_1] 52 (0, 0)) (Qbl BK520.out) hb)
      have n6_ := Aside0.mk (below_step (Qag GE520.out) hb)
      have n7_ := Aside0.mk (hbox)
      have n8_ := Aside0.mk ((by rw [hg]; exact (below_size (Qag GE520.out)) : w.heap.size ≤ gb537))
      have n9_ := Aside0.mk ((by rw [hg]; exact (below_size (Qag GE520.out)) : w.heap.size ≤ gb537))
      have n10_ := Aside0.mk ((by rw [hg]; exact Nat.ne_of_lt (blk_lt (g := gb520) (o := .cells #[.slice A1_0 l1_0.length c1_0, .slice A1_1 l1_1.length c1_1] 52 (0, 0)) (Qbl BK520.out)) : gb520 ≠ gb537))
      have n11_ := Aside0.mk ((by rw [hg]; exact Nat.ne_of_gt (blk_lt (g := gb520) (o := .cells #[.slice A1_0 l1_0.length c1_0, .slice A1_1 l1_1.length c1_1] 52 (0, 0)) (Qbl BK520.out)) : gb537 ≠ gb520))
      clear HO523
      clear HO526
      clear HO529
      clear HO532
      clear HO535
      clear BK520
      clear HB
      have HO523 := n0_
      have HO526 := n1_
      have HO529 := n2_
      have HO532 := n3_
      have HO535 := n4_
      have BK520 := n5_
      have HB := n6_
      have BK537 := n7_
      have GW537 := n8_
      have GE537 := n9_
      have NB520_537 := n10_
      have NB537_520 := n11_
      clear n0_ n1_ n2_ n3_ n4_ n5_ n6_ n7_ n8_ n9_ n10_ n11_
      clear hb hbox hg
      refine hK.out _ _ ⟨(blk_cell BK520.out 0).trans rfl, (blk_cell BK520.out 1).trans rfl⟩ (fun hHeld => ?_)
      clear hK K
      refine norm_ (a' := ?_) ?_ ?_
      rotate_left
      ·show Act.put _ (some 5) _ = _
       simp only [Act.put, Qp1, Qp2, Qp3, i64_w, i32_w]
       rfl
      exact norm_ (by simp only [putAll, Act.put, List.setIfInBounds_toArray, List.set_cons_zero, List.set_cons_succ]) (hCont (.slice Ao17 t521.length co17, .slice Ao18 t524.length co18, .slice Ao19 t527.length co19, v531, v534, gb537) _ ⟨hHeld, (by (with_reducible repeat (first | apply Kd.R_alloc | apply Kd.R_drewN | apply Kd.R_drew)); exact Kd.R_mono HO523.out (fun _ hk => ⟨hk.1.1.1.2, ⟨hk.1.1.2, ⟨hk.1.2, hk.2⟩⟩⟩)), (by (with_reducible repeat (first | apply Kd.R_alloc | apply Kd.R_drewN | apply Kd.R_drew)); exact Kd.R_mono HO526.out (fun _ hk => ⟨hk.1.1.2, ⟨hk.1.1.1, ⟨hk.1.2, hk.2⟩⟩⟩)), (by (with_reducible repeat (first | apply Kd.R_alloc | apply Kd.R_drewN | apply Kd.R_drew)); exact Kd.R_mono HO529.out (fun _ hk => ⟨hk.1.1.2, ⟨hk.1.1.1, ⟨hk.1.2, hk.2⟩⟩⟩)), (by (with_reducible repeat (first | apply Kd.R_alloc | apply Kd.R_drewN | apply Kd.R_drew)); exact Kd.R_mono HO532.out (fun _ hk => ⟨hk.1.1.2, ⟨hk.1.2, ⟨hk.2, hk.1.1.1⟩⟩⟩)), (by (with_reducible repeat (first | apply Kd.R_alloc | apply Kd.R_drewN | apply Kd.R_drew)); exact Kd.R_mono HO535.out (fun _ hk => ⟨hk.1.1.2, ⟨hk.1.2, ⟨hk.2, hk.1.1.1⟩⟩⟩)), (Qbl BK520.out), (Qbl BK537.out), GW537.out, GE537.out, NB520_537.out, NB537_520.out, (Qah GE520.out GE537.out)⟩)
     ·skip
      refine box_step ?hg (N := 5) ?hd (cs := #[.slice none 0 0, .slice none 0 0]) (t := 53) ?hr ?_; (case hd => rfl); (case hg => rfl); (case hr => first | (go_simp; done) | (go_simp; rfl))
      intro gb537 hg w17 hbox hb
      have n0_ := Aside0.mk (Kd.R_below (Qro HO523.out) hb)
      have n1_ := Aside0.mk (Kd.R_below (Qro HO526.out) hb)
      have n2_ := Aside0.mk (Kd.R_below (Qro HO529.out) hb)
      have n3_ := Aside0.mk (blk_below (g := gb520) (o := .cells #[.slice A1_0 l1_0.length c1_0, .slice A1_1 l1_1.length c1_1] 52 (0, 0)) (Qbl BK520.out) hb)
      have n4_ := Aside0.mk (below_step (Qag GE520.out) hb)
      have n5_ := Aside0.mk (hbox)
      have n6_ := Aside0.mk ((by rw [hg]; exact (below_size (Qag GE520.out)) : w.heap.size ≤ gb537))
      have n7_ := Aside0.mk ((by rw [hg]; exact (below_size (Qag GE520.out)) : w.heap.size ≤ gb537))
      have n8_ := Aside0.mk ((by rw [hg]; exact Nat.ne_of_lt (blk_lt (g := gb520) (o := .cells #[.slice A1_0 l1_0.length c1_0, .slice A1_1 l1_1.length c1_1] 52 (0, 0)) (Qbl BK520.out)) : gb520 ≠ gb537))
      have n9_ := Aside0.mk ((by rw [hg]; exact Nat.ne_of_gt (blk_lt (g := gb520) (o := .cells #[.slice A1_0 l1_0.length c1_0, .slice A1_1 l1_1.length c1_1] 52 (0, 0)) (Qbl BK520.out)) : gb537 ≠ gb520))
      clear HO523
      clear HO526
      clear HO529
      clear BK520
      clear HB
      have HO523 := n0_
      have HO526 := n1_
      have HO529 := n2_
      have BK520 := n3_
      have HB := n4_
      have BK537 := n5_
      have GW537 := n6_
      have GE537 := n7_
      have NB520_537 := n8_
      have NB537_520 := n9_
      clear n0_ n1_ n2_ n3_ n4_ n5_ n6_ n7_ n8_ n9_
      clear hb hbox hg
      obtain ⟨Ao18, co18, eo18⟩ := Kd.R_slice HO523.out
      (first | subst eo18 | (injection eo18 with f1_ f2_ f3_; have f4_ := f1_.symm; have f5_ := f3_.symm; clear f1_ f2_ f3_; subst f4_; subst f5_))
      obtain ⟨Ao19, co19, eo19⟩ := Kd.R_slice HO526.out
      (first | subst eo19 | (injection eo19 with f1_ f2_ f3_; have f4_ := f1_.symm; have f5_ := f3_.symm; clear f1_ f2_ f3_; subst f4_; subst f5_))
      obtain ⟨Ao20, co20, eo20⟩ := Kd.R_slice HO529.out
      (first | subst eo20 | (injection eo20 with f1_ f2_ f3_; have f4_ := f1_.symm; have f5_ := f3_.symm; clear f1_ f2_ f3_; subst f4_; subst f5_))
      refine hK.out _ _ ⟨(blk_cell BK520.out 0).trans rfl, (blk_cell BK520.out 1).trans rfl⟩ (fun hHeld => ?_)
      clear hK K
      refine norm_ (a' := ?_) ?_ ?_
      rotate_left
      ·show Act.put _ (some 5) _ = _
       simp only [Act.put, Qp1, Qp2, Qp3, i64_w, i32_w]
       rfl
      refine one_ (i := 4) (N := some 20) (Qbz 11 287) rfl rfl (one_of HT_.out (by kernel_rfl)) (by decide) (fun K hK => ?_)
      refine goes_ Tryd.func43 (by kernel_rfl) rfl #[.slice Ao18 t521.length co18, .agg #[.slice Ao19 t524.length co19, .slice Ao20 t527.length co20]] (by rfl) rfl rfl (Qls) ?_
      with_reducible refine (width_Narrow.calls (hGL := (Qlg)) _ _ t521 _ _ t524 _ _ t527 t530 t533 t536 _ ?side1 ?side2 ?side3 ?side4 ?side5 ?side6 A5.out).mono ?_
      (case side1 => exact Qsc (Kd.R_reads' HO523.out).2.2)
      (case side2 => exact (Kd.R_reads' HO523.out).2.1)
      (case side3 => exact Qsc (Kd.R_reads' HO526.out).2.2)
      (case side4 => exact (Kd.R_reads' HO526.out).2.1)
      (case side5 => exact Qsc (Kd.R_reads' HO529.out).2.2)
      (case side6 => exact (Kd.R_reads' HO529.out).2.1)
      rintro e w21 ⟨v531, v534, rfl, ho0, ho1, hb⟩
      refine ⟨_, rfl, ?_⟩
      have n0_ := Aside0.mk (Kd.R_mono (Kd.R_told (Kd.R_told (Kd.R_old (Qro HO523.out) hb) (Kd.R_base ho0)) (Kd.R_base ho1)) (fun _ h_ => h_.1))
      have n1_ := Aside0.mk (Kd.R_mono (Kd.R_told (Kd.R_told (Kd.R_old (Qro HO526.out) hb) (Kd.R_base ho0)) (Kd.R_base ho1)) (fun _ h_ => h_.1))
      have n2_ := Aside0.mk (Kd.R_mono (Kd.R_told (Kd.R_told (Kd.R_old (Qro HO529.out) hb) (Kd.R_base ho0)) (Kd.R_base ho1)) (fun _ h_ => h_.1))
      have n3_ := Aside0.mk (Kd.R_lower (Kd.R_new' (Kd.R_new' (Kd.R_new' ho0 (Kd.R_lt (Qro HO523.out))) (Kd.R_lt (Qro HO526.out))) (Kd.R_lt (Qro HO529.out))) (below_size (Qah GE520.out GE537.out)))
      have n4_ := Aside0.mk (Kd.R_lower (Kd.R_new' (Kd.R_new' (Kd.R_new' ho1 (Kd.R_lt (Qro HO523.out))) (Kd.R_lt (Qro HO526.out))) (Kd.R_lt (Qro HO529.out))) (below_size (Qah GE520.out GE537.out)))
      have n5_ := Aside0.mk (blk_below (g := gb520) (o := .cells #[.slice A1_0 l1_0.length c1_0, .slice A1_1 l1_1.length c1_1] 52 (0, 0)) (Qbl BK520.out) hb)
      have n6_ := Aside0.mk (blk_below (g := gb537) (o := .cells #[.slice none 0 0, .slice none 0 0] 53 (0, 0)) (Qbl BK537.out) hb)
      have n7_ := Aside0.mk (below_step (Qah GE520.out GE537.out) hb)
      clear HO523
      clear HO526
      clear HO529
      clear BK520
      clear BK537
      clear HB
      have HO523 := n0_
      have HO526 := n1_
      have HO529 := n2_
      have HO532 := n3_
      have HO535 := n4_
      have BK520 := n5_
      have BK537 := n6_
      have HB := n7_
      clear n0_ n1_ n2_ n3_ n4_ n5_ n6_ n7_
      (try clear hb)
      (try clear hb2)
      (try clear hk)
      (try clear hi)
      (try clear ho0)
      (try clear ho1)
      refine hK.out _ _ ⟨(blk_cell BK520.out 0).trans rfl, (blk_cell BK520.out 1).trans rfl⟩ (fun hHeld => ?_)
      clear hK K
      refine norm_ (a' := ?_) ?_ ?_
      rotate_left
      ·show Act.put _ (some 20) _ = _
       simp only [Act.put, Qp1, Qp2, Qp3, i64_w, i32_w]
       rfl
      refine pure_ (i := 5) (N := some 15) (v := ?_) (a' := ?_) (Qbz 11 319) rfl rfl (Qao) (fun _ _ _ h => h) (Or.inl ⟨by rfl, ?_⟩) ?_ ?_
      rotate_left
      ·intro w'
       go_simp
       with_reducible rfl
      rotate_left
      ·simp only [Act.put, Qp1, Qp2, Qp3, i64_w, i32_w]
       rfl
      refine pure_ (i := 6) (N := some 21) (v := ?_) (a' := ?_) (Qbz 11 383) rfl rfl (Qao) (fun _ _ _ h => h) (Or.inl ⟨by rfl, ?_⟩) ?_ ?_
      rotate_left
      ·intro w'
       go_simp
       with_reducible rfl
      rotate_left
      ·simp only [Act.put, Qp1, Qp2, Qp3, i64_w, i32_w]
       rfl
      refine pure_ (i := 7) (N := some 22) (v := ?_) (a' := ?_) (Qbz 11 511) rfl rfl (Qao) (fun _ _ _ h => h) (Or.inl ⟨by rfl, ?_⟩) ?_ ?_
      rotate_left
      ·intro w'
       go_simp
       with_reducible rfl
      rotate_left
      ·simp only [Act.put, Qp1, Qp2, Qp3, i64_w, i32_w]
       rfl
      exact norm_ (by simp only [putAll, Act.put, List.setIfInBounds_toArray, List.set_cons_zero, List.set_cons_succ]) (hCont (.slice Ao18 t521.length co18, .slice Ao19 t524.length co19, .slice Ao20 t527.length co20, v531, v534, gb537) _ ⟨hHeld, (by (with_reducible repeat (first | apply Kd.R_alloc | apply Kd.R_drewN | apply Kd.R_drew)); exact Kd.R_mono HO523.out (fun _ hk => ⟨hk.1.1.1.2, ⟨hk.1.1.2, ⟨hk.1.2, hk.2⟩⟩⟩)), (by (with_reducible repeat (first | apply Kd.R_alloc | apply Kd.R_drewN | apply Kd.R_drew)); exact Kd.R_mono HO526.out (fun _ hk => ⟨hk.1.1.2, ⟨hk.1.1.1, ⟨hk.1.2, hk.2⟩⟩⟩)), (by (with_reducible repeat (first | apply Kd.R_alloc | apply Kd.R_drewN | apply Kd.R_drew)); exact Kd.R_mono HO529.out (fun _ hk => ⟨hk.1.1.2, ⟨hk.1.1.1, ⟨hk.1.2, hk.2⟩⟩⟩)), (by (with_reducible repeat (first | apply Kd.R_alloc | apply Kd.R_drewN | apply Kd.R_drew)); exact Kd.R_mono HO532.out (fun _ hk => ⟨hk.1.1.2, ⟨hk.1.2, ⟨hk.2, hk.1.1.1⟩⟩⟩)), (by (with_reducible repeat (first | apply Kd.R_alloc | apply Kd.R_drewN | apply Kd.R_drew)); exact Kd.R_mono HO535.out (fun _ hk => ⟨hk.1.1.2, ⟨hk.1.2, ⟨hk.2, hk.1.1.1⟩⟩⟩)), (Qbl BK520.out), (Qbl BK537.out), GW537.out, GE537.out, NB520_537.out, NB537_520.out, (Qah GE520.out GE537.out)⟩)
    ·skip
     refine box_step ?hg (N := 5) ?hd (cs := #[.slice none 0 0, .slice none 0 0]) (t := 53) ?hr ?_; (case hd => rfl); (case hg => rfl); (case hr => first | (go_simp; done) | (go_simp; rfl))
     intro gb537 hg w16 hbox hb
     have n0_ := Aside0.mk (Kd.R_below (Qro HO523.out) hb)
     have n1_ := Aside0.mk (blk_below (g := gb520) (o := .cells #[.slice A1_0 l1_0.length c1_0, .slice A1_1 l1_1.length c1_1] 52 (0, 0)) (Qbl BK520.out) hb)
     have n2_ := Aside0.mk (below_step (Qag GE520.out) hb)
     have n3_ := Aside0.mk (hbox)
     have n4_ := Aside0.mk ((by rw [hg]; exact (below_size (Qag GE520.out)) : w.heap.size ≤ gb537))
     have n5_ := Aside0.mk ((by rw [hg]; exact (below_size (Qag GE520.out)) : w.heap.size ≤ gb537))
     have n6_ := Aside0.mk ((by rw [hg]; exact Nat.ne_of_lt (blk_lt (g := gb520) (o := .cells #[.slice A1_0 l1_0.length c1_0, .slice A1_1 l1_1.length c1_1] 52 (0, 0)) (Qbl BK520.out)) : gb520 ≠ gb537))
     have n7_ := Aside0.mk ((by rw [hg]; exact Nat.ne_of_gt (blk_lt (g := gb520) (o := .cells #[.slice A1_0 l1_0.length c1_0, .slice A1_1 l1_1.length c1_1] 52 (0, 0)) (Qbl BK520.out)) : gb537 ≠ gb520))
     clear HO523
     clear BK520
     clear HB
     have HO523 := n0_
     have BK520 := n1_
     have HB := n2_
     have BK537 := n3_
     have GW537 := n4_
     have GE537 := n5_
     have NB520_537 := n6_
     have NB537_520 := n7_
     clear n0_ n1_ n2_ n3_ n4_ n5_ n6_ n7_
     clear hb hbox hg
     refine hK.out _ _ ⟨(blk_cell BK520.out 0).trans rfl, (blk_cell BK520.out 1).trans rfl⟩ (fun hHeld => ?_)
     clear hK K
     refine norm_ (a' := ?_) ?_ ?_
     rotate_left
     ·show Act.put _ (some 5) _ = _
      simp only [Act.put, Qp1, Qp2, Qp3, i64_w, i32_w]
      rfl
     refine one_ (i := 3) (N := some 19) (Qbz 11 271) rfl rfl (one_of HT_.out (by kernel_rfl)) (by decide) (fun K hK => ?_)
     refine goes_ Tryd.func44 (by kernel_rfl) rfl #[.agg #[.slice A1_0 l1_0.length c1_0, .slice A1_1 l1_1.length c1_1]] (by rfl) rfl rfl (Qls) ?_
     with_reducible refine (lampblacklaw02_Of.calls _ _ l1_0 _ _ l1_1 t524 t527 _ ?side1 ?side2 ?side3 ?side4 A4.out).mono ?_
     (case side1 => exact Qsc (Kd.C_below HR1_0.out HB.out))
     (case side2 => exact HC1_0.out)
     (case side3 => exact Qsc (Kd.C_below HR1_1.out HB.out))
     (case side4 => exact HC1_1.out)
     rintro e w17 ⟨v525, v528, rfl, ho0, ho1, hb⟩
     refine ⟨_, rfl, ?_⟩
     have n0_ := Aside0.mk (Kd.R_mono (Kd.R_told (Kd.R_told (Kd.R_old (Qro HO523.out) hb) (Kd.R_base ho0)) (Kd.R_base ho1)) (fun _ h_ => h_.1))
     have n1_ := Aside0.mk (Kd.R_lower (Kd.R_new' ho0 (Kd.R_lt (Qro HO523.out))) (below_size (Qah GE520.out GE537.out)))
     have n2_ := Aside0.mk (Kd.R_lower (Kd.R_new' ho1 (Kd.R_lt (Qro HO523.out))) (below_size (Qah GE520.out GE537.out)))
     have n3_ := Aside0.mk (blk_below (g := gb520) (o := .cells #[.slice A1_0 l1_0.length c1_0, .slice A1_1 l1_1.length c1_1] 52 (0, 0)) (Qbl BK520.out) hb)
     have n4_ := Aside0.mk (blk_below (g := gb537) (o := .cells #[.slice none 0 0, .slice none 0 0] 53 (0, 0)) (Qbl BK537.out) hb)
     have n5_ := Aside0.mk (below_step (Qah GE520.out GE537.out) hb)
     clear HO523
     clear BK520
     clear BK537
     clear HB
     have HO523 := n0_
     have HO526 := n1_
     have HO529 := n2_
     have BK520 := n3_
     have BK537 := n4_
     have HB := n5_
     clear n0_ n1_ n2_ n3_ n4_ n5_
     (try clear hb)
     (try clear hb2)
     (try clear hk)
     (try clear hi)
     (try clear ho0)
     (try clear ho1)
     obtain ⟨Ao18, co18, eo18⟩ := Kd.R_slice HO523.out
     (first | subst eo18 | (injection eo18 with f1_ f2_ f3_; have f4_ := f1_.symm; have f5_ := f3_.symm; clear f1_ f2_ f3_; subst f4_; subst f5_))
     obtain ⟨Ao19, co19, eo19⟩ := Kd.R_slice HO526.out
     (first | subst eo19 | (injection eo19 with f1_ f2_ f3_; have f4_ := f1_.symm; have f5_ := f3_.symm; clear f1_ f2_ f3_; subst f4_; subst f5_))
     obtain ⟨Ao20, co20, eo20⟩ := Kd.R_slice HO529.out
     (first | subst eo20 | (injection eo20 with f1_ f2_ f3_; have f4_ := f1_.symm; have f5_ := f3_.symm; clear f1_ f2_ f3_; subst f4_; subst f5_))
     refine hK.out _ _ ⟨(blk_cell BK520.out 0).trans rfl, (blk_cell BK520.out 1).trans rfl⟩ (fun hHeld => ?_)
     clear hK K
     refine norm_ (a' := ?_) ?_ ?_
     rotate_left
     ·show Act.put _ (some 19) _ = _
      simp only [Act.put, Qp1, Qp2, Qp3, i64_w, i32_w]
      rfl
     refine one_ (i := 4) (N := some 20) (Qbz 11 287) rfl rfl (one_of HT_.out (by kernel_rfl)) (by decide) (fun K hK => ?_)
     refine goes_ Tryd.func43 (by kernel_rfl) rfl #[.slice Ao18 t521.length co18, .agg #[.slice Ao19 t524.length co19, .slice Ao20 t527.length co20]] (by rfl) rfl rfl (Qls) ?_
     with_reducible refine (width_Narrow.calls (hGL := (Qlg)) _ _ t521 _ _ t524 _ _ t527 t530 t533 t536 _ ?side1 ?side2 ?side3 ?side4 ?side5 ?side6 A5.out).mono ?_
     (case side1 => exact Qsc (Kd.R_reads' HO523.out).2.2)
     (case side2 => exact (Kd.R_reads' HO523.out).2.1)
     (case side3 => exact Qsc (Kd.R_reads' HO526.out).2.2)
     (case side4 => exact (Kd.R_reads' HO526.out).2.1)
     (case side5 => exact Qsc (Kd.R_reads' HO529.out).2.2)
     (case side6 => exact (Kd.R_reads' HO529.out).2.1)
     rintro e w21 ⟨v531, v534, rfl, ho0, ho1, hb⟩
     refine ⟨_, rfl, ?_⟩
     have n0_ := Aside0.mk (Kd.R_mono (Kd.R_told (Kd.R_told (Kd.R_old (Qro HO523.out) hb) (Kd.R_base ho0)) (Kd.R_base ho1)) (fun _ h_ => h_.1))
     have n1_ := Aside0.mk (Kd.R_mono (Kd.R_told (Kd.R_told (Kd.R_old (Qro HO526.out) hb) (Kd.R_base ho0)) (Kd.R_base ho1)) (fun _ h_ => h_.1))
     have n2_ := Aside0.mk (Kd.R_mono (Kd.R_told (Kd.R_told (Kd.R_old (Qro HO529.out) hb) (Kd.R_base ho0)) (Kd.R_base ho1)) (fun _ h_ => h_.1))
     have n3_ := Aside0.mk (Kd.R_lower (Kd.R_new' (Kd.R_new' (Kd.R_new' ho0 (Kd.R_lt (Qro HO523.out))) (Kd.R_lt (Qro HO526.out))) (Kd.R_lt (Qro HO529.out))) (below_size (Qah GE520.out GE537.out)))
     have n4_ := Aside0.mk (Kd.R_lower (Kd.R_new' (Kd.R_new' (Kd.R_new' ho1 (Kd.R_lt (Qro HO523.out))) (Kd.R_lt (Qro HO526.out))) (Kd.R_lt (Qro HO529.out))) (below_size (Qah GE520.out GE537.out)))
     have n5_ := Aside0.mk (blk_below (g := gb520) (o := .cells #[.slice A1_0 l1_0.length c1_0, .slice A1_1 l1_1.length c1_1] 52 (0, 0)) (Qbl BK520.out) hb)
     have n6_ := Aside0.mk (blk_below (g := gb537) (o := .cells #[.slice none 0 0, .slice none 0 0] 53 (0, 0)) (Qbl BK537.out) hb)
     have n7_ := Aside0.mk (below_step (Qah GE520.out GE537.out) hb)
     clear HO523
     clear HO526
     clear HO529
     clear BK520
     clear BK537
     clear HB
     have HO523 := n0_
     have HO526 := n1_
     have HO529 := n2_
     have HO532 := n3_
     have HO535 := n4_
     have BK520 := n5_
     have BK537 := n6_
     have HB := n7_
     clear n0_ n1_ n2_ n3_ n4_ n5_ n6_ n7_
     (try clear hb)
     (try clear hb2)
     (try clear hk)
     (try clear hi)
     (try clear ho0)
     (try clear ho1)
     refine hK.out _ _ ⟨(blk_cell BK520.out 0).trans rfl, (blk_cell BK520.out 1).trans rfl⟩ (fun hHeld => ?_)
     clear hK K
     refine norm_ (a' := ?_) ?_ ?_
     rotate_left
     ·show Act.put _ (some 20) _ = _
      simp only [Act.put, Qp1, Qp2, Qp3, i64_w, i32_w]
      rfl
     refine pure_ (i := 5) (N := some 15) (v := ?_) (a' := ?_) (Qbz 11 319) rfl rfl (Qao) (fun _ _ _ h => h) (Or.inl ⟨by rfl, ?_⟩) ?_ ?_
     rotate_left
     ·intro w'
      go_simp
      with_reducible rfl
     rotate_left
     ·simp only [Act.put, Qp1, Qp2, Qp3, i64_w, i32_w]
      rfl
     refine pure_ (i := 6) (N := some 21) (v := ?_) (a' := ?_) (Qbz 11 383) rfl rfl (Qao) (fun _ _ _ h => h) (Or.inl ⟨by rfl, ?_⟩) ?_ ?_
     rotate_left
     ·intro w'
      go_simp
      with_reducible rfl
     rotate_left
     ·simp only [Act.put, Qp1, Qp2, Qp3, i64_w, i32_w]
      rfl
     refine pure_ (i := 7) (N := some 22) (v := ?_) (a' := ?_) (Qbz 11 511) rfl rfl (Qao) (fun _ _ _ h => h) (Or.inl ⟨by rfl, ?_⟩) ?_ ?_
     rotate_left
     ·intro w'
      go_simp
      with_reducible rfl
     rotate_left
     ·simp only [Act.put, Qp1, Qp2, Qp3, i64_w, i32_w]
      rfl
     exact norm_ (by simp only [putAll, Act.put, List.setIfInBounds_toArray, List.set_cons_zero, List.set_cons_succ]) (hCont (.slice Ao18 t521.length co18, .slice Ao19 t524.length co19, .slice Ao20 t527.length co20, v531, v534, gb537) _ ⟨hHeld, (by (with_reducible repeat (first | apply Kd.R_alloc | apply Kd.R_drewN | apply Kd.R_drew)); exact Kd.R_mono HO523.out (fun _ hk => ⟨hk.1.1.1.2, ⟨hk.1.1.2, ⟨hk.1.2, hk.2⟩⟩⟩)), (by (with_reducible repeat (first | apply Kd.R_alloc | apply Kd.R_drewN | apply Kd.R_drew)); exact Kd.R_mono HO526.out (fun _ hk => ⟨hk.1.1.2, ⟨hk.1.1.1, ⟨hk.1.2, hk.2⟩⟩⟩)), (by (with_reducible repeat (first | apply Kd.R_alloc | apply Kd.R_drewN | apply Kd.R_drew)); exact Kd.R_mono HO529.out (fun _ hk => ⟨hk.1.1.2, ⟨hk.1.1.1, ⟨hk.1.2, hk.2⟩⟩⟩)), (by (with_reducible repeat (first | apply Kd.R_alloc | apply Kd.R_drewN | apply Kd.R_drew)); exact Kd.R_mono HO532.out (fun _ hk => ⟨hk.1.1.2, ⟨hk.1.2, ⟨hk.2, hk.1.1.1⟩⟩⟩)), (by (with_reducible repeat (first | apply Kd.R_alloc | apply Kd.R_drewN | apply Kd.R_drew)); exact Kd.R_mono HO535.out (fun _ hk => ⟨hk.1.1.2, ⟨hk.1.2, ⟨hk.2, hk.1.1.1⟩⟩⟩)), (Qbl BK520.out), (Qbl BK537.out), GW537.out, GE537.out, NB520_537.out, NB537_520.out, (Qah GE520.out GE537.out)⟩)
   ·skip
    refine box_step ?hg (N := 5) ?hd (cs := #[.slice none 0 0, .slice none 0 0]) (t := 53) ?hr ?_; (case hd => rfl); (case hg => rfl); (case hr => first | (go_simp; done) | (go_simp; rfl))
    intro gb537 hg w15 hbox hb
    have n0_ := Aside0.mk (blk_below (g := gb520) (o := .cells #[.slice A1_0 l1_0.length c1_0, .slice A1_1 l1_1.length c1_1] 52 (0, 0)) (Qbl BK520.out) hb)
    have n1_ := Aside0.mk (below_step (Qag GE520.out) hb)
    have n2_ := Aside0.mk (hbox)
    have n3_ := Aside0.mk ((by rw [hg]; exact (below_size (Qag GE520.out)) : w.heap.size ≤ gb537))
    have n4_ := Aside0.mk ((by rw [hg]; exact (below_size (Qag GE520.out)) : w.heap.size ≤ gb537))
    have n5_ := Aside0.mk ((by rw [hg]; exact Nat.ne_of_lt (blk_lt (g := gb520) (o := .cells #[.slice A1_0 l1_0.length c1_0, .slice A1_1 l1_1.length c1_1] 52 (0, 0)) (Qbl BK520.out)) : gb520 ≠ gb537))
    have n6_ := Aside0.mk ((by rw [hg]; exact Nat.ne_of_gt (blk_lt (g := gb520) (o := .cells #[.slice A1_0 l1_0.length c1_0, .slice A1_1 l1_1.length c1_1] 52 (0, 0)) (Qbl BK520.out)) : gb537 ≠ gb520))
    clear BK520
    clear HB
    have BK520 := n0_
    have HB := n1_
    have BK537 := n2_
    have GW537 := n3_
    have GE537 := n4_
    have NB520_537 := n5_
    have NB537_520 := n6_
    clear n0_ n1_ n2_ n3_ n4_ n5_ n6_
    clear hb hbox hg
    refine hK.out _ _ ⟨(blk_cell BK520.out 0).trans rfl, (blk_cell BK520.out 1).trans rfl⟩ (fun hHeld => ?_)
    clear hK K
    refine norm_ (a' := ?_) ?_ ?_
    rotate_left
    ·show Act.put _ (some 5) _ = _
     simp only [Act.put, Qp1, Qp2, Qp3, i64_w, i32_w]
     rfl
    refine one_ (i := 1) (N := some 17) (Qbz 11 263) rfl rfl (one_of HT_.out (by kernel_rfl)) (by decide) (fun K hK => ?_)
    refine goes_ Tryd.func19 (by kernel_rfl) rfl #[.slice A0 l0.length c0] (by rfl) rfl rfl (Qls) ?_
    with_reducible refine (lampblacklaw02_Few.calls _ _ l0 t521 _ ?side1 ?side2 A3.out).mono ?_
    (case side1 => exact Qsc (Kd.C_below HR0.out HB.out))
    (case side2 => exact HC0.out)
    rintro e w16 ⟨v522, rfl, ho0, hb⟩
    refine ⟨_, rfl, ?_⟩
    have n0_ := Aside0.mk (Kd.R_lower ho0 (below_size (Qah GE520.out GE537.out)))
    have n1_ := Aside0.mk (blk_below (g := gb520) (o := .cells #[.slice A1_0 l1_0.length c1_0, .slice A1_1 l1_1.length c1_1] 52 (0, 0)) (Qbl BK520.out) hb)
    have n2_ := Aside0.mk (blk_below (g := gb537) (o := .cells #[.slice none 0 0, .slice none 0 0] 53 (0, 0)) (Qbl BK537.out) hb)
    have n3_ := Aside0.mk (below_step (Qah GE520.out GE537.out) hb)
    clear BK520
    clear BK537
    clear HB
    have HO523 := n0_
    have BK520 := n1_
    have BK537 := n2_
    have HB := n3_
    clear n0_ n1_ n2_ n3_
    (try clear hb)
    (try clear hb2)
    (try clear hk)
    (try clear hi)
    (try clear ho0)
    refine hK.out _ _ ⟨(blk_cell BK520.out 0).trans rfl, (blk_cell BK520.out 1).trans rfl⟩ (fun hHeld => ?_)
    clear hK K
    refine norm_ (a' := ?_) ?_ ?_
    rotate_left
    ·show Act.put _ (some 17) _ = _
     simp only [Act.put, Qp1, Qp2, Qp3, i64_w, i32_w]
     rfl
    refine one_ (i := 3) (N := some 19) (Qbz 11 271) rfl rfl (one_of HT_.out (by kernel_rfl)) (by decide) (fun K hK => ?_)
    refine goes_ Tryd.func44 (by kernel_rfl) rfl #[.agg #[.slice A1_0 l1_0.length c1_0, .slice A1_1 l1_1.length c1_1]] (by rfl) rfl rfl (Qls) ?_
    with_reducible refine (lampblacklaw02_Of.calls _ _ l1_0 _ _ l1_1 t524 t527 _ ?side1 ?side2 ?side3 ?side4 A4.out).mono ?_
    (case side1 => exact Qsc (Kd.C_below HR1_0.out HB.out))
    (case side2 => exact HC1_0.out)
    (case side3 => exact Qsc (Kd.C_below HR1_1.out HB.out))
    (case side4 => exact HC1_1.out)
    rintro e w17 ⟨v525, v528, rfl, ho0, ho1, hb⟩
    refine ⟨_, rfl, ?_⟩
    have n0_ := Aside0.mk (Kd.R_mono (Kd.R_told (Kd.R_told (Kd.R_old (Qro HO523.out) hb) (Kd.R_base ho0)) (Kd.R_base ho1)) (fun _ h_ => h_.1))
    have n1_ := Aside0.mk (Kd.R_lower (Kd.R_new' ho0 (Kd.R_lt (Qro HO523.out))) (below_size (Qah GE520.out GE537.out)))
    have n2_ := Aside0.mk (Kd.R_lower (Kd.R_new' ho1 (Kd.R_lt (Qro HO523.out))) (below_size (Qah GE520.out GE537.out)))
    have n3_ := Aside0.mk (blk_below (g := gb520) (o := .cells #[.slice A1_0 l1_0.length c1_0, .slice A1_1 l1_1.length c1_1] 52 (0, 0)) (Qbl BK520.out) hb)
    have n4_ := Aside0.mk (blk_below (g := gb537) (o := .cells #[.slice none 0 0, .slice none 0 0] 53 (0, 0)) (Qbl BK537.out) hb)
    have n5_ := Aside0.mk (below_step (Qah GE520.out GE537.out) hb)
    clear HO523
    clear BK520
    clear BK537
    clear HB
    have HO523 := n0_
    have HO526 := n1_
    have HO529 := n2_
    have BK520 := n3_
    have BK537 := n4_
    have HB := n5_
    clear n0_ n1_ n2_ n3_ n4_ n5_
    (try clear hb)
    (try clear hb2)
    (try clear hk)
    (try clear hi)
    (try clear ho0)
    (try clear ho1)
    obtain ⟨Ao18, co18, eo18⟩ := Kd.R_slice HO523.out
    (first | subst eo18 | (injection eo18 with f1_ f2_ f3_; have f4_ := f1_.symm; have f5_ := f3_.symm; clear f1_ f2_ f3_; subst f4_; subst f5_))
    obtain ⟨Ao19, co19, eo19⟩ := Kd.R_slice HO526.out
    (first | subst eo19 | (injection eo19 with f1_ f2_ f3_; have f4_ := f1_.symm; have f5_ := f3_.symm; clear f1_ f2_ f3_; subst f4_; subst f5_))
    obtain ⟨Ao20, co20, eo20⟩ := Kd.R_slice HO529.out
    (first | subst eo20 | (injection eo20 with f1_ f2_ f3_; have f4_ := f1_.symm; have f5_ := f3_.symm; clear f1_ f2_ f3_; subst f4_; subst f5_))
    refine hK.out _ _ ⟨(blk_cell BK520.out 0).trans rfl, (blk_cell BK520.out 1).trans rfl⟩ (fun hHeld => ?_)
    clear hK K
    refine norm_ (a' := ?_) ?_ ?_
    rotate_left
    ·show Act.put _ (some 19) _ = _
     simp only [Act.put, Qp1, Qp2, Qp3, i64_w, i32_w]
     rfl
    refine one_ (i := 4) (N := some 20) (Qbz 11 287) rfl rfl (one_of HT_.out (by kernel_rfl)) (by decide) (fun K hK => ?_)
    refine goes_ Tryd.func43 (by kernel_rfl) rfl #[.slice Ao18 t521.length co18, .agg #[.slice Ao19 t524.length co19, .slice Ao20 t527.length co20]] (by rfl) rfl rfl (Qls) ?_
    with_reducible refine (width_Narrow.calls (hGL := (Qlg)) _ _ t521 _ _ t524 _ _ t527 t530 t533 t536 _ ?side1 ?side2 ?side3 ?side4 ?side5 ?side6 A5.out).mono ?_
    (case side1 => exact Qsc (Kd.R_reads' HO523.out).2.2)
    (case side2 => exact (Kd.R_reads' HO523.out).2.1)
    (case side3 => exact Qsc (Kd.R_reads' HO526.out).2.2)
    (case side4 => exact (Kd.R_reads' HO526.out).2.1)
    (case side5 => exact Qsc (Kd.R_reads' HO529.out).2.2)
    (case side6 => exact (Kd.R_reads' HO529.out).2.1)
    rintro e w21 ⟨v531, v534, rfl, ho0, ho1, hb⟩
    refine ⟨_, rfl, ?_⟩
    have n0_ := Aside0.mk (Kd.R_mono (Kd.R_told (Kd.R_told (Kd.R_old (Qro HO523.out) hb) (Kd.R_base ho0)) (Kd.R_base ho1)) (fun _ h_ => h_.1))
    have n1_ := Aside0.mk (Kd.R_mono (Kd.R_told (Kd.R_told (Kd.R_old (Qro HO526.out) hb) (Kd.R_base ho0)) (Kd.R_base ho1)) (fun _ h_ => h_.1))
    have n2_ := Aside0.mk (Kd.R_mono (Kd.R_told (Kd.R_told (Kd.R_old (Qro HO529.out) hb) (Kd.R_base ho0)) (Kd.R_base ho1)) (fun _ h_ => h_.1))
    have n3_ := Aside0.mk (Kd.R_lower (Kd.R_new' (Kd.R_new' (Kd.R_new' ho0 (Kd.R_lt (Qro HO523.out))) (Kd.R_lt (Qro HO526.out))) (Kd.R_lt (Qro HO529.out))) (below_size (Qah GE520.out GE537.out)))
    have n4_ := Aside0.mk (Kd.R_lower (Kd.R_new' (Kd.R_new' (Kd.R_new' ho1 (Kd.R_lt (Qro HO523.out))) (Kd.R_lt (Qro HO526.out))) (Kd.R_lt (Qro HO529.out))) (below_size (Qah GE520.out GE537.out)))
    have n5_ := Aside0.mk (blk_below (g := gb520) (o := .cells #[.slice A1_0 l1_0.length c1_0, .slice A1_1 l1_1.length c1_1] 52 (0, 0)) (Qbl BK520.out) hb)
    have n6_ := Aside0.mk (blk_below (g := gb537) (o := .cells #[.slice none 0 0, .slice none 0 0] 53 (0, 0)) (Qbl BK537.out) hb)
    have n7_ := Aside0.mk (below_step (Qah GE520.out GE537.out) hb)
    clear HO523
    clear HO526
    clear HO529
    clear BK520
    clear BK537
    clear HB
    have HO523 := n0_
    have HO526 := n1_
    have HO529 := n2_
    have HO532 := n3_
    have HO535 := n4_
    have BK520 := n5_
    have BK537 := n6_
    have HB := n7_
    clear n0_ n1_ n2_ n3_ n4_ n5_ n6_ n7_
    (try clear hb)
    (try clear hb2)
    (try clear hk)
    (try clear hi)
    (try clear ho0)
    (try clear ho1)
    refine hK.out _ _ ⟨(blk_cell BK520.out 0).trans rfl, (blk_cell BK520.out 1).trans rfl⟩ (fun hHeld => ?_)
    clear hK K
    refine norm_ (a' := ?_) ?_ ?_
    rotate_left
    ·show Act.put _ (some 20) _ = _
     simp only [Act.put, Qp1, Qp2, Qp3, i64_w, i32_w]
     rfl
    refine pure_ (i := 5) (N := some 15) (v := ?_) (a' := ?_) (Qbz 11 319) rfl rfl (Qao) (fun _ _ _ h => h) (Or.inl ⟨by rfl, ?_⟩) ?_ ?_
    rotate_left
    ·intro w'
     go_simp
     with_reducible rfl
    rotate_left
    ·simp only [Act.put, Qp1, Qp2, Qp3, i64_w, i32_w]
     rfl
    refine pure_ (i := 6) (N := some 21) (v := ?_) (a' := ?_) (Qbz 11 383) rfl rfl (Qao) (fun _ _ _ h => h) (Or.inl ⟨by rfl, ?_⟩) ?_ ?_
    rotate_left
    ·intro w'
     go_simp
     with_reducible rfl
    rotate_left
    ·simp only [Act.put, Qp1, Qp2, Qp3, i64_w, i32_w]
     rfl
    refine pure_ (i := 7) (N := some 22) (v := ?_) (a' := ?_) (Qbz 11 511) rfl rfl (Qao) (fun _ _ _ h => h) (Or.inl ⟨by rfl, ?_⟩) ?_ ?_
    rotate_left
    ·intro w'
     go_simp
     with_reducible rfl
    rotate_left
    ·simp only [Act.put, Qp1, Qp2, Qp3, i64_w, i32_w]
     rfl
    exact norm_ (by simp only [putAll, Act.put, List.setIfInBounds_toArray, List.set_cons_zero, List.set_cons_succ]) (hCont (.slice Ao18 t521.length co18, .slice Ao19 t524.length co19, .slice Ao20 t527.length co20, v531, v534, gb537) _ ⟨hHeld, (by (with_reducible repeat (first | apply Kd.R_alloc | apply Kd.R_drewN | apply Kd.R_drew)); exact Kd.R_mono HO523.out (fun _ hk => ⟨hk.1.1.1.2, ⟨hk.1.1.2, ⟨hk.1.2, hk.2⟩⟩⟩)), (by (with_reducible repeat (first | apply Kd.R_alloc | apply Kd.R_drewN | apply Kd.R_drew)); exact Kd.R_mono HO526.out (fun _ hk => ⟨hk.1.1.2, ⟨hk.1.1.1, ⟨hk.1.2, hk.2⟩⟩⟩)), (by (with_reducible repeat (first | apply Kd.R_alloc | apply Kd.R_drewN | apply Kd.R_drew)); exact Kd.R_mono HO529.out (fun _ hk => ⟨hk.1.1.2, ⟨hk.1.1.1, ⟨hk.1.2, hk.2⟩⟩⟩)), (by (with_reducible repeat (first | apply Kd.R_alloc | apply Kd.R_drewN | apply Kd.R_drew)); exact Kd.R_mono HO532.out (fun _ hk => ⟨hk.1.1.2, ⟨hk.1.2, ⟨hk.2, hk.1.1.1⟩⟩⟩)), (by (with_reducible repeat (first | apply Kd.R_alloc | apply Kd.R_drewN | apply Kd.R_drew)); exact Kd.R_mono HO535.out (fun _ hk => ⟨hk.1.1.2, ⟨hk.1.2, ⟨hk.2, hk.1.1.1⟩⟩⟩)), (Qbl BK520.out), (Qbl BK537.out), GW537.out, GE537.out, NB520_537.out, NB537_520.out, (Qah GE520.out GE537.out)⟩)
  rintro ⟨v522, v525, v528, v531, v534, gb537⟩ w22 ⟨hS_, h0_, h1_, h2_, h3_, h4_, h5_, h6_, h7_, h8_, h9_, h10_, h11_⟩
  have n0_ : Aside0 (Kd.R (Kd.int .i64) 3 w22 w.heap.size (fun k_ => some k_ ≠ (v525 : Value).ownBlock ∧ some k_ ≠ (v528 : Value).ownBlock ∧ some k_ ≠ (v531 : Value).ownBlock ∧ some k_ ≠ (v534 : Value).ownBlock) v522 t521) := ⟨h0_⟩
  have n1_ : Aside0 (Kd.R (Kd.int .i64) 3 w22 w.heap.size (fun k_ => some k_ ≠ (v522 : Value).ownBlock ∧ some k_ ≠ (v528 : Value).ownBlock ∧ some k_ ≠ (v531 : Value).ownBlock ∧ some k_ ≠ (v534 : Value).ownBlock) v525 t524) := ⟨h1_⟩
  have n2_ : Aside0 (Kd.R (Kd.int .i64) 3 w22 w.heap.size (fun k_ => some k_ ≠ (v522 : Value).ownBlock ∧ some k_ ≠ (v525 : Value).ownBlock ∧ some k_ ≠ (v531 : Value).ownBlock ∧ some k_ ≠ (v534 : Value).ownBlock) v528 t527) := ⟨h2_⟩
  have n3_ : Aside0 (Kd.R (Kd.int .i64) 3 w22 w.heap.size (fun k_ => some k_ ≠ (v522 : Value).ownBlock ∧ some k_ ≠ (v525 : Value).ownBlock ∧ some k_ ≠ (v528 : Value).ownBlock ∧ some k_ ≠ (v534 : Value).ownBlock) v531 t530) := ⟨h3_⟩
  have n4_ : Aside0 (Kd.R (Kd.int .i64) 3 w22 w.heap.size (fun k_ => some k_ ≠ (v522 : Value).ownBlock ∧ some k_ ≠ (v525 : Value).ownBlock ∧ some k_ ≠ (v528 : Value).ownBlock ∧ some k_ ≠ (v531 : Value).ownBlock) v534 t533) := ⟨h4_⟩
  have n5_ : Aside0 (w22.heap[gb520]? = some (.cells #[.slice A1_0 l1_0.length c1_0, .slice A1_1 l1_1.length c1_1] 52 (0, 0))) := ⟨h5_⟩
  have n6_ : Aside0 (w22.heap[gb537]? = some (.cells #[.slice none 0 0, .slice none 0 0] 53 (0, 0))) := ⟨h6_⟩
  have n7_ : Aside0 (w.heap.size ≤ gb537) := ⟨h7_⟩
  have n8_ : Aside0 (w.heap.size ≤ gb537) := ⟨h8_⟩
  have n9_ : Aside0 (gb520 ≠ gb537) := ⟨h9_⟩
  have n10_ : Aside0 (gb537 ≠ gb520) := ⟨h10_⟩
  have n11_ : Aside0 (Below w.heap.size w w22) := ⟨h11_⟩
  clear BK520
  clear HB
  clear h0_ h1_ h2_ h3_ h4_ h5_ h6_ h7_ h8_ h9_ h10_ h11_
  have HO523 := n0_
  have HO526 := n1_
  have HO529 := n2_
  have HO532 := n3_
  have HO535 := n4_
  have BK520 := n5_
  have BK537 := n6_
  have GW537 := n7_
  have GE537 := n8_
  have NB520_537 := n9_
  have NB537_520 := n10_
  have HB := n11_
  clear n0_ n1_ n2_ n3_ n4_ n5_ n6_ n7_ n8_ n9_ n10_ n11_
  have hHeld : w22.cell? ⟨gb520, 0, none⟩ = some (.slice A1_0 l1_0.length c1_0) ∧ w22.cell? ⟨gb520, 1, none⟩ = some (.slice A1_1 l1_1.length c1_1) := hS_
  obtain ⟨Ao23, co23, eo23⟩ := Kd.R_slice HO532.out
  (first | subst eo23 | (injection eo23 with f1_ f2_ f3_; have f4_ := f1_.symm; have f5_ := f3_.symm; clear f1_ f2_ f3_; subst f4_; subst f5_))
  obtain ⟨Ao25, co25, eo25⟩ := Kd.R_slice HO535.out
  (first | subst eo25 | (injection eo25 with f1_ f2_ f3_; have f4_ := f1_.symm; have f5_ := f3_.symm; clear f1_ f2_ f3_; subst f4_; subst f5_))
  refine norm_ (a' := ?_) ?_ ?_
  rotate_left
  ·simp only [putAll, Act.put, List.setIfInBounds_toArray, List.set_cons_zero, List.set_cons_succ]
   rfl
  refine one_ (i := 9) (N := none) (Qbz 11 1023) rfl rfl (one_of HT_.out (by kernel_rfl)) (by decide) (fun K hK => ?_)
  have hs24 : w22.cell? ⟨gb537, 0, none⟩ = some (.slice none 0 0) := (blk_cell BK537.out 0).trans rfl
  have hfs24 := blk_frozen BK537.out 0
  have hns24_0 := NB520_537.out
  have hms24_0 := NB537_520.out
  have hs26 : w22.cell? ⟨gb537, 1, none⟩ = some (.slice none 0 0) := (blk_cell BK537.out 1).trans rfl
  have hfs26 := blk_frozen BK537.out 1
  have hns26_0 := NB520_537.out
  have hms26_0 := NB537_520.out
  refine skip_ (w1 := ?_) (by rfl) rfl ?_ ?_
  rotate_left
  ·go_simp
   rfl
  refine hK.out _ _ ⟨((cell_far (p := ⟨gb537, _, none⟩) NB520_537.out _).trans (((cell_far (p := ⟨gb537, _, none⟩) NB520_537.out _).trans (hHeld.1)))), ((cell_far (p := ⟨gb537, _, none⟩) NB520_537.out _).trans (((cell_far (p := ⟨gb537, _, none⟩) NB520_537.out _).trans (hHeld.2))))⟩ (fun hHeld => ?_)
  clear hK K
  refine pure_ (i := 10) (N := some 6) (v := ?_) (a' := ?_) (Qbz 11 2047) rfl rfl (Qao) (fun _ _ _ h => h) (Or.inl ⟨by rfl, ?_⟩) ?_ ?_
  rotate_left
  ·intro w'
   go_simp
   with_reducible rfl
  rotate_left
  ·simp only [Act.put, Qp1, Qp2, Qp3, i64_w, i32_w]
   rfl
  refine done_ (done_of HT_.out (by kernel_rfl)) ?_
  try go_wp2
  have n0_ : Aside0 (Kd.R (Kd.int .i64) 3 ((w22.setCell ⟨gb537, 0, none⟩ (.slice Ao23 t530.length co23)).setCell ⟨gb537, 1, none⟩ (.slice Ao25 t533.length co25)) w.heap.size (fun k_ => some k_ ≠ (v525 : Value).ownBlock ∧ some k_ ≠ (v528 : Value).ownBlock ∧ some k_ ≠ (.slice Ao23 t530.length co23 : Value).ownBlock ∧ some k_ ≠ (.slice Ao25 t533.length co25 : Value).ownBlock) v522 t521) := ⟨by (with_reducible repeat (first | apply Kd.R_alloc | apply Kd.R_drewN | apply Kd.R_drew)); exact Kd.R_mono (Kd.R_far (p := ⟨gb537, 1, none⟩) (Kd.R_far (p := ⟨gb537, 0, none⟩) (Kd.R_types HO523.out BK537.out (by decide)) (fun _ hk => hk.2) (.slice Ao23 t530.length co23)) (fun _ hk => hk.2) (.slice Ao25 t533.length co25)) (fun _ hk => ⟨hk.1.1, ⟨hk.1.2.1, ⟨hk.1.2.2.1, hk.1.2.2.2⟩⟩⟩)⟩
  have n1_ : Aside0 (Kd.R (Kd.int .i64) 3 ((w22.setCell ⟨gb537, 0, none⟩ (.slice Ao23 t530.length co23)).setCell ⟨gb537, 1, none⟩ (.slice Ao25 t533.length co25)) w.heap.size (fun k_ => some k_ ≠ (v522 : Value).ownBlock ∧ some k_ ≠ (v528 : Value).ownBlock ∧ some k_ ≠ (.slice Ao23 t530.length co23 : Value).ownBlock ∧ some k_ ≠ (.slice Ao25 t533.length co25 : Value).ownBlock) v525 t524) := ⟨by (with_reducible repeat (first | apply Kd.R_alloc | apply Kd.R_drewN | apply Kd.R_drew)); exact Kd.R_mono (Kd.R_far (p := ⟨gb537, 1, none⟩) (Kd.R_far (p := ⟨gb537, 0, none⟩) (Kd.R_types HO526.out BK537.out (by decide)) (fun _ hk => hk.2) (.slice Ao23 t530.length co23)) (fun _ hk => hk.2) (.slice Ao25 t533.length co25)) (fun _ hk => ⟨hk.1.1, ⟨hk.1.2.1, ⟨hk.1.2.2.1, hk.1.2.2.2⟩⟩⟩)⟩
  have n2_ : Aside0 (Kd.R (Kd.int .i64) 3 ((w22.setCell ⟨gb537, 0, none⟩ (.slice Ao23 t530.length co23)).setCell ⟨gb537, 1, none⟩ (.slice Ao25 t533.length co25)) w.heap.size (fun k_ => some k_ ≠ (v522 : Value).ownBlock ∧ some k_ ≠ (v525 : Value).ownBlock ∧ some k_ ≠ (.slice Ao23 t530.length co23 : Value).ownBlock ∧ some k_ ≠ (.slice Ao25 t533.length co25 : Value).ownBlock) v528 t527) := ⟨by (with_reducible repeat (first | apply Kd.R_alloc | apply Kd.R_drewN | apply Kd.R_drew)); exact Kd.R_mono (Kd.R_far (p := ⟨gb537, 1, none⟩) (Kd.R_far (p := ⟨gb537, 0, none⟩) (Kd.R_types HO529.out BK537.out (by decide)) (fun _ hk => hk.2) (.slice Ao23 t530.length co23)) (fun _ hk => hk.2) (.slice Ao25 t533.length co25)) (fun _ hk => ⟨hk.1.1, ⟨hk.1.2.1, ⟨hk.1.2.2.1, hk.1.2.2.2⟩⟩⟩)⟩
  have n3_ : Aside0 (Kd.R (Kd.int .i64) 3 ((w22.setCell ⟨gb537, 0, none⟩ (.slice Ao23 t530.length co23)).setCell ⟨gb537, 1, none⟩ (.slice Ao25 t533.length co25)) w.heap.size (fun k_ => some k_ ≠ (v522 : Value).ownBlock ∧ some k_ ≠ (v525 : Value).ownBlock ∧ some k_ ≠ (v528 : Value).ownBlock ∧ some k_ ≠ (.slice Ao25 t533.length co25 : Value).ownBlock) (.slice Ao23 t530.length co23) t530) := ⟨by (with_reducible repeat (first | apply Kd.R_alloc | apply Kd.R_drewN | apply Kd.R_drew)); exact Kd.R_mono (Kd.R_far (p := ⟨gb537, 1, none⟩) (Kd.R_far (p := ⟨gb537, 0, none⟩) (Kd.R_types HO532.out BK537.out (by decide)) (fun _ hk => hk.2) (.slice Ao23 t530.length co23)) (fun _ hk => hk.2) (.slice Ao25 t533.length co25)) (fun _ hk => ⟨hk.1.1, ⟨hk.1.2.1, ⟨hk.1.2.2.1, hk.1.2.2.2⟩⟩⟩)⟩
  have n4_ : Aside0 (Kd.R (Kd.int .i64) 3 ((w22.setCell ⟨gb537, 0, none⟩ (.slice Ao23 t530.length co23)).setCell ⟨gb537, 1, none⟩ (.slice Ao25 t533.length co25)) w.heap.size (fun k_ => some k_ ≠ (v522 : Value).ownBlock ∧ some k_ ≠ (v525 : Value).ownBlock ∧ some k_ ≠ (v528 : Value).ownBlock ∧ some k_ ≠ (.slice Ao23 t530.length co23 : Value).ownBlock) (.slice Ao25 t533.length co25) t533) := ⟨by (with_reducible repeat (first | apply Kd.R_alloc | apply Kd.R_drewN | apply Kd.R_drew)); exact Kd.R_mono (Kd.R_far (p := ⟨gb537, 1, none⟩) (Kd.R_far (p := ⟨gb537, 0, none⟩) (Kd.R_types HO535.out BK537.out (by decide)) (fun _ hk => hk.2) (.slice Ao23 t530.length co23)) (fun _ hk => hk.2) (.slice Ao25 t533.length co25)) (fun _ hk => ⟨hk.1.1, ⟨hk.1.2.1, ⟨hk.1.2.2.1, hk.1.2.2.2⟩⟩⟩)⟩
  have n5_ : Aside0 (((w22.setCell ⟨gb537, 0, none⟩ (.slice Ao23 t530.length co23)).setCell ⟨gb537, 1, none⟩ (.slice Ao25 t533.length co25)).heap[gb520]? = some (.cells #[.slice A1_0 l1_0.length c1_0, .slice A1_1 l1_1.length c1_1] 52 (0, 0))) := ⟨by (with_reducible repeat (first | refine blk_drewN ?_ _ | refine blk_drew ?_ | refine blk_alloc ?_ _)); refine blk_far ?_ NB520_537.out _; (with_reducible repeat (first | refine blk_drewN ?_ _ | refine blk_drew ?_ | refine blk_alloc ?_ _)); refine blk_far ?_ NB520_537.out _; (with_reducible repeat (first | refine blk_drewN ?_ _ | refine blk_drew ?_ | refine blk_alloc ?_ _)); exact BK520.out⟩
  have n6_ : Aside0 (((w22.setCell ⟨gb537, 0, none⟩ (.slice Ao23 t530.length co23)).setCell ⟨gb537, 1, none⟩ (.slice Ao25 t533.length co25)).heap[gb537]? = some (.cells #[.slice Ao23 t530.length co23, .slice Ao25 t533.length co25] 53 (0, 0))) := ⟨by (with_reducible repeat (first | refine blk_drewN ?_ _ | refine blk_drew ?_ | refine blk_alloc ?_ _)); refine blk_put (cs := #[.slice Ao23 t530.length co23, .slice none 0 0]) ?_ 1 _ rfl; (with_reducible repeat (first | refine blk_drewN ?_ _ | refine blk_drew ?_ | refine blk_alloc ?_ _)); refine blk_put (cs := #[.slice none 0 0, .slice none 0 0]) ?_ 0 _ rfl; (with_reducible repeat (first | refine blk_drewN ?_ _ | refine blk_drew ?_ | refine blk_alloc ?_ _)); exact BK537.out⟩
  have n7_ : Aside0 (Below w.heap.size w ((w22.setCell ⟨gb537, 0, none⟩ (.slice Ao23 t530.length co23)).setCell ⟨gb537, 1, none⟩ (.slice Ao25 t533.length co25))) := ⟨by repeat (first | (with_reducible first | exact HB.out | apply below_alloc | apply pw_below_drewN | apply below_drew1 | refine below_set ?_ GE520.out | refine below_set ?_ GE537.out) | exact HB.out)⟩
  (try clear HO523)
  (try clear HO526)
  (try clear HO529)
  (try clear HO532)
  (try clear HO535)
  (try clear BK520)
  (try clear BK537)
  (try clear HB)
  generalize ((w22.setCell ⟨gb537, 0, none⟩ (.slice Ao23 t530.length co23)).setCell ⟨gb537, 1, none⟩ (.slice Ao25 t533.length co25)) = w27 at n0_ n1_ n2_ n3_ n4_ n5_ n6_ n7_ ⊢
  have HO523 := n0_
  have HO526 := n1_
  have HO529 := n2_
  have HO532 := n3_
  have HO535 := n4_
  have BK520 := n5_
  have BK537 := n6_
  have HB := n7_
  clear n0_ n1_ n2_ n3_ n4_ n5_ n6_ n7_
  have n0_ := Aside0.mk (Kd.R_drew HO523.out)
  have n1_ := Aside0.mk (Kd.R_drew HO526.out)
  have n2_ := Aside0.mk (Kd.R_drew HO529.out)
  have n3_ := Aside0.mk (Kd.R_drew HO532.out)
  have n4_ := Aside0.mk (Kd.R_drew HO535.out)
  have n5_ := Aside0.mk (blk_drew BK520.out)
  have n6_ := Aside0.mk (blk_drew BK537.out)
  have n7_ := Aside0.mk (below_drew1 HB.out)
  clear HO523
  clear HO526
  clear HO529
  clear HO532
  clear HO535
  clear BK520
  clear BK537
  clear HB
  have HO523 := n0_
  have HO526 := n1_
  have HO529 := n2_
  have HO532 := n3_
  have HO535 := n4_
  have BK520 := n5_
  have BK537 := n6_
  have HB := n7_
  clear n0_ n1_ n2_ n3_ n4_ n5_ n6_ n7_
  refine start_ (n := 11) (S := fun w' => w'.cell? ⟨gb537, 0, none⟩ = some (.slice Ao23 t530.length co23) ∧ w'.cell? ⟨gb537, 1, none⟩ = some (.slice Ao25 t533.length co25)) (ds := []) (Qbz 11 0) (by kernel_rfl) rfl rfl ⟨(blk_cell BK537.out 0).trans rfl, (blk_cell BK537.out 1).trans rfl⟩ (fun hHeld => ?_); refine with_tabW lampblacklaw02_WidthFew.tab4 lampblacklaw02_WidthFew.bits4 (fun HT_ HW_ => ?_)
  generalize w27.drew = w28 at HO523 HO526 HO529 HO532 HO535 BK520 BK537 HB hHeld ⊢
  refine pure_ (i := 0) (N := some 31) (v := ?_) (a' := ?_) (Qbz 11 1) rfl rfl (Qao) (fun _ _ _ h => h) (Or.inl ⟨by rfl, ?_⟩) ?_ ?_
  rotate_left
  ·intro w'
   go_simp
   with_reducible rfl
  rotate_left
  ·simp only [Act.put, Qp1, Qp2, Qp3, i64_w, i32_w]
   rfl
  refine take_ (i := 2) (N := some 33) (v := ?_) (a' := ?_) (Qbz 11 5) rfl rfl (take_ofW HT_.out HW_.out (by kernel_rfl)) (fun _ _ _ h => h) (Or.inl ⟨by rfl, ?_⟩) hHeld ?_ ?_
  rotate_left
  ·rintro w' ⟨s0, s1⟩
   go_simp
   with_reducible rfl
  rotate_left
  ·simp only [Act.put, Qp1, Qp2, Qp3, i64_w, i32_w]
   rfl
  refine one_ (i := 1) (N := some 32) (Qbz 11 7) rfl rfl (one_of HT_.out (by kernel_rfl)) (by decide) (fun K hK => ?_)
  refine goes_ Tryd.func19 (by kernel_rfl) rfl #[.slice A0 l0.length c0] (by rfl) rfl rfl (Qls) ?_
  with_reducible refine (lampblacklaw02_Few.calls _ _ l0 t539 _ ?side1 ?side2 A7.out).mono ?_
  (case side1 => exact Qsc (Kd.C_below HR0.out HB.out))
  (case side2 => exact HC0.out)
  rintro e w29 ⟨v540, rfl, ho0, hb⟩
  refine ⟨_, rfl, ?_⟩
  have n0_ := Aside0.mk (Kd.R_elder' (Qro HO523.out) (Kd.R_base ho0) hb)
  have n1_ := Aside0.mk (Kd.R_elder' (Qro HO526.out) (Kd.R_base ho0) hb)
  have n2_ := Aside0.mk (Kd.R_elder' (Qro HO529.out) (Kd.R_base ho0) hb)
  have n3_ := Aside0.mk (Kd.R_elder' (Qro HO532.out) (Kd.R_base ho0) hb)
  have n4_ := Aside0.mk (Kd.R_elder' (Qro HO535.out) (Kd.R_base ho0) hb)
  have n5_ := Aside0.mk (Kd.R_lower (Kd.R_new' (Kd.R_new' (Kd.R_new' (Kd.R_new' (Kd.R_new' ho0 (Kd.R_lt (Qro HO523.out))) (Kd.R_lt (Qro HO526.out))) (Kd.R_lt (Qro HO529.out))) (Kd.R_lt (Qro HO532.out))) (Kd.R_lt (Qro HO535.out))) (below_size (Qah GE520.out GE537.out)))
  have n6_ := Aside0.mk (blk_below (g := gb520) (o := .cells #[.slice A1_0 l1_0.length c1_0, .slice A1_1 l1_1.length c1_1] 52 (0, 0)) (Qbl BK520.out) hb)
  have n7_ := Aside0.mk (blk_below (g := gb537) (o := .cells #[.slice Ao23 t530.length co23, .slice Ao25 t533.length co25] 53 (0, 0)) (Qbl BK537.out) hb)
  have n8_ := Aside0.mk (below_step (Qah GE520.out GE537.out) hb)
  clear HO523
  clear HO526
  clear HO529
  clear HO532
  clear HO535
  clear BK520
  clear BK537
  clear HB
  have HO523 := n0_
  have HO526 := n1_
  have HO529 := n2_
  have HO532 := n3_
  have HO535 := n4_
  have HO541 := n5_
  have BK520 := n6_
  have BK537 := n7_
  have HB := n8_
  clear n0_ n1_ n2_ n3_ n4_ n5_ n6_ n7_ n8_
  (try clear hb)
  (try clear hb2)
  (try clear hk)
  (try clear hi)
  (try clear ho0)
  obtain ⟨Ao30, co30, eo30⟩ := Kd.R_slice HO541.out
  (first | subst eo30 | (injection eo30 with f1_ f2_ f3_; have f4_ := f1_.symm; have f5_ := f3_.symm; clear f1_ f2_ f3_; subst f4_; subst f5_))
  refine hK.out _ _ ⟨(blk_cell BK537.out 0).trans rfl, (blk_cell BK537.out 1).trans rfl⟩ (fun hHeld => ?_)
  clear hK K
  refine norm_ (a' := ?_) ?_ ?_
  rotate_left
  ·show Act.put _ (some 32) _ = _
   simp only [Act.put, Qp1, Qp2, Qp3, i64_w, i32_w]
   rfl
  refine one_ (i := 3) (N := some 34) (Qbz 11 15) rfl rfl (one_of HT_.out (by kernel_rfl)) (by decide) (fun K hK => ?_)
  refine goes_ Tryd.func50 (by kernel_rfl) rfl #[.slice Ao30 t539.length co30, .agg #[.slice Ao23 t530.length co23, .slice Ao25 t533.length co25]] (by rfl) rfl rfl (Qls) ?_
  with_reducible refine (width_Check.calls (hGL := (Qlg)) k _ _ t539 _ _ t530 _ _ t533 t542 t543 t544 _ ?side1 ?side2 ?side3 ?side4 ?side5 ?side6 A8.out).mono ?_
  (case side1 => exact Qsc (Kd.R_reads' HO541.out).2.2)
  (case side2 => exact (Kd.R_reads' HO541.out).2.1)
  (case side3 => exact Qsc (Kd.R_reads' HO532.out).2.2)
  (case side4 => exact (Kd.R_reads' HO532.out).2.1)
  (case side5 => exact Qsc (Kd.R_reads' HO535.out).2.2)
  (case side6 => exact (Kd.R_reads' HO535.out).2.1)
  rintro e w31 ⟨rfl, hb⟩
  refine ⟨_, rfl, ?_⟩
  have n0_ := Aside0.mk (Kd.R_below (Qro HO523.out) hb)
  have n1_ := Aside0.mk (Kd.R_below (Qro HO526.out) hb)
  have n2_ := Aside0.mk (Kd.R_below (Qro HO529.out) hb)
  have n3_ := Aside0.mk (Kd.R_below (Qro HO532.out) hb)
  have n4_ := Aside0.mk (Kd.R_below (Qro HO535.out) hb)
  have n5_ := Aside0.mk (Kd.R_below (Qro HO541.out) hb)
  have n6_ := Aside0.mk (blk_below (g := gb520) (o := .cells #[.slice A1_0 l1_0.length c1_0, .slice A1_1 l1_1.length c1_1] 52 (0, 0)) (Qbl BK520.out) hb)
  have n7_ := Aside0.mk (blk_below (g := gb537) (o := .cells #[.slice Ao23 t530.length co23, .slice Ao25 t533.length co25] 53 (0, 0)) (Qbl BK537.out) hb)
  have n8_ := Aside0.mk (below_step (Qah GE520.out GE537.out) hb)
  clear HO523
  clear HO526
  clear HO529
  clear HO532
  clear HO535
  clear HO541
  clear BK520
  clear BK537
  clear HB
  have HO523 := n0_
  have HO526 := n1_
  have HO529 := n2_
  have HO532 := n3_
  have HO535 := n4_
  have HO541 := n5_
  have BK520 := n6_
  have BK537 := n7_
  have HB := n8_
  clear n0_ n1_ n2_ n3_ n4_ n5_ n6_ n7_ n8_
  (try clear hb)
  (try clear hb2)
  (try clear hk)
  (try clear hi)
  refine hK.out _ _ ⟨(blk_cell BK537.out 0).trans rfl, (blk_cell BK537.out 1).trans rfl⟩ (fun hHeld => ?_)
  clear hK K
  refine norm_ (a' := ?_) ?_ ?_
  rotate_left
  ·show Act.put _ (some 34) _ = _
   simp only [Act.put, Qp1, Qp2, Qp3, i64_w, i32_w]
   rfl
  refine pure_ (i := 4) (N := some 30) (v := ?_) (a' := ?_) (Qbz 11 31) rfl rfl (Qao) (fun _ _ _ h => h) (Or.inl ⟨by rfl, ?_⟩) ?_ ?_
  rotate_left
  ·intro w'
   go_simp
   with_reducible rfl
  rotate_left
  ·simp only [Act.put, Qp1, Qp2, Qp3, i64_w, i32_w]
   rfl
  refine pure_ (i := 5) (N := some 35) (v := ?_) (a' := ?_) (Qbz 11 63) rfl rfl (Qao) (fun _ _ _ h => h) (Or.inl ⟨by rfl, ?_⟩) ?_ ?_
  rotate_left
  ·intro w'
   go_simp
   with_reducible rfl
  rotate_left
  ·simp only [Act.put, Qp1, Qp2, Qp3, i64_w, i32_w]
   rfl
  refine pure_ (i := 6) (N := some 36) (v := ?_) (a' := ?_) (Qbz 11 127) rfl rfl (Qao) (fun _ _ _ h => h) (Or.inl ⟨by rfl, ?_⟩) ?_ ?_
  rotate_left
  ·intro w'
   go_simp
   with_reducible rfl
  rotate_left
  ·simp only [Act.put, Qp1, Qp2, Qp3, i64_w, i32_w]
   rfl
  refine pure_ (i := 7) (N := some 37) (v := ?_) (a' := ?_) (Qbz 11 255) rfl rfl (Qao) (fun _ _ _ h => h) (Or.inl ⟨by rfl, ?_⟩) ?_ ?_
  rotate_left
  ·intro w'
   go_simp
   with_reducible rfl
  rotate_left
  ·simp only [Act.put, Qp1, Qp2, Qp3, i64_w, i32_w]
   rfl
  refine pure_ (i := 8) (N := some 7) (v := ?_) (a' := ?_) (Qbz 11 511) rfl rfl (Qao) (fun _ _ _ h => h) (Or.inl ⟨by rfl, ?_⟩) ?_ ?_
  rotate_left
  ·intro w'
   go_simp
   with_reducible rfl
  rotate_left
  ·simp only [Act.put, Qp1, Qp2, Qp3, i64_w, i32_w]
   rfl
  refine pure_ (i := 9) (N := some 8) (v := ?_) (a' := ?_) (Qbz 11 1023) rfl rfl (Qao) (fun _ _ _ h => h) (Or.inl ⟨by rfl, ?_⟩) ?_ ?_
  rotate_left
  ·intro w'
   go_simp
   with_reducible rfl
  rotate_left
  ·simp only [Act.put, Qp1, Qp2, Qp3, i64_w, i32_w]
   rfl
  refine pure_ (i := 10) (N := some 9) (v := ?_) (a' := ?_) (Qbz 11 2047) rfl rfl (Qao) (fun _ _ _ h => h) (Or.inl ⟨by rfl, ?_⟩) ?_ ?_
  rotate_left
  ·intro w'
   go_simp
   with_reducible rfl
  rotate_left
  ·simp only [Act.put, Qp1, Qp2, Qp3, i64_w, i32_w]
   rfl
  refine done_ (done_of HT_.out (by kernel_rfl)) ?_
  try go_wp2
  have n0_ := Aside0.mk (Kd.R_drew HO523.out)
  have n1_ := Aside0.mk (Kd.R_drew HO526.out)
  have n2_ := Aside0.mk (Kd.R_drew HO529.out)
  have n3_ := Aside0.mk (Kd.R_drew HO532.out)
  have n4_ := Aside0.mk (Kd.R_drew HO535.out)
  have n5_ := Aside0.mk (Kd.R_drew HO541.out)
  have n6_ := Aside0.mk (blk_drew BK520.out)
  have n7_ := Aside0.mk (blk_drew BK537.out)
  have n8_ := Aside0.mk (below_drew1 HB.out)
  clear HO523
  clear HO526
  clear HO529
  clear HO532
  clear HO535
  clear HO541
  clear BK520
  clear BK537
  clear HB
  have HO523 := n0_
  have HO526 := n1_
  have HO529 := n2_
  have HO532 := n3_
  have HO535 := n4_
  have HO541 := n5_
  have BK520 := n6_
  have BK537 := n7_
  have HB := n8_
  clear n0_ n1_ n2_ n3_ n4_ n5_ n6_ n7_ n8_
  refine start_ (n := 12) (S := fun w' => w'.cell? ⟨gb520, 0, none⟩ = some (.slice A1_0 l1_0.length c1_0) ∧ w'.cell? ⟨gb520, 1, none⟩ = some (.slice A1_1 l1_1.length c1_1)) (ds := []) (Qbz 12 0) (by kernel_rfl) rfl rfl ⟨(blk_cell BK520.out 0).trans rfl, (blk_cell BK520.out 1).trans rfl⟩ (fun hHeld => ?_); refine with_tabW lampblacklaw02_WidthFew.tab5 lampblacklaw02_WidthFew.bits5 (fun HT_ HW_ => ?_)
  generalize w31.drew = w32 at HO523 HO526 HO529 HO532 HO535 HO541 BK520 BK537 HB hHeld ⊢
  refine pure_ (i := 0) (N := some 39) (v := ?_) (a' := ?_) (Qbz 12 1) rfl rfl (Qao) (fun _ _ _ h => h) (Or.inl ⟨by rfl, ?_⟩) ?_ ?_
  rotate_left
  ·intro w'
   go_simp
   with_reducible rfl
  rotate_left
  ·simp only [Act.put, Qp1, Qp2, Qp3, i64_w, i32_w]
   rfl
  refine take_ (i := 2) (N := some 41) (v := ?_) (a' := ?_) (Qbz 12 5) rfl rfl (take_ofW HT_.out HW_.out (by kernel_rfl)) (fun _ _ _ h => h) (Or.inl ⟨by rfl, ?_⟩) hHeld ?_ ?_
  rotate_left
  ·rintro w' ⟨s0, s1⟩
   go_simp
   with_reducible rfl
  rotate_left
  ·simp only [Act.put, Qp1, Qp2, Qp3, i64_w, i32_w]
   rfl
  refine one_ (i := 1) (N := some 40) (Qbz 12 7) rfl rfl (one_of HT_.out (by kernel_rfl)) (by decide) (fun K hK => ?_)
  refine goes_ Tryd.func19 (by kernel_rfl) rfl #[.slice A0 l0.length c0] (by rfl) rfl rfl (Qls) ?_
  with_reducible refine (lampblacklaw02_Few.calls _ _ l0 t545 _ ?side1 ?side2 A9.out).mono ?_
  (case side1 => exact Qsc (Kd.C_below HR0.out HB.out))
  (case side2 => exact HC0.out)
  rintro e w33 ⟨v546, rfl, ho0, hb⟩
  refine ⟨_, rfl, ?_⟩
  have n0_ := Aside0.mk (Kd.R_elder' (Qro HO523.out) (Kd.R_base ho0) hb)
  have n1_ := Aside0.mk (Kd.R_elder' (Qro HO526.out) (Kd.R_base ho0) hb)
  have n2_ := Aside0.mk (Kd.R_elder' (Qro HO529.out) (Kd.R_base ho0) hb)
  have n3_ := Aside0.mk (Kd.R_elder' (Qro HO532.out) (Kd.R_base ho0) hb)
  have n4_ := Aside0.mk (Kd.R_elder' (Qro HO535.out) (Kd.R_base ho0) hb)
  have n5_ := Aside0.mk (Kd.R_elder' (Qro HO541.out) (Kd.R_base ho0) hb)
  have n6_ := Aside0.mk (Kd.R_lower (Kd.R_new' (Kd.R_new' (Kd.R_new' (Kd.R_new' (Kd.R_new' (Kd.R_new' ho0 (Kd.R_lt (Qro HO523.out))) (Kd.R_lt (Qro HO526.out))) (Kd.R_lt (Qro HO529.out))) (Kd.R_lt (Qro HO532.out))) (Kd.R_lt (Qro HO535.out))) (Kd.R_lt (Qro HO541.out))) (below_size (Qah GE520.out GE537.out)))
  have n7_ := Aside0.mk (blk_below (g := gb520) (o := .cells #[.slice A1_0 l1_0.length c1_0, .slice A1_1 l1_1.length c1_1] 52 (0, 0)) (Qbl BK520.out) hb)
  have n8_ := Aside0.mk (blk_below (g := gb537) (o := .cells #[.slice Ao23 t530.length co23, .slice Ao25 t533.length co25] 53 (0, 0)) (Qbl BK537.out) hb)
  have n9_ := Aside0.mk (below_step (Qah GE520.out GE537.out) hb)
  clear HO523
  clear HO526
  clear HO529
  clear HO532
  clear HO535
  clear HO541
  clear BK520
  clear BK537
  clear HB
  have HO523 := n0_
  have HO526 := n1_
  have HO529 := n2_
  have HO532 := n3_
  have HO535 := n4_
  have HO541 := n5_
  have HO547 := n6_
  have BK520 := n7_
  have BK537 := n8_
  have HB := n9_
  clear n0_ n1_ n2_ n3_ n4_ n5_ n6_ n7_ n8_ n9_
  (try clear hb)
  (try clear hb2)
  (try clear hk)
  (try clear hi)
  (try clear ho0)
  refine hK.out _ _ ⟨(blk_cell BK520.out 0).trans rfl, (blk_cell BK520.out 1).trans rfl⟩ (fun hHeld => ?_)
  clear hK K
  refine norm_ (a' := ?_) ?_ ?_
  rotate_left
  ·show Act.put _ (some 40) _ = _
   simp only [Act.put, Qp1, Qp2, Qp3, i64_w, i32_w]
   rfl
  refine one_ (i := 3) (N := some 42) (Qbz 12 15) rfl rfl (one_of HT_.out (by kernel_rfl)) (by decide) (fun K hK => ?_)
  refine goes_ Tryd.func44 (by kernel_rfl) rfl #[.agg #[.slice A1_0 l1_0.length c1_0, .slice A1_1 l1_1.length c1_1]] (by rfl) rfl rfl (Qls) ?_
  with_reducible refine (lampblacklaw02_Of.calls _ _ l1_0 _ _ l1_1 t548 t551 _ ?side1 ?side2 ?side3 ?side4 A10.out).mono ?_
  (case side1 => exact Qsc (Kd.C_below HR1_0.out HB.out))
  (case side2 => exact HC1_0.out)
  (case side3 => exact Qsc (Kd.C_below HR1_1.out HB.out))
  (case side4 => exact HC1_1.out)
  rintro e w34 ⟨v549, v552, rfl, ho0, ho1, hb⟩
  refine ⟨_, rfl, ?_⟩
  have n0_ := Aside0.mk (Kd.R_mono (Kd.R_told (Kd.R_told (Kd.R_old (Qro HO523.out) hb) (Kd.R_base ho0)) (Kd.R_base ho1)) (fun _ h_ => h_.1))
  have n1_ := Aside0.mk (Kd.R_mono (Kd.R_told (Kd.R_told (Kd.R_old (Qro HO526.out) hb) (Kd.R_base ho0)) (Kd.R_base ho1)) (fun _ h_ => h_.1))
  have n2_ := Aside0.mk (Kd.R_mono (Kd.R_told (Kd.R_told (Kd.R_old (Qro HO529.out) hb) (Kd.R_base ho0)) (Kd.R_base ho1)) (fun _ h_ => h_.1))
  have n3_ := Aside0.mk (Kd.R_mono (Kd.R_told (Kd.R_told (Kd.R_old (Qro HO532.out) hb) (Kd.R_base ho0)) (Kd.R_base ho1)) (fun _ h_ => h_.1))
  have n4_ := Aside0.mk (Kd.R_mono (Kd.R_told (Kd.R_told (Kd.R_old (Qro HO535.out) hb) (Kd.R_base ho0)) (Kd.R_base ho1)) (fun _ h_ => h_.1))
  have n5_ := Aside0.mk (Kd.R_mono (Kd.R_told (Kd.R_told (Kd.R_old (Qro HO541.out) hb) (Kd.R_base ho0)) (Kd.R_base ho1)) (fun _ h_ => h_.1))
  have n6_ := Aside0.mk (Kd.R_mono (Kd.R_told (Kd.R_told (Kd.R_old (Qro HO547.out) hb) (Kd.R_base ho0)) (Kd.R_base ho1)) (fun _ h_ => h_.1))
  have n7_ := Aside0.mk (Kd.R_lower (Kd.R_new' (Kd.R_new' (Kd.R_new' (Kd.R_new' (Kd.R_new' (Kd.R_new' (Kd.R_new' ho0 (Kd.R_lt (Qro HO523.out))) (Kd.R_lt (Qro HO526.out))) (Kd.R_lt (Qro HO529.out))) (Kd.R_lt (Qro HO532.out))) (Kd.R_lt (Qro HO535.out))) (Kd.R_lt (Qro HO541.out))) (Kd.R_lt (Qro HO547.out))) (below_size (Qah GE520.out GE537.out)))
  have n8_ := Aside0.mk (Kd.R_lower (Kd.R_new' (Kd.R_new' (Kd.R_new' (Kd.R_new' (Kd.R_new' (Kd.R_new' (Kd.R_new' ho1 (Kd.R_lt (Qro HO523.out))) (Kd.R_lt (Qro HO526.out))) (Kd.R_lt (Qro HO529.out))) (Kd.R_lt (Qro HO532.out))) (Kd.R_lt (Qro HO535.out))) (Kd.R_lt (Qro HO541.out))) (Kd.R_lt (Qro HO547.out))) (below_size (Qah GE520.out GE537.out)))
  have n9_ := Aside0.mk (blk_below (g := gb520) (o := .cells #[.slice A1_0 l1_0.length c1_0, .slice A1_1 l1_1.length c1_1] 52 (0, 0)) (Qbl BK520.out) hb)
  have n10_ := Aside0.mk (blk_below (g := gb537) (o := .cells #[.slice Ao23 t530.length co23, .slice Ao25 t533.length co25] 53 (0, 0)) (Qbl BK537.out) hb)
  have n11_ := Aside0.mk (below_step (Qah GE520.out GE537.out) hb)
  clear HO523
  clear HO526
  clear HO529
  clear HO532
  clear HO535
  clear HO541
  clear HO547
  clear BK520
  clear BK537
  clear HB
  have HO523 := n0_
  have HO526 := n1_
  have HO529 := n2_
  have HO532 := n3_
  have HO535 := n4_
  have HO541 := n5_
  have HO547 := n6_
  have HO550 := n7_
  have HO553 := n8_
  have BK520 := n9_
  have BK537 := n10_
  have HB := n11_
  clear n0_ n1_ n2_ n3_ n4_ n5_ n6_ n7_ n8_ n9_ n10_ n11_
  (try clear hb)
  (try clear hb2)
  (try clear hk)
  (try clear hi)
  (try clear ho0)
  (try clear ho1)
  obtain ⟨Ao35, co35, eo35⟩ := Kd.R_slice HO547.out
  (first | subst eo35 | (injection eo35 with f1_ f2_ f3_; have f4_ := f1_.symm; have f5_ := f3_.symm; clear f1_ f2_ f3_; subst f4_; subst f5_))
  obtain ⟨Ao36, co36, eo36⟩ := Kd.R_slice HO550.out
  (first | subst eo36 | (injection eo36 with f1_ f2_ f3_; have f4_ := f1_.symm; have f5_ := f3_.symm; clear f1_ f2_ f3_; subst f4_; subst f5_))
  obtain ⟨Ao37, co37, eo37⟩ := Kd.R_slice HO553.out
  (first | subst eo37 | (injection eo37 with f1_ f2_ f3_; have f4_ := f1_.symm; have f5_ := f3_.symm; clear f1_ f2_ f3_; subst f4_; subst f5_))
  refine hK.out _ _ ⟨(blk_cell BK520.out 0).trans rfl, (blk_cell BK520.out 1).trans rfl⟩ (fun hHeld => ?_)
  clear hK K
  refine norm_ (a' := ?_) ?_ ?_
  rotate_left
  ·show Act.put _ (some 42) _ = _
   simp only [Act.put, Qp1, Qp2, Qp3, i64_w, i32_w]
   rfl
  refine one_ (i := 4) (N := some 43) (Qbz 12 31) rfl rfl (one_of HT_.out (by kernel_rfl)) (by decide) (fun K hK => ?_)
  refine goes_ Tryd.func50 (by kernel_rfl) rfl #[.slice Ao35 t545.length co35, .agg #[.slice Ao36 t548.length co36, .slice Ao37 t551.length co37]] (by rfl) rfl rfl (Qls) ?_
  with_reducible refine (width_Check.calls (hGL := (Qlg)) k _ _ t545 _ _ t548 _ _ t551 t554 t555 t556 _ ?side1 ?side2 ?side3 ?side4 ?side5 ?side6 A11.out).mono ?_
  (case side1 => exact Qsc (Kd.R_reads' HO547.out).2.2)
  (case side2 => exact (Kd.R_reads' HO547.out).2.1)
  (case side3 => exact Qsc (Kd.R_reads' HO550.out).2.2)
  (case side4 => exact (Kd.R_reads' HO550.out).2.1)
  (case side5 => exact Qsc (Kd.R_reads' HO553.out).2.2)
  (case side6 => exact (Kd.R_reads' HO553.out).2.1)
  rintro e w38 ⟨rfl, hb⟩
  refine ⟨_, rfl, ?_⟩
  have n0_ := Aside0.mk (Kd.R_below (Qro HO523.out) hb)
  have n1_ := Aside0.mk (Kd.R_below (Qro HO526.out) hb)
  have n2_ := Aside0.mk (Kd.R_below (Qro HO529.out) hb)
  have n3_ := Aside0.mk (Kd.R_below (Qro HO532.out) hb)
  have n4_ := Aside0.mk (Kd.R_below (Qro HO535.out) hb)
  have n5_ := Aside0.mk (Kd.R_below (Qro HO541.out) hb)
  have n6_ := Aside0.mk (Kd.R_below (Qro HO547.out) hb)
  have n7_ := Aside0.mk (Kd.R_below (Qro HO550.out) hb)
  have n8_ := Aside0.mk (Kd.R_below (Qro HO553.out) hb)
  have n9_ := Aside0.mk (blk_below (g := gb520) (o := .cells #[.slice A1_0 l1_0.length c1_0, .slice A1_1 l1_1.length c1_1] 52 (0, 0)) (Qbl BK520.out) hb)
  have n10_ := Aside0.mk (blk_below (g := gb537) (o := .cells #[.slice Ao23 t530.length co23, .slice Ao25 t533.length co25] 53 (0, 0)) (Qbl BK537.out) hb)
  have n11_ := Aside0.mk (below_step (Qah GE520.out GE537.out) hb)
  clear HO523
  clear HO526
  clear HO529
  clear HO532
  clear HO535
  clear HO541
  clear HO547
  clear HO550
  clear HO553
  clear BK520
  clear BK537
  clear HB
  have HO523 := n0_
  have HO526 := n1_
  have HO529 := n2_
  have HO532 := n3_
  have HO535 := n4_
  have HO541 := n5_
  have HO547 := n6_
  have HO550 := n7_
  have HO553 := n8_
  have BK520 := n9_
  have BK537 := n10_
  have HB := n11_
  clear n0_ n1_ n2_ n3_ n4_ n5_ n6_ n7_ n8_ n9_ n10_ n11_
  (try clear hb)
  (try clear hb2)
  (try clear hk)
  (try clear hi)
  refine hK.out _ _ ⟨(blk_cell BK520.out 0).trans rfl, (blk_cell BK520.out 1).trans rfl⟩ (fun hHeld => ?_)
  clear hK K
  refine norm_ (a' := ?_) ?_ ?_
  rotate_left
  ·show Act.put _ (some 43) _ = _
   simp only [Act.put, Qp1, Qp2, Qp3, i64_w, i32_w]
   rfl
  refine pure_ (i := 5) (N := some 38) (v := ?_) (a' := ?_) (Qbz 12 63) rfl rfl (Qao) (fun _ _ _ h => h) (Or.inl ⟨by rfl, ?_⟩) ?_ ?_
  rotate_left
  ·intro w'
   go_simp
   with_reducible rfl
  rotate_left
  ·simp only [Act.put, Qp1, Qp2, Qp3, i64_w, i32_w]
   rfl
  refine pure_ (i := 6) (N := some 44) (v := ?_) (a' := ?_) (Qbz 12 127) rfl rfl (Qao) (fun _ _ _ h => h) (Or.inl ⟨by rfl, ?_⟩) ?_ ?_
  rotate_left
  ·intro w'
   go_simp
   with_reducible rfl
  rotate_left
  ·simp only [Act.put, Qp1, Qp2, Qp3, i64_w, i32_w]
   rfl
  refine pure_ (i := 7) (N := some 45) (v := ?_) (a' := ?_) (Qbz 12 255) rfl rfl (Qao) (fun _ _ _ h => h) (Or.inl ⟨by rfl, ?_⟩) ?_ ?_
  rotate_left
  ·intro w'
   go_simp
   with_reducible rfl
  rotate_left
  ·simp only [Act.put, Qp1, Qp2, Qp3, i64_w, i32_w]
   rfl
  refine pure_ (i := 8) (N := some 46) (v := ?_) (a' := ?_) (Qbz 12 511) rfl rfl (Qao) (fun _ _ _ h => h) (Or.inl ⟨by rfl, ?_⟩) ?_ ?_
  rotate_left
  ·intro w'
   go_simp
   with_reducible rfl
  rotate_left
  ·simp only [Act.put, Qp1, Qp2, Qp3, i64_w, i32_w]
   rfl
  refine pure_ (i := 9) (N := some 10) (v := ?_) (a' := ?_) (Qbz 12 1023) rfl rfl (Qao) (fun _ _ _ h => h) (Or.inl ⟨by rfl, ?_⟩) ?_ ?_
  rotate_left
  ·intro w'
   go_simp
   with_reducible rfl
  rotate_left
  ·simp only [Act.put, Qp1, Qp2, Qp3, i64_w, i32_w]
   rfl
  refine pure_ (i := 10) (N := some 11) (v := ?_) (a' := ?_) (Qbz 12 2047) rfl rfl (Qao) (fun _ _ _ h => h) (Or.inl ⟨by rfl, ?_⟩) ?_ ?_
  rotate_left
  ·intro w'
   go_simp
   with_reducible rfl
  rotate_left
  ·simp only [Act.put, Qp1, Qp2, Qp3, i64_w, i32_w]
   rfl
  refine pure_ (i := 11) (N := some 12) (v := ?_) (a' := ?_) (Qbz 12 4095) rfl rfl (Qao) (fun _ _ _ h => h) (Or.inl ⟨by rfl, ?_⟩) ?_ ?_
  rotate_left
  ·intro w'
   go_simp
   with_reducible rfl
  rotate_left
  ·simp only [Act.put, Qp1, Qp2, Qp3, i64_w, i32_w]
   rfl
  refine done_ (done_of HT_.out (by kernel_rfl)) ?_
  go_upto_region 6 with (fail)
  go_cut [73] (fun v73 wc => ∃ (kq : Nat) (x73_11 : Bool), v73 = .bool x73_11 ∧ Aside0 (lampblacklaw02_WidthFew.j0 kq x73_11 l1_0 l1_1 t530 t533 = some r) ∧ Aside0 (kq ≤ k) ∧ Aside0 (Kd.R (Kd.int .i64) 3 wc w.heap.size (fun k_ => some k_ ≠ ((.slice Ao25 t533.length co25) : Value).ownBlock) (.slice Ao23 t530.length co23) t530) ∧ Aside0 (Kd.R (Kd.int .i64) 3 wc w.heap.size (fun k_ => some k_ ≠ ((.slice Ao23 t530.length co23) : Value).ownBlock) (.slice Ao25 t533.length co25) t533) ∧ Aside0 (wc.heap[gb520]? = some (.cells #[(.slice A1_0 l1_0.length c1_0), (.slice A1_1 l1_1.length c1_1)] 52 (0, 0))) ∧ Aside0 (wc.heap[gb537]? = some (.cells #[(.slice Ao23 t530.length co23), (.slice Ao25 t533.length co25)] 53 (0, 0))) ∧ Aside0 (Below w.heap.size w wc))
  case first =>
   have H := HC12.out
   clear HC12
   by_cases c39 : t544 = 0
   ·rw [if_pos c39] at H
    have c39b0 : (t544 == 0) = true := beq_iff_eq.mpr c39
    have c39b1 : (t544 != 0) = false := bne_eq_false_iff_eq.mpr c39
    clear c39
    (first | rw [c39b0] | (simp only [i64_w, i32_w]; rw [c39b0]) | skip)
    by_cases c40 : t556 = 0
    ·rw [if_pos c40] at H
     have c40b0 : (t556 == 0) = true := beq_iff_eq.mpr c40
     have c40b1 : (t556 != 0) = false := bne_eq_false_iff_eq.mpr c40
     clear c40
     by_cases c41 : t543 = true
     ·subst c41
      have H1 : (if t555 = true then (if t542 > t554 then (lampblacklaw02_WidthFew.j0 k true l1_0 l1_1 t530 t533) else (lampblacklaw02_WidthFew.j0 k (decide ((t530.length : Int) > (l0.length : Int))) l1_0 l1_1 t530 t533)) else (lampblacklaw02_WidthFew.j0 k true l1_0 l1_1 t530 t533)) = some r := by rw [if_pos rfl] at H; exact H
      clear H
      have H := H1
      clear H1
      by_cases c42 : t555 = true
      ·subst c42
       have H1 : (if t542 > t554 then (lampblacklaw02_WidthFew.j0 k true l1_0 l1_1 t530 t533) else (lampblacklaw02_WidthFew.j0 k (decide ((t530.length : Int) > (l0.length : Int))) l1_0 l1_1 t530 t533)) = some r := by rw [if_pos rfl] at H; exact H
       clear H
       have H := H1
       clear H1
       by_cases c43 : t542 > t554
       ·rw [if_pos c43] at H
        have c43b0 : decide (t554 < t542) = true := decide_eq_true c43
        clear c43
        have H' := Aside0.mk H
        clear H
        go_wp2
        go_meet
        case rel => exact ⟨_, (true), (Qrs), H', ⟨by first | omega | exact Nat.le_refl _⟩, ⟨by (with_reducible repeat (first | apply Kd.R_alloc | apply Kd.R_drewN | apply Kd.R_drew)); exact Kd.R_mono HO532.out (fun _ hk => hk.1.1.1.1.2.2.2)⟩, ⟨by (with_reducible repeat (first | apply Kd.R_alloc | apply Kd.R_drewN | apply Kd.R_drew)); exact Kd.R_mono HO535.out (fun _ hk => hk.1.1.1.1.2.2.2)⟩, ⟨by (with_reducible repeat (first | refine blk_drewN ?_ _ | refine blk_drew ?_ | refine blk_alloc ?_ _)); exact BK520.out⟩, ⟨by (with_reducible repeat (first | refine blk_drewN ?_ _ | refine blk_drew ?_ | refine blk_alloc ?_ _)); exact BK537.out⟩, ⟨by repeat (first | (with_reducible first | exact HB.out | apply below_alloc | apply pw_below_drewN | apply below_drew1 | refine below_set ?_ GE520.out | refine below_set ?_ GE537.out) | exact HB.out)⟩⟩
       ·rw [if_neg c43] at H
        have c43b0 : decide (t554 < t542) = false := decide_eq_false c43
        clear c43
        have H' := Aside0.mk H
        clear H
        have hnb44 := NB537_520.out
        have hnc44 := NB520_537.out
        have hcz45_0 : w38.cell? ⟨gb537, 0, none⟩ = some (.slice Ao23 t530.length co23) := (blk_cell BK537.out 0).trans rfl
        have hcz45_1 : w38.cell? ⟨gb537, 1, none⟩ = some (.slice Ao25 t533.length co25) := (blk_cell BK537.out 1).trans rfl
        have hfz45_0 := blk_frozen BK537.out 0
        have hfz45_1 := blk_frozen BK537.out 1
        go_wp2
        go_meet
        case rel => exact ⟨_, (decide ((t530.length : Int) > (l0.length : Int))), (Qrs), H', ⟨by first | omega | exact Nat.le_refl _⟩, ⟨by (with_reducible repeat (first | apply Kd.R_alloc | apply Kd.R_drewN | apply Kd.R_drew)); exact Kd.R_mono HO532.out (fun _ hk => hk.1.1.1.1.2.2.2)⟩, ⟨by (with_reducible repeat (first | apply Kd.R_alloc | apply Kd.R_drewN | apply Kd.R_drew)); exact Kd.R_mono HO535.out (fun _ hk => hk.1.1.1.1.2.2.2)⟩, ⟨by (with_reducible repeat (first | refine blk_drewN ?_ _ | refine blk_drew ?_ | refine blk_alloc ?_ _)); exact BK520.out⟩, ⟨by (with_reducible repeat (first | refine blk_drewN ?_ _ | refine blk_drew ?_ | refine blk_alloc ?_ _)); exact BK537.out⟩, ⟨by repeat (first | (with_reducible first | exact HB.out | apply below_alloc | apply pw_below_drewN | apply below_drew1 | refine below_set ?_ GE520.out | refine below_set ?_ GE537.out) | exact HB.out)⟩⟩
      ·replace c42 := Bool.eq_false_iff.mpr c42
       subst c42
       have H1 : (lampblacklaw02_WidthFew.j0 k true l1_0 l1_1 t530 t533) = some r := by rw [if_neg (show ¬ (false = true) by decide)] at H; exact H
       clear H
       have H := H1
       clear H1
       have H' := Aside0.mk H
       clear H
       go_wp2
       go_meet
       case rel => exact ⟨_, (true), (Qrs), H', ⟨by first | omega | exact Nat.le_refl _⟩, ⟨by (with_reducible repeat (first | apply Kd.R_alloc | apply Kd.R_drewN | apply Kd.R_drew)); exact Kd.R_mono HO532.out (fun _ hk => hk.1.1.1.1.2.2.2)⟩, ⟨by (with_reducible repeat (first | apply Kd.R_alloc | apply Kd.R_drewN | apply Kd.R_drew)); exact Kd.R_mono HO535.out (fun _ hk => hk.1.1.1.1.2.2.2)⟩, ⟨by (with_reducible repeat (first | refine blk_drewN ?_ _ | refine blk_drew ?_ | refine blk_alloc ?_ _)); exact BK520.out⟩, ⟨by (with_reducible repeat (first | refine blk_drewN ?_ _ | refine blk_drew ?_ | refine blk_alloc ?_ _)); exact BK537.out⟩, ⟨by repeat (first | (with_reducible first | exact HB.out | apply below_alloc | apply pw_below_drewN | apply below_drew1 | refine below_set ?_ GE520.out | refine below_set ?_ GE537.out) | exact HB.out)⟩⟩
     ·replace c41 := Bool.eq_false_iff.mpr c41
      subst c41
      have H1 : (lampblacklaw02_WidthFew.j0 k true l1_0 l1_1 t530 t533) = some r := by rw [if_neg (show ¬ (false = true) by decide)] at H; exact H
      clear H
      have H := H1
      clear H1
      have H' := Aside0.mk H
      clear H
      go_wp2
      go_meet
      case rel => exact ⟨_, (true), (Qrs), H', ⟨by first | omega | exact Nat.le_refl _⟩, ⟨by (with_reducible repeat (first | apply Kd.R_alloc | apply Kd.R_drewN | apply Kd.R_drew)); exact Kd.R_mono HO532.out (fun _ hk => hk.1.1.1.1.2.2.2)⟩, ⟨by (with_reducible repeat (first | apply Kd.R_alloc | apply Kd.R_drewN | apply Kd.R_drew)); exact Kd.R_mono HO535.out (fun _ hk => hk.1.1.1.1.2.2.2)⟩, ⟨by (with_reducible repeat (first | refine blk_drewN ?_ _ | refine blk_drew ?_ | refine blk_alloc ?_ _)); exact BK520.out⟩, ⟨by (with_reducible repeat (first | refine blk_drewN ?_ _ | refine blk_drew ?_ | refine blk_alloc ?_ _)); exact BK537.out⟩, ⟨by repeat (first | (with_reducible first | exact HB.out | apply below_alloc | apply pw_below_drewN | apply below_drew1 | refine below_set ?_ GE520.out | refine below_set ?_ GE537.out) | exact HB.out)⟩⟩
    ·rw [if_neg c40] at H
     have c40b0 : (t556 == 0) = false := beq_eq_false_iff_ne.mpr c40
     have c40b1 : (t556 != 0) = true := bne_iff_ne.mpr c40
     have H' := Aside0.mk H
     clear H
     go_wp2
     go_meet
     case rel => exact ⟨_, (true), (Qrs), H', ⟨by first | omega | exact Nat.le_refl _⟩, ⟨by (with_reducible repeat (first | apply Kd.R_alloc | apply Kd.R_drewN | apply Kd.R_drew)); exact Kd.R_mono HO532.out (fun _ hk => hk.1.1.1.1.2.2.2)⟩, ⟨by (with_reducible repeat (first | apply Kd.R_alloc | apply Kd.R_drewN | apply Kd.R_drew)); exact Kd.R_mono HO535.out (fun _ hk => hk.1.1.1.1.2.2.2)⟩, ⟨by (with_reducible repeat (first | refine blk_drewN ?_ _ | refine blk_drew ?_ | refine blk_alloc ?_ _)); exact BK520.out⟩, ⟨by (with_reducible repeat (first | refine blk_drewN ?_ _ | refine blk_drew ?_ | refine blk_alloc ?_ _)); exact BK537.out⟩, ⟨by repeat (first | (with_reducible first | exact HB.out | apply below_alloc | apply pw_below_drewN | apply below_drew1 | refine below_set ?_ GE520.out | refine below_set ?_ GE537.out) | exact HB.out)⟩⟩
   ·rw [if_neg c39] at H
    have c39b0 : (t544 == 0) = false := beq_eq_false_iff_ne.mpr c39
    have c39b1 : (t544 != 0) = true := bne_iff_ne.mpr c39
    (first | rw [c39b0] | (simp only [i64_w, i32_w]; rw [c39b0]) | skip)
    have H' := Aside0.mk H
    clear H
    go_wp2
    go_meet
    case rel => exact ⟨_, (true), (Qrs), H', ⟨by first | omega | exact Nat.le_refl _⟩, ⟨by (with_reducible repeat (first | apply Kd.R_alloc | apply Kd.R_drewN | apply Kd.R_drew)); exact Kd.R_mono HO532.out (fun _ hk => hk.1.1.1.1.2.2.2)⟩, ⟨by (with_reducible repeat (first | apply Kd.R_alloc | apply Kd.R_drewN | apply Kd.R_drew)); exact Kd.R_mono HO535.out (fun _ hk => hk.1.1.1.1.2.2.2)⟩, ⟨by (with_reducible repeat (first | refine blk_drewN ?_ _ | refine blk_drew ?_ | refine blk_alloc ?_ _)); exact BK520.out⟩, ⟨by (with_reducible repeat (first | refine blk_drewN ?_ _ | refine blk_drew ?_ | refine blk_alloc ?_ _)); exact BK537.out⟩, ⟨by repeat (first | (with_reducible first | exact HB.out | apply below_alloc | apply pw_below_drewN | apply below_drew1 | refine below_set ?_ GE520.out | refine below_set ?_ GE537.out) | exact HB.out)⟩⟩
  case rest =>
   clear HC12
   try clear c1
   try clear p2
   try clear c3
   try clear c4
   try clear c5
   try clear c19
   try clear c39
   try clear c39b0
   try clear c39b1
   try clear c40
   try clear c40b0
   try clear c40b1
   try clear c41
   try clear c42
   try clear c43
   try clear c43b0
   try clear c44
   try clear hcz45_0
   try clear hcz45_1
   try clear hfz45_0
   try clear hfz45_1
   obtain ⟨kq, x73_11, rfl, HA, HJ11, HO_538000, HO_538001, BK520, BK537, HB⟩ := hcut
   cases kq with
   | zero => exact absurd HA.out (by simp [lampblacklaw02_WidthFew.j0])
   | succ kj11 =>
    have H := HA.out
    clear HA
    simp only [lampblacklaw02_WidthFew.j0] at H
    by_cases c46 : x73_11 = true
    ·subst c46
     have H1 : (some false) = some r := by rw [if_pos rfl] at H; exact H
     clear H
     have H := H1
     clear H1
     obtain rfl := Option.some.inj H
     go_wp2
     go_ret
     exact ⟨by first | rfl | (simp [errW_none, errW_some] <;> rfl) | (simp [*, errW_none, errW_some] <;> rfl), by repeat (first | (with_reducible first | exact HB.out | apply below_alloc | apply pw_below_drewN | apply below_drew1 | refine below_set ?_ GE520.out | refine below_set ?_ GE537.out) | exact HB.out)⟩
    ·replace c46 := Bool.eq_false_iff.mpr c46
     subst c46
     have H1 : (lampblacklaw02_WidthFew.l0 kj11 t530 (t530.length : Int) 0 l1_0 l1_1) = some r := by rw [if_neg (show ¬ (false = true) by decide)] at H; exact H
     clear H
     have H := H1
     clear H1
     have H' := Aside0.mk H
     clear H
     have hnb47 := NB537_520.out
     have hnc47 := NB520_537.out
     have hcz48_0 : wc.cell? ⟨gb537, 0, none⟩ = some (.slice Ao23 t530.length co23) := (blk_cell BK537.out 0).trans rfl
     have hcz48_1 : wc.cell? ⟨gb537, 1, none⟩ = some (.slice Ao25 t533.length co25) := (blk_cell BK537.out 1).trans rfl
     have hfz48_0 := blk_frozen BK537.out 0
     have hfz48_1 := blk_frozen BK537.out 1
     go_wp2
     go_loopg [77] kj11 (fun kq v77 w' => ∃ (x77_2 : Int), v77 = .int .i64 x77_2 ∧ Aside0 (lampblacklaw02_WidthFew.l0 kq t530 (t530.length : Int) x77_2 l1_0 l1_1 = some r) ∧ Aside0 (kq ≤ kj11) ∧ Aside0 (Kd.R (Kd.int .i64) 3 w' w.heap.size (fun k_ => some k_ ≠ ((.slice Ao25 t533.length co25) : Value).ownBlock) (.slice Ao23 t530.length co23) t530) ∧ Aside0 (Kd.R (Kd.int .i64) 3 w' w.heap.size (fun k_ => some k_ ≠ ((.slice Ao25 t533.length co25) : Value).ownBlock) (.slice Ao23 t530.length co23) t530) ∧ Aside0 (Kd.R (Kd.int .i64) 3 w' w.heap.size (fun k_ => some k_ ≠ ((.slice Ao23 t530.length co23) : Value).ownBlock ∧ some k_ ≠ ((.slice Ao23 t530.length co23) : Value).ownBlock) (.slice Ao25 t533.length co25) t533) ∧ Aside0 (w'.heap[gb520]? = some (.cells #[(.slice A1_0 l1_0.length c1_0), (.slice A1_1 l1_1.length c1_1)] 52 (0, 0))) ∧ Aside0 (w'.heap[gb537]? = some (.cells #[(.slice Ao23 t530.length co23), (.slice Ao25 t533.length co25)] 53 (0, 0))) ∧ Aside0 (Below w.heap.size w w'))
     case atStart => exact ⟨(0), (Qrs), H', ⟨Nat.le_refl _⟩, ⟨by (with_reducible repeat (first | apply Kd.R_alloc | apply Kd.R_drewN | apply Kd.R_drew)); exact HO_538000.out⟩, ⟨by (with_reducible repeat (first | apply Kd.R_alloc | apply Kd.R_drewN | apply Kd.R_drew)); exact HO_538000.out⟩, ⟨by (with_reducible repeat (first | apply Kd.R_alloc | apply Kd.R_drewN | apply Kd.R_drew)); exact Kd.R_mono HO_538001.out (fun _ hk => ⟨hk, hk⟩)⟩, ⟨by (with_reducible repeat (first | refine blk_drewN ?_ _ | refine blk_drew ?_ | refine blk_alloc ?_ _)); exact BK520.out⟩, ⟨by (with_reducible repeat (first | refine blk_drewN ?_ _ | refine blk_drew ?_ | refine blk_alloc ?_ _)); exact BK537.out⟩, ⟨by repeat (first | (with_reducible first | exact HB.out | apply below_alloc | apply pw_below_drewN | apply below_drew1 | refine below_set ?_ GE520.out | refine below_set ?_ GE537.out) | exact HB.out)⟩⟩
     case round =>
      clear H'
      try clear c1
      try clear p2
      try clear c3
      try clear c4
      try clear c5
      try clear c19
      try clear c39
      try clear c39b0
      try clear c39b1
      try clear c40
      try clear c40b0
      try clear c40b1
      try clear c41
      try clear c42
      try clear c43
      try clear c43b0
      try clear c44
      try clear c46
      try clear c47
      try clear hcz45_0
      try clear hcz45_1
      try clear hcz48_0
      try clear hcz48_1
      try clear hfz45_0
      try clear hfz45_1
      try clear hfz48_0
      try clear hfz48_1
      try clear p2
      obtain ⟨x77_2, rfl, HA, HK2, HO_75, HO_538000, HO_538001, BK520, BK537, HB⟩ := hrel
      cases gk with
      | zero => exact absurd HA.out (by simp [lampblacklaw02_WidthFew.l0])
      | succ k2 =>
       have H := HA.out
       clear HA
       simp only [lampblacklaw02_WidthFew.l0] at H
       by_cases c49 : x77_2 < (t530.length : Int)
       ·rw [if_pos c49] at H
        have c49b0 : decide (x77_2 < (t530.length : Int)) = true := decide_eq_true c49
        clear c49
        by_cases c50 : 0 ≤ x77_2
        ·rw [if_pos c50] at H
         have c50b0 : decide (0 ≤ x77_2) = true := decide_eq_true c50
         clear c50
         by_cases c51 : x77_2 < (t530.length : Int)
         ·rw [if_pos c51] at H
          have c51b0 : decide (x77_2 < (t530.length : Int)) = true := decide_eq_true c51
          clear c51
          replace H := Option.bind_eq_some_iff.mp H
          obtain ⟨t558, A520, H⟩ := H
          replace H : (if t558 = true then (lampblacklaw02_WidthFew.l0 k2 t530 (t530.length : Int) (wrap64 (x77_2 + 1)) l1_0 l1_1) else (some false)) = some r := H
          have A52 := Aside0.mk A520
          clear A520
          by_cases c53 : t558 = true
          ·subst c53
           have H1 : (lampblacklaw02_WidthFew.l0 k2 t530 (t530.length : Int) (wrap64 (x77_2 + 1)) l1_0 l1_1) = some r := by rw [if_pos rfl] at H; exact H
           clear H
           have H := H1
           clear H1
           have H' := Aside0.mk H
           clear H
           have p557 : 0 ≤ (x77_2 : Int) := of_decide_eq_true (Qas)
           have q557 : x77_2 < (t530.length : Int) := of_decide_eq_true (Qas)
           obtain ⟨ad557, e557, hx557_0⟩ := Kd.at_int (Kd.R_reads' HO_75.out).2.2 x77_2 p557 q557
           cases e557
           replace p557 := eq_true p557
           replace q557 := eq_true q557
           have hnb54 := NB520_537.out
           have hnc54 := NB537_520.out
           have hcz55_0 : wr.cell? ⟨gb520, 0, none⟩ = some (.slice A1_0 l1_0.length c1_0) := (blk_cell BK520.out 0).trans rfl
           have hcz55_1 : wr.cell? ⟨gb520, 1, none⟩ = some (.slice A1_1 l1_1.length c1_1) := (blk_cell BK520.out 1).trans rfl
           have hfz55_0 := blk_frozen BK520.out 0
           have hfz55_1 := blk_frozen BK520.out 1
           go_wp2_with (first | ((with_reducible refine gate_callee (f := 51) rfl ?_); refine goesL_ (some 84) rfl rfl Tryd.func51 (by kernel_rfl) rfl #[.slice A1_0 l1_0.length c1_0, .int .i64 (rd t530 x77_2)] rfl (Qls) ?_; (with_reducible refine (slices_Contains_int_int.calls k2 _ _ l1_0 (rd t530 x77_2) true _ ?side1 ?side2 A52.out).mono ?_); (case side1 => exact Qsc (Kd.C_below HR1_0.out HB.out)); (case side2 => exact HC1_0.out); rintro e w' ⟨rfl, ⟨nd, rfl⟩⟩; refine ⟨_, rfl, ?_⟩))
           go_roundg k2
           case measure => have := HJ11.out; have := HK2.out; omega
           case rel => exact ⟨(wrap64 (x77_2 + 1)), (Qrs), H', ⟨by have := HJ11.out; have := HK2.out; omega⟩, ⟨by (with_reducible repeat (first | apply Kd.R_alloc | apply Kd.R_drewN | apply Kd.R_drew)); exact HO_75.out⟩, ⟨by (with_reducible repeat (first | apply Kd.R_alloc | apply Kd.R_drewN | apply Kd.R_drew)); exact HO_538000.out⟩, ⟨by (with_reducible repeat (first | apply Kd.R_alloc | apply Kd.R_drewN | apply Kd.R_drew)); exact HO_538001.out⟩, ⟨by (with_reducible repeat (first | refine blk_drewN ?_ _ | refine blk_drew ?_ | refine blk_alloc ?_ _)); exact BK520.out⟩, ⟨by (with_reducible repeat (first | refine blk_drewN ?_ _ | refine blk_drew ?_ | refine blk_alloc ?_ _)); exact BK537.out⟩, ⟨by repeat (first | (with_reducible first | exact HB.out | apply below_alloc | apply pw_below_drewN | apply below_drew1 | refine below_set ?_ GE520.out | refine below_set ?_ GE537.out) | exact HB.out)⟩⟩
          ·replace c53 := Bool.eq_false_iff.mpr c53
           subst c53
           have H1 : (some false) = some r := by rw [if_neg (show ¬ (false = true) by decide)] at H; exact H
           clear H
           have H := H1
           clear H1
           obtain rfl := Option.some.inj H
           have p557 : 0 ≤ (x77_2 : Int) := of_decide_eq_true (Qas)
           have q557 : x77_2 < (t530.length : Int) := of_decide_eq_true (Qas)
           obtain ⟨ad557, e557, hx557_0⟩ := Kd.at_int (Kd.R_reads' HO_75.out).2.2 x77_2 p557 q557
           cases e557
           replace p557 := eq_true p557
           replace q557 := eq_true q557
           have hnb56 := NB520_537.out
           have hnc56 := NB537_520.out
           have hcz57_0 : wr.cell? ⟨gb520, 0, none⟩ = some (.slice A1_0 l1_0.length c1_0) := (blk_cell BK520.out 0).trans rfl
           have hcz57_1 : wr.cell? ⟨gb520, 1, none⟩ = some (.slice A1_1 l1_1.length c1_1) := (blk_cell BK520.out 1).trans rfl
           have hfz57_0 := blk_frozen BK520.out 0
           have hfz57_1 := blk_frozen BK520.out 1
           go_wp2_with (first | ((with_reducible refine gate_callee (f := 51) rfl ?_); refine goesL_ (some 84) rfl rfl Tryd.func51 (by kernel_rfl) rfl #[.slice A1_0 l1_0.length c1_0, .int .i64 (rd t530 x77_2)] rfl (Qls) ?_; (with_reducible refine (slices_Contains_int_int.calls k2 _ _ l1_0 (rd t530 x77_2) false _ ?side1 ?side2 A52.out).mono ?_); (case side1 => exact Qsc (Kd.C_below HR1_0.out HB.out)); (case side2 => exact HC1_0.out); rintro e w' ⟨rfl, ⟨nd, rfl⟩⟩; refine ⟨_, rfl, ?_⟩))
           go_ret
           exact ⟨by first | rfl | (simp [errW_none, errW_some] <;> rfl) | (simp [*, errW_none, errW_some] <;> rfl), by repeat (first | (with_reducible first | exact HB.out | apply below_alloc | apply pw_below_drewN | apply below_drew1 | refine below_set ?_ GE520.out | refine below_set ?_ GE537.out) | exact HB.out)⟩
         ·rw [if_neg c51] at H
          exact absurd H (by simp)
        ·rw [if_neg c50] at H
         exact absurd H (by simp)
       ·rw [if_neg c49] at H
        have c49b0 : decide (x77_2 < (t530.length : Int)) = false := decide_eq_false c49
        clear c49
        replace H := Option.bind_eq_some_iff.mp H
        obtain ⟨t559, A580, H⟩ := H
        replace H : (some t559) = some r := H
        have A58 := Aside0.mk A580
        clear A580
        obtain rfl := Option.some.inj H
        go_wp2_with (first | ((with_reducible refine gate_callee (f := 20) rfl ?_); refine goesL_ (some 87) rfl rfl Tryd.func20 (by kernel_rfl) rfl #[] rfl (Qls) ?_; (with_reducible refine (lampblacklaw02_awake.calls (hGL := (by repeat (first | (with_reducible exact HGL.out) | (with_reducible exact GL_below HGL.out HB.out) | (refine GL_below HGL.out (Qah GE520.out GE537.out)) | (with_reducible refine GL_alloc ?_ _) | (with_reducible refine GL_drewN ?_ _) | (with_reducible refine GL_drew ?_)))) k2  t559 _ A58.out).mono ?_); rintro e w59 ⟨rfl, hb⟩; refine ⟨_, rfl, ?_⟩; have n0_ := Aside0.mk (Kd.R_below (Qro HO_75.out) hb); have n1_ := Aside0.mk (Kd.R_below (Qro HO_538000.out) hb); have n2_ := Aside0.mk (Kd.R_below (Qro HO_538001.out) hb); have n3_ := Aside0.mk (blk_below (g := gb520) (o := .cells #[.slice A1_0 l1_0.length c1_0, .slice A1_1 l1_1.length c1_1] 52 (0, 0)) (Qbl BK520.out) hb); have n4_ := Aside0.mk (blk_below (g := gb537) (o := .cells #[.slice Ao23 t530.length co23, .slice Ao25 t533.length co25] 53 (0, 0)) (Qbl BK537.out) hb); have n5_ := Aside0.mk (below_step (Qah GE520.out GE537.out) hb); clear HO_75; clear HO_538000; clear HO_538001; clear BK520; clear BK537; clear HB; have HO_75 := n0_; have HO_538000 := n1_; have HO_538001 := n2_; have BK520 := n3_; have BK537 := n4_; have HB := n5_; clear n0_ n1_ n2_ n3_ n4_ n5_; (try clear hb); (try clear hb2); (try clear hk); (try clear hi)))
        go_ret
        exact ⟨by first | rfl | (simp [errW_none, errW_some] <;> rfl) | (simp [*, errW_none, errW_some] <;> rfl), by repeat (first | (with_reducible first | exact HB.out | apply below_alloc | apply pw_below_drewN | apply below_drew1 | refine below_set ?_ GE520.out | refine below_set ?_ GE537.out) | exact HB.out)⟩
 ·rw [if_neg c6] at H
  have c6b0 : (t536 == 0) = false := beq_eq_false_iff_ne.mpr c6
  have c6b1 : (t536 != 0) = true := bne_iff_ne.mpr c6
  by_cases c60 : t536 = 2
  ·rw [if_pos c60] at H
   have c60b0 : (t536 == 2) = true := beq_iff_eq.mpr c60
   have c60b1 : (t536 != 2) = false := bne_eq_false_iff_eq.mpr c60
   clear c60
   replace H := Option.bind_eq_some_iff.mp H
   obtain ⟨t538, A610, H⟩ := H
   replace H : (some t538) = some r := H
   have A61 := Aside0.mk A610
   clear A610
   clear HRT
   obtain rfl := Option.some.inj H
   go_enter Tryd.func11, Tryd.ntmps11
   try go_wp2_with (first | ((with_reducible refine gate_dst (N := 3) rfl ?_); (try (refine gate_guard (by rfl) ?_; dsimp only)); refine box_event ?hg (N := 3) ?hd (cs := #[.slice A1_0 l1_0.length c1_0, .slice A1_1 l1_1.length c1_1]) (t := 52) ?hr ?_; (case hd => rfl); (case hg => rfl); (case hr => first | (go_simp; done) | (go_simp; rfl)); intro gb520 hg w62 hbox hb; have n0_ := Aside0.mk (below_step (Qaw) hb); have n1_ := Aside0.mk (hbox); have n2_ := Aside0.mk ((by rw [hg]; exact (below_size (Qaw)) : w.heap.size ≤ gb520)); have n3_ := Aside0.mk ((by rw [hg]; exact (below_size (Qaw)) : w.heap.size ≤ gb520)); clear HB; have HB := n0_; have BK520 := n1_; have GW520 := n2_; have GE520 := n3_; clear n0_ n1_ n2_ n3_; clear hb hbox hg))
   have n0_ := Aside0.mk (blk_drew BK520.out)
   have n1_ := Aside0.mk (below_drew1 HB.out)
   clear BK520
   clear HB
   have BK520 := n0_
   have HB := n1_
   clear n0_ n1_
   refine start_ (n := 11) (S := fun w' => w'.cell? ⟨gb520, 0, none⟩ = some (.slice A1_0 l1_0.length c1_0) ∧ w'.cell? ⟨gb520, 1, none⟩ = some (.slice A1_1 l1_1.length c1_1)) (ds := []) (Qbz 11 0) (by kernel_rfl) rfl rfl ⟨(blk_cell BK520.out 0).trans rfl, (blk_cell BK520.out 1).trans rfl⟩ (fun hHeld => ?_); refine with_tabW lampblacklaw02_WidthFew.tab1 lampblacklaw02_WidthFew.bits1 (fun HT_ HW_ => ?_)
   generalize w62.drew = w63 at BK520 HB hHeld ⊢
   refine pure_ (i := 0) (N := some 16) (v := ?_) (a' := ?_) (Qbz 11 1) rfl rfl (Qao) (fun _ _ _ h => h) (Or.inl ⟨by rfl, ?_⟩) ?_ ?_
   rotate_left
   ·intro w'
    go_simp
    with_reducible rfl
   rotate_left
   ·simp only [Act.put, Qp1, Qp2, Qp3, i64_w, i32_w]
    rfl
   refine take_ (i := 2) (N := some 18) (v := ?_) (a' := ?_) (Qbz 11 5) rfl rfl (take_ofW HT_.out HW_.out (by kernel_rfl)) (fun _ _ _ h => h) (Or.inl ⟨by rfl, ?_⟩) hHeld ?_ ?_
   rotate_left
   ·rintro w' ⟨s0, s1⟩
    go_simp
    with_reducible rfl
   rotate_left
   ·simp only [Act.put, Qp1, Qp2, Qp3, i64_w, i32_w]
    rfl
   refine join_ (σ := Value × Value × Value × Value × Value × Nat) 2 (Qbz 11 511) (fun s_ => [(17, s_.1), (19, .agg #[s_.2.1, s_.2.2.1]), (20, .tuple #[.agg #[s_.2.2.2.1, s_.2.2.2.2.1], .int .i64 t536]), (5, .pointer (some ⟨s_.2.2.2.2.2, 0, none⟩)), (15, .tuple #[.agg #[s_.2.2.2.1, s_.2.2.2.2.1], .int .i64 t536]), (21, .agg #[s_.2.2.2.1, s_.2.2.2.2.1]), (22, .int .i64 t536)]) (fun s_ w' => (w'.cell? ⟨gb520, 0, none⟩ = some (.slice A1_0 l1_0.length c1_0) ∧ w'.cell? ⟨gb520, 1, none⟩ = some (.slice A1_1 l1_1.length c1_1)) ∧ (Kd.R (Kd.int .i64) 3 w' w.heap.size (fun k_ => some k_ ≠ (s_.2.1 : Value).ownBlock ∧ some k_ ≠ (s_.2.2.1 : Value).ownBlock ∧ some k_ ≠ (s_.2.2.2.1 : Value).ownBlock ∧ some k_ ≠ (s_.2.2.2.2.1 : Value).ownBlock) s_.1 t521) ∧ (Kd.R (Kd.int .i64) 3 w' w.heap.size (fun k_ => some k_ ≠ (s_.1 : Value).ownBlock ∧ some k_ ≠ (s_.2.2.1 : Value).ownBlock ∧ some k_ ≠ (s_.2.2.2.1 : Value).ownBlock ∧ some k_ ≠ (s_.2.2.2.2.1 : Value).ownBlock) s_.2.1 t524) ∧ (Kd.R (Kd.int .i64) 3 w' w.heap.size (fun k_ => some k_ ≠ (s_.1 : Value).ownBlock ∧ some k_ ≠ (s_.2.1 : Value).ownBlock ∧ some k_ ≠ (s_.2.2.2.1 : Value).ownBlock ∧ some k_ ≠ (s_.2.2.2.2.1 : Value).ownBlock) s_.2.2.1 t527) ∧ (Kd.R (Kd.int .i64) 3 w' w.heap.size (fun k_ => some k_ ≠ (s_.1 : Value).ownBlock ∧ some k_ ≠ (s_.2.1 : Value).ownBlock ∧ some k_ ≠ (s_.2.2.1 : Value).ownBlock ∧ some k_ ≠ (s_.2.2.2.2.1 : Value).ownBlock) s_.2.2.2.1 t530) ∧ (Kd.R (Kd.int .i64) 3 w' w.heap.size (fun k_ => some k_ ≠ (s_.1 : Value).ownBlock ∧ some k_ ≠ (s_.2.1 : Value).ownBlock ∧ some k_ ≠ (s_.2.2.1 : Value).ownBlock ∧ some k_ ≠ (s_.2.2.2.1 : Value).ownBlock) s_.2.2.2.2.1 t533) ∧ (w'.heap[gb520]? = some (.cells #[.slice A1_0 l1_0.length c1_0, .slice A1_1 l1_1.length c1_1] 52 (0, 0))) ∧ (w'.heap[s_.2.2.2.2.2]? = some (.cells #[.slice none 0 0, .slice none 0 0] 53 (0, 0))) ∧ (w.heap.size ≤ s_.2.2.2.2.2) ∧ (w.heap.size ≤ s_.2.2.2.2.2) ∧ (gb520 ≠ s_.2.2.2.2.2) ∧ (s_.2.2.2.2.2 ≠ gb520) ∧ (Below w.heap.size w w')) ?_ ?_
   rotate_left
   ·intro hCont
    refine two_ (i := 1) (j := 8) (Ni := some 17) (Nj := some 5) (Qbz 11 7) (Qbz 11 261) rfl rfl rfl rfl (two_of HT_.out (by kernel_rfl)) (by decide) (by decide) (fun K hK => ?_) (fun K hK => ?_)
    ·skip
     refine goes_ Tryd.func19 (by kernel_rfl) rfl #[.slice A0 l0.length c0] (by rfl) rfl rfl (Qls) ?_
     with_reducible refine (lampblacklaw02_Few.calls _ _ l0 t521 _ ?side1 ?side2 A3.out).mono ?_
     (case side1 => exact Qsc (Kd.C_below HR0.out HB.out))
     (case side2 => exact HC0.out)
     rintro e w64 ⟨v522, rfl, ho0, hb⟩
     refine ⟨_, rfl, ?_⟩
     have n0_ := Aside0.mk (Kd.R_lower ho0 (below_size (Qag GE520.out)))
     have n1_ := Aside0.mk (blk_below (g := gb520) (o := .cells #[.slice A1_0 l1_0.length c1_0, .slice A1_1 l1_1.length c1_1] 52 (0, 0)) (Qbl BK520.out) hb)
     have n2_ := Aside0.mk (below_step (Qag GE520.out) hb)
     clear BK520
     clear HB
     have HO523 := n0_
     have BK520 := n1_
     have HB := n2_
     clear n0_ n1_ n2_
     (try clear hb)
     (try clear hb2)
     (try clear hk)
     (try clear hi)
     (try clear ho0)
     refine hK.out _ _ ⟨(blk_cell BK520.out 0).trans rfl, (blk_cell BK520.out 1).trans rfl⟩ (fun hHeld => ?_)
     clear hK K
     refine norm_ (a' := ?_) ?_ ?_
     rotate_left
     ·show Act.put _ (some 17) _ = _
      simp only [Act.put, Qp1, Qp2, Qp3, i64_w, i32_w]
      rfl
     refine two_ (i := 3) (j := 8) (Ni := some 19) (Nj := some 5) (Qbz 11 15) (Qbz 11 263) rfl rfl rfl rfl (two_of HT_.out (by kernel_rfl)) (by decide) (by decide) (fun K hK => ?_) (fun K hK => ?_)
     ·skip
      refine goes_ Tryd.func44 (by kernel_rfl) rfl #[.agg #[.slice A1_0 l1_0.length c1_0, .slice A1_1 l1_1.length c1_1]] (by rfl) rfl rfl (Qls) ?_
      with_reducible refine (lampblacklaw02_Of.calls _ _ l1_0 _ _ l1_1 t524 t527 _ ?side1 ?side2 ?side3 ?side4 A4.out).mono ?_
      (case side1 => exact Qsc (Kd.C_below HR1_0.out HB.out))
      (case side2 => exact HC1_0.out)
      (case side3 => exact Qsc (Kd.C_below HR1_1.out HB.out))
      (case side4 => exact HC1_1.out)
      rintro e w65 ⟨v525, v528, rfl, ho0, ho1, hb⟩
      refine ⟨_, rfl, ?_⟩
      have n0_ := Aside0.mk (Kd.R_mono (Kd.R_told (Kd.R_told (Kd.R_old (Qro HO523.out) hb) (Kd.R_base ho0)) (Kd.R_base ho1)) (fun _ h_ => h_.1))
      have n1_ := Aside0.mk (Kd.R_lower (Kd.R_new' ho0 (Kd.R_lt (Qro HO523.out))) (below_size (Qag GE520.out)))
      have n2_ := Aside0.mk (Kd.R_lower (Kd.R_new' ho1 (Kd.R_lt (Qro HO523.out))) (below_size (Qag GE520.out)))
      have n3_ := Aside0.mk (blk_below (g := gb520) (o := .cells #[.slice A1_0 l1_0.length c1_0, .slice A1_1 l1_1.length c1_1] 52 (0, 0)) (Qbl BK520.out) hb)
      have n4_ := Aside0.mk (below_step (Qag GE520.out) hb)
      clear HO523
      clear BK520
      clear HB
      have HO523 := n0_
      have HO526 := n1_
      have HO529 := n2_
      have BK520 := n3_
      have HB := n4_
      clear n0_ n1_ n2_ n3_ n4_
      (try clear hb)
      (try clear hb2)
      (try clear hk)
      (try clear hi)
      (try clear ho0)
      (try clear ho1)
      obtain ⟨Ao66, co66, eo66⟩ := Kd.R_slice HO523.out
      (first | subst eo66 | (injection eo66 with f1_ f2_ f3_; have f4_ := f1_.symm; have f5_ := f3_.symm; clear f1_ f2_ f3_; subst f4_; subst f5_))
      obtain ⟨Ao67, co67, eo67⟩ := Kd.R_slice HO526.out
      (first | subst eo67 | (injection eo67 with f1_ f2_ f3_; have f4_ := f1_.symm; have f5_ := f3_.symm; clear f1_ f2_ f3_; subst f4_; subst f5_))
      obtain ⟨Ao68, co68, eo68⟩ := Kd.R_slice HO529.out
      (first | subst eo68 | (injection eo68 with f1_ f2_ f3_; have f4_ := f1_.symm; have f5_ := f3_.symm; clear f1_ f2_ f3_; subst f4_; subst f5_))
      refine hK.out _ _ ⟨(blk_cell BK520.out 0).trans rfl, (blk_cell BK520.out 1).trans rfl⟩ (fun hHeld => ?_)
      clear hK K
      refine norm_ (a' := ?_) ?_ ?_
      rotate_left
      ·show Act.put _ (some 19) _ = _
       simp only [Act.put, Qp1, Qp2, Qp3, i64_w, i32_w]
       rfl
      refine two_ (i := 4) (j := 8) (Ni := some 20) (Nj := some 5) (Qbz 11 31) (Qbz 11 271) rfl rfl rfl rfl (two_of HT_.out (by kernel_rfl)) (by decide) (by decide) (fun K hK => ?_) (fun K hK => ?_)
      ·skip
       refine goes_ Tryd.func43 (by kernel_rfl) rfl #[.slice Ao66 t521.length co66, .agg #[.slice Ao67 t524.length co67, .slice Ao68 t527.length co68]] (by rfl) rfl rfl (Qls) ?_
       with_reducible refine (width_Narrow.calls (hGL := (Qlg)) _ _ t521 _ _ t524 _ _ t527 t530 t533 t536 _ ?side1 ?side2 ?side3 ?side4 ?side5 ?side6 A5.out).mono ?_
       (case side1 => exact Qsc (Kd.R_reads' HO523.out).2.2)
       (case side2 => exact (Kd.R_reads' HO523.out).2.1)
       (case side3 => exact Qsc (Kd.R_reads' HO526.out).2.2)
       (case side4 => exact (Kd.R_reads' HO526.out).2.1)
       (case side5 => exact Qsc (Kd.R_reads' HO529.out).2.2)
       (case side6 => exact (Kd.R_reads' HO529.out).2.1)
       rintro e w69 ⟨v531, v534, rfl, ho0, ho1, hb⟩
       refine ⟨_, rfl, ?_⟩
       have n0_ := Aside0.mk (Kd.R_mono (Kd.R_told (Kd.R_told (Kd.R_old (Qro HO523.out) hb) (Kd.R_base ho0)) (Kd.R_base ho1)) (fun _ h_ => h_.1))
       have n1_ := Aside0.mk (Kd.R_mono (Kd.R_told (Kd.R_told (Kd.R_old (Qro HO526.out) hb) (Kd.R_base ho0)) (Kd.R_base ho1)) (fun _ h_ => h_.1))
       have n2_ := Aside0.mk (Kd.R_mono (Kd.R_told (Kd.R_told (Kd.R_old (Qro HO529.out) hb) (Kd.R_base ho0)) (Kd.R_base ho1)) (fun _ h_ => h_.1))
       have n3_ := Aside0.mk (Kd.R_lower (Kd.R_new' (Kd.R_new' (Kd.R_new' ho0 (Kd.R_lt (Qro HO523.out))) (Kd.R_lt (Qro HO526.out))) (Kd.R_lt (Qro HO529.out))) (below_size (Qag GE520.out)))
       have n4_ := Aside0.mk (Kd.R_lower (Kd.R_new' (Kd.R_new' (Kd.R_new' ho1 (Kd.R_lt (Qro HO523.out))) (Kd.R_lt (Qro HO526.out))) (Kd.R_lt (Qro HO529.out))) (below_size (Qag GE520.out)))
       have n5_ := Aside0.mk (blk_below (g := gb520) (o := .cells #[.slice A1_0 l1_0.length c1_0, .slice A1_1 l1_1.length c1_1] 52 (0, 0)) (Qbl BK520.out) hb)
       have n6_ := Aside0.mk (below_step (Qag GE520.out) hb)
       clear HO523
       clear HO526
       clear HO529
       clear BK520
       clear HB
       have HO523 := n0_
       have HO526 := n1_
       have HO529 := n2_
       have HO532 := n3_
       have HO535 := n4_
       have BK520 := n5_
       have HB := n6_
       clear n0_ n1_ n2_ n3_ n4_ n5_ n6_
       (try clear hb)
       (try clear hb2)
       (try clear hk)
       (try clear hi)
       (try clear ho0)
       (try clear ho1)
       refine hK.out _ _ ⟨(blk_cell BK520.out 0).trans rfl, (blk_cell BK520.out 1).trans rfl⟩ (fun hHeld => ?_)
       clear hK K
       refine norm_ (a' := ?_) ?_ ?_
       rotate_left
       ·show Act.put _ (some 20) _ = _
        simp only [Act.put, Qp1, Qp2, Qp3, i64_w, i32_w]
        rfl
       refine pure_ (i := 5) (N := some 15) (v := ?_) (a' := ?_) (Qbz 11 63) rfl rfl (Qao) (fun _ _ _ h => h) (Or.inl ⟨by rfl, ?_⟩) ?_ ?_
       rotate_left
       ·intro w'
        go_simp
        with_reducible rfl
       rotate_left
       ·simp only [Act.put, Qp1, Qp2, Qp3, i64_w, i32_w]
        rfl
       refine pure_ (i := 6) (N := some 21) (v := ?_) (a' := ?_) (Qbz 11 127) rfl rfl (Qao) (fun _ _ _ h => h) (Or.inl ⟨by rfl, ?_⟩) ?_ ?_
       rotate_left
       ·intro w'
        go_simp
        with_reducible rfl
       rotate_left
       ·simp only [Act.put, Qp1, Qp2, Qp3, i64_w, i32_w]
        rfl
       refine pure_ (i := 7) (N := some 22) (v := ?_) (a' := ?_) (Qbz 11 255) rfl rfl (Qao) (fun _ _ _ h => h) (Or.inl ⟨by rfl, ?_⟩) ?_ ?_
       rotate_left
       ·intro w'
        go_simp
        with_reducible rfl
       rotate_left
       ·simp only [Act.put, Qp1, Qp2, Qp3, i64_w, i32_w]
        rfl
       refine one_ (i := 8) (N := some 5) (Qbz 11 511) rfl rfl (one_of HT_.out (by kernel_rfl)) (by decide) (fun K hK => ?_)
       refine box_step ?hg (N := 5) ?hd (cs := #[.slice none 0 0, .slice none 0 0]) (t := 53) ?hr ?_; (case hd => rfl); (case hg => rfl); (case hr => first | (go_simp; done) | (go_simp; rfl))
       intro gb537 hg w70 hbox hb
       have n0_ := Aside0.mk (Kd.R_below (Qro HO523.out) hb)
       have n1_ := Aside0.mk (Kd.R_below (Qro HO526.out) hb)
       have n2_ := Aside0.mk (Kd.R_below (Qro HO529.out) hb)
       have n3_ := Aside0.mk (Kd.R_below (Qro HO532.out) hb)
       have n4_ := Aside0.mk (Kd.R_below (Qro HO535.out) hb)
       have n5_ := Aside0.mk (blk_below (g := gb520) (o := .cells #[.slice A1_0 l1_0.length c1_0, .slice A1_1 l1_1.length c1_1] 52 (0, 0)) (Qbl BK520.out) hb)
       have n6_ := Aside0.mk (below_step (Qag GE520.out) hb)
       have n7_ := Aside0.mk (hbox)
       have n8_ := Aside0.mk ((by rw [hg]; exact (below_size (Qag GE520.out)) : w.heap.size ≤ gb537))
       have n9_ := Aside0.mk ((by rw [hg]; exact (below_size (Qag GE520.out)) : w.heap.size ≤ gb537))
       have n10_ := Aside0.mk ((by rw [hg]; exact Nat.ne_of_lt (blk_lt (g := gb520) (o := .cells #[.slice A1_0 l1_0.length c1_0, .slice A1_1 l1_1.length c1_1] 52 (0, 0)) (Qbl BK520.out)) : gb520 ≠ gb537))
       have n11_ := Aside0.mk ((by rw [hg]; exact Nat.ne_of_gt (blk_lt (g := gb520) (o := .cells #[.slice A1_0 l1_0.length c1_0, .slice A1_1 l1_1.length c1_1] 52 (0, 0)) (Qbl BK520.out)) : gb537 ≠ gb520))
       clear HO523
       clear HO526
       clear HO529
       clear HO532
       clear HO535
       clear BK520
       clear HB
       have HO523 := n0_
       have HO526 := n1_
       have HO529 := n2_
       have HO532 := n3_
       have HO535 := n4_
       have BK520 := n5_
       have HB := n6_
       have BK537 := n7_
       have GW537 := n8_
       have GE537 := n9_
       have NB520_537 := n10_
       have NB537_520 := n11_
       clear n0_ n1_ n2_ n3_ n4_ n5_ n6_ n7_ n8_ n9_ n10_ n11_
       clear hb hbox hg
       refine hK.out _ _ ⟨(blk_cell BK520.out 0).trans rfl, (blk_cell BK520.out 1).trans rfl⟩ (fun hHeld => ?_)
       clear hK K
       refine norm_ (a' := ?_) ?_ ?_
       rotate_left
       ·show Act.put _ (some 5) _ = _
        simp only [Act.put, Qp1, Qp2, Qp3, i64_w, i32_w]
        rfl
       exact norm_ (by simp only [putAll, Act.put, List.setIfInBounds_toArray, List.set_cons_zero, List.set_cons_succ]) (hCont (.slice Ao66 t521.length co66, .slice Ao67 t524.length co67, .slice Ao68 t527.length co68, v531, v534, gb537) _ ⟨hHeld, (by (with_reducible repeat (first | apply Kd.R_alloc | apply Kd.R_drewN | apply Kd.R_drew)); exact Kd.R_mono HO523.out (fun _ hk => ⟨hk.1.1.1.2, ⟨hk.1.1.2, ⟨hk.1.2, hk.2⟩⟩⟩)), (by (with_reducible repeat (first | apply Kd.R_alloc | apply Kd.R_drewN | apply Kd.R_drew)); exact Kd.R_mono HO526.out (fun _ hk => ⟨hk.1.1.2, ⟨hk.1.1.1, ⟨hk.1.2, hk.2⟩⟩⟩)), (by (with_reducible repeat (first | apply Kd.R_alloc | apply Kd.R_drewN | apply Kd.R_drew)); exact Kd.R_mono HO529.out (fun _ hk => ⟨hk.1.1.2, ⟨hk.1.1.1, ⟨hk.1.2, hk.2⟩⟩⟩)), (by (with_reducible repeat (first | apply Kd.R_alloc | apply Kd.R_drewN | apply Kd.R_drew)); exact Kd.R_mono HO532.out (fun _ hk => ⟨hk.1.1.2, ⟨hk.1.2, ⟨hk.2, hk.1.1.1⟩⟩⟩)), (by (with_reducible repeat (first | apply Kd.R_alloc | apply Kd.R_drewN | apply Kd.R_drew)); exact Kd.R_mono HO535.out (fun _ hk => ⟨hk.1.1.2, ⟨hk.1.2, ⟨hk.2, hk.1.1.1⟩⟩⟩)), (Qbl BK520.out), (Qbl BK537.out), GW537.out, GE537.out, NB520_537.out, NB537_520.out, (Qah GE520.out GE537.out)⟩)
      ·skip
       refine box_step ?hg (N := 5) ?hd (cs := #[.slice none 0 0, .slice none 0 0]) (t := 53) ?hr ?_; (case hd => rfl); (case hg => rfl); (case hr => first | (go_simp; done) | (go_simp; rfl))
       intro gb537 hg w66 hbox hb
       have n0_ := Aside0.mk (Kd.R_below (Qro HO523.out) hb)
       have n1_ := Aside0.mk (Kd.R_below (Qro HO526.out) hb)
       have n2_ := Aside0.mk (Kd.R_below (Qro HO529.out) hb)
       have n3_ := Aside0.mk (blk_below (g := gb520) (o := .cells #[.slice A1_0 l1_0.length c1_0, .slice A1_1 l1_1.length c1_1] 52 (0, 0)) (Qbl BK520.out) hb)
       have n4_ := Aside0.mk (below_step (Qag GE520.out) hb)
       have n5_ := Aside0.mk (hbox)
       have n6_ := Aside0.mk ((by rw [hg]; exact (below_size (Qag GE520.out)) : w.heap.size ≤ gb537))
       have n7_ := Aside0.mk ((by rw [hg]; exact (below_size (Qag GE520.out)) : w.heap.size ≤ gb537))
       have n8_ := Aside0.mk ((by rw [hg]; exact Nat.ne_of_lt (blk_lt (g := gb520) (o := .cells #[.slice A1_0 l1_0.length c1_0, .slice A1_1 l1_1.length c1_1] 52 (0, 0)) (Qbl BK520.out)) : gb520 ≠ gb537))
       have n9_ := Aside0.mk ((by rw [hg]; exact Nat.ne_of_gt (blk_lt (g := gb520) (o := .cells #[.slice A1_0 l1_0.length c1_0, .slice A1_1 l1_1.length c1_1] 52 (0, 0)) (Qbl BK520.out)) : gb537 ≠ gb520))
       clear HO523
       clear HO526
       clear HO529
       clear BK520
       clear HB
       have HO523 := n0_
       have HO526 := n1_
       have HO529 := n2_
       have BK520 := n3_
       have HB := n4_
       have BK537 := n5_
       have GW537 := n6_
       have GE537 := n7_
       have NB520_537 := n8_
       have NB537_520 := n9_
       clear n0_ n1_ n2_ n3_ n4_ n5_ n6_ n7_ n8_ n9_
       clear hb hbox hg
       obtain ⟨Ao67, co67, eo67⟩ := Kd.R_slice HO523.out
       (first | subst eo67 | (injection eo67 with f1_ f2_ f3_; have f4_ := f1_.symm; have f5_ := f3_.symm; clear f1_ f2_ f3_; subst f4_; subst f5_))
       obtain ⟨Ao68, co68, eo68⟩ := Kd.R_slice HO526.out
       (first | subst eo68 | (injection eo68 with f1_ f2_ f3_; have f4_ := f1_.symm; have f5_ := f3_.symm; clear f1_ f2_ f3_; subst f4_; subst f5_))
       obtain ⟨Ao69, co69, eo69⟩ := Kd.R_slice HO529.out
       (first | subst eo69 | (injection eo69 with f1_ f2_ f3_; have f4_ := f1_.symm; have f5_ := f3_.symm; clear f1_ f2_ f3_; subst f4_; subst f5_))
       refine hK.out _ _ ⟨(blk_cell BK520.out 0).trans rfl, (blk_cell BK520.out 1).trans rfl⟩ (fun hHeld => ?_)
       clear hK K
       refine norm_ (a' := ?_) ?_ ?_
       rotate_left
       ·show Act.put _ (some 5) _ = _
        simp only [Act.put, Qp1, Qp2, Qp3, i64_w, i32_w]
        rfl
       refine one_ (i := 4) (N := some 20) (Qbz 11 287) rfl rfl (one_of HT_.out (by kernel_rfl)) (by decide) (fun K hK => ?_)
       refine goes_ Tryd.func43 (by kernel_rfl) rfl #[.slice Ao67 t521.length co67, .agg #[.slice Ao68 t524.length co68, .slice Ao69 t527.length co69]] (by rfl) rfl rfl (Qls) ?_
       with_reducible refine (width_Narrow.calls (hGL := (Qlg)) _ _ t521 _ _ t524 _ _ t527 t530 t533 t536 _ ?side1 ?side2 ?side3 ?side4 ?side5 ?side6 A5.out).mono ?_
       (case side1 => exact Qsc (Kd.R_reads' HO523.out).2.2)
       (case side2 => exact (Kd.R_reads' HO523.out).2.1)
       (case side3 => exact Qsc (Kd.R_reads' HO526.out).2.2)
       (case side4 => exact (Kd.R_reads' HO526.out).2.1)
       (case side5 => exact Qsc (Kd.R_reads' HO529.out).2.2)
       (case side6 => exact (Kd.R_reads' HO529.out).2.1)
       rintro e w70 ⟨v531, v534, rfl, ho0, ho1, hb⟩
       refine ⟨_, rfl, ?_⟩
       have n0_ := Aside0.mk (Kd.R_mono (Kd.R_told (Kd.R_told (Kd.R_old (Qro HO523.out) hb) (Kd.R_base ho0)) (Kd.R_base ho1)) (fun _ h_ => h_.1))
       have n1_ := Aside0.mk (Kd.R_mono (Kd.R_told (Kd.R_told (Kd.R_old (Qro HO526.out) hb) (Kd.R_base ho0)) (Kd.R_base ho1)) (fun _ h_ => h_.1))
       have n2_ := Aside0.mk (Kd.R_mono (Kd.R_told (Kd.R_told (Kd.R_old (Qro HO529.out) hb) (Kd.R_base ho0)) (Kd.R_base ho1)) (fun _ h_ => h_.1))
       have n3_ := Aside0.mk (Kd.R_lower (Kd.R_new' (Kd.R_new' (Kd.R_new' ho0 (Kd.R_lt (Qro HO523.out))) (Kd.R_lt (Qro HO526.out))) (Kd.R_lt (Qro HO529.out))) (below_size (Qah GE520.out GE537.out)))
       have n4_ := Aside0.mk (Kd.R_lower (Kd.R_new' (Kd.R_new' (Kd.R_new' ho1 (Kd.R_lt (Qro HO523.out))) (Kd.R_lt (Qro HO526.out))) (Kd.R_lt (Qro HO529.out))) (below_size (Qah GE520.out GE537.out)))
       have n5_ := Aside0.mk (blk_below (g := gb520) (o := .cells #[.slice A1_0 l1_0.length c1_0, .slice A1_1 l1_1.length c1_1] 52 (0, 0)) (Qbl BK520.out) hb)
       have n6_ := Aside0.mk (blk_below (g := gb537) (o := .cells #[.slice none 0 0, .slice none 0 0] 53 (0, 0)) (Qbl BK537.out) hb)
       have n7_ := Aside0.mk (below_step (Qah GE520.out GE537.out) hb)
       clear HO523
       clear HO526
       clear HO529
       clear BK520
       clear BK537
       clear HB
       have HO523 := n0_
       have HO526 := n1_
       have HO529 := n2_
       have HO532 := n3_
       have HO535 := n4_
       have BK520 := n5_
       have BK537 := n6_
       have HB := n7_
       clear n0_ n1_ n2_ n3_ n4_ n5_ n6_ n7_
       (try clear hb)
       (try clear hb2)
       (try clear hk)
       (try clear hi)
       (try clear ho0)
       (try clear ho1)
       refine hK.out _ _ ⟨(blk_cell BK520.out 0).trans rfl, (blk_cell BK520.out 1).trans rfl⟩ (fun hHeld => ?_)
       clear hK K
       refine norm_ (a' := ?_) ?_ ?_
       rotate_left
       ·show Act.put _ (some 20) _ = _
        simp only [Act.put, Qp1, Qp2, Qp3, i64_w, i32_w]
        rfl
       refine pure_ (i := 5) (N := some 15) (v := ?_) (a' := ?_) (Qbz 11 319) rfl rfl (Qao) (fun _ _ _ h => h) (Or.inl ⟨by rfl, ?_⟩) ?_ ?_
       rotate_left
       ·intro w'
        go_simp
        with_reducible rfl
       rotate_left
       ·simp only [Act.put, Qp1, Qp2, Qp3, i64_w, i32_w]
        rfl
       refine pure_ (i := 6) (N := some 21) (v := ?_) (a' := ?_) (Qbz 11 383) rfl rfl (Qao) (fun _ _ _ h => h) (Or.inl ⟨by rfl, ?_⟩) ?_ ?_
       rotate_left
       ·intro w'
        go_simp
        with_reducible rfl
       rotate_left
       ·simp only [Act.put, Qp1, Qp2, Qp3, i64_w, i32_w]
        rfl
       refine pure_ (i := 7) (N := some 22) (v := ?_) (a' := ?_) (Qbz 11 511) rfl rfl (Qao) (fun _ _ _ h => h) (Or.inl ⟨by rfl, ?_⟩) ?_ ?_
       rotate_left
       ·intro w'
        go_simp
        with_reducible rfl
       rotate_left
       ·simp only [Act.put, Qp1, Qp2, Qp3, i64_w, i32_w]
        rfl
       exact norm_ (by simp only [putAll, Act.put, List.setIfInBounds_toArray, List.set_cons_zero, List.set_cons_succ]) (hCont (.slice Ao67 t521.length co67, .slice Ao68 t524.length co68, .slice Ao69 t527.length co69, v531, v534, gb537) _ ⟨hHeld, (by (with_reducible repeat (first | apply Kd.R_alloc | apply Kd.R_drewN | apply Kd.R_drew)); exact Kd.R_mono HO523.out (fun _ hk => ⟨hk.1.1.1.2, ⟨hk.1.1.2, ⟨hk.1.2, hk.2⟩⟩⟩)), (by (with_reducible repeat (first | apply Kd.R_alloc | apply Kd.R_drewN | apply Kd.R_drew)); exact Kd.R_mono HO526.out (fun _ hk => ⟨hk.1.1.2, ⟨hk.1.1.1, ⟨hk.1.2, hk.2⟩⟩⟩)), (by (with_reducible repeat (first | apply Kd.R_alloc | apply Kd.R_drewN | apply Kd.R_drew)); exact Kd.R_mono HO529.out (fun _ hk => ⟨hk.1.1.2, ⟨hk.1.1.1, ⟨hk.1.2, hk.2⟩⟩⟩)), (by (with_reducible repeat (first | apply Kd.R_alloc | apply Kd.R_drewN | apply Kd.R_drew)); exact Kd.R_mono HO532.out (fun _ hk => ⟨hk.1.1.2, ⟨hk.1.2, ⟨hk.2, hk.1.1.1⟩⟩⟩)), (by (with_reducible repeat (first | apply Kd.R_alloc | apply Kd.R_drewN | apply Kd.R_drew)); exact Kd.R_mono HO535.out (fun _ hk => ⟨hk.1.1.2, ⟨hk.1.2, ⟨hk.2, hk.1.1.1⟩⟩⟩)), (Qbl BK520.out), (Qbl BK537.out), GW537.out, GE537.out, NB520_537.out, NB537_520.out, (Qah GE520.out GE537.out)⟩)
     ·skip
      refine box_step ?hg (N := 5) ?hd (cs := #[.slice none 0 0, .slice none 0 0]) (t := 53) ?hr ?_; (case hd => rfl); (case hg => rfl); (case hr => first | (go_simp; done) | (go_simp; rfl))
      intro gb537 hg w65 hbox hb
      have n0_ := Aside0.mk (Kd.R_below (Qro HO523.out) hb)
      have n1_ := Aside0.mk (blk_below (g := gb520) (o := .cells #[.slice A1_0 l1_0.length c1_0, .slice A1_1 l1_1.length c1_1] 52 (0, 0)) (Qbl BK520.out) hb)
      have n2_ := Aside0.mk (below_step (Qag GE520.out) hb)
      have n3_ := Aside0.mk (hbox)
      have n4_ := Aside0.mk ((by rw [hg]; exact (below_size (Qag GE520.out)) : w.heap.size ≤ gb537))
      have n5_ := Aside0.mk ((by rw [hg]; exact (below_size (Qag GE520.out)) : w.heap.size ≤ gb537))
      have n6_ := Aside0.mk ((by rw [hg]; exact Nat.ne_of_lt (blk_lt (g := gb520) (o := .cells #[.slice A1_0 l1_0.length c1_0, .slice A1_1 l1_1.length c1_1] 52 (0, 0)) (Qbl BK520.out)) : gb520 ≠ gb537))
      have n7_ := Aside0.mk ((by rw [hg]; exact Nat.ne_of_gt (blk_lt (g := gb520) (o := .cells #[.slice A1_0 l1_0.length c1_0, .slice A1_1 l1_1.length c1_1] 52 (0, 0)) (Qbl BK520.out)) : gb537 ≠ gb520))
      clear HO523
      clear BK520
      clear HB
      have HO523 := n0_
      have BK520 := n1_
      have HB := n2_
      have BK537 := n3_
      have GW537 := n4_
      have GE537 := n5_
      have NB520_537 := n6_
      have NB537_520 := n7_
      clear n0_ n1_ n2_ n3_ n4_ n5_ n6_ n7_
      clear hb hbox hg
      refine hK.out _ _ ⟨(blk_cell BK520.out 0).trans rfl, (blk_cell BK520.out 1).trans rfl⟩ (fun hHeld => ?_)
      clear hK K
      refine norm_ (a' := ?_) ?_ ?_
      rotate_left
      ·show Act.put _ (some 5) _ = _
       simp only [Act.put, Qp1, Qp2, Qp3, i64_w, i32_w]
       rfl
      refine one_ (i := 3) (N := some 19) (Qbz 11 271) rfl rfl (one_of HT_.out (by kernel_rfl)) (by decide) (fun K hK => ?_)
      refine goes_ Tryd.func44 (by kernel_rfl) rfl #[.agg #[.slice A1_0 l1_0.length c1_0, .slice A1_1 l1_1.length c1_1]] (by rfl) rfl rfl (Qls) ?_
      with_reducible refine (lampblacklaw02_Of.calls _ _ l1_0 _ _ l1_1 t524 t527 _ ?side1 ?side2 ?side3 ?side4 A4.out).mono ?_
      (case side1 => exact Qsc (Kd.C_below HR1_0.out HB.out))
      (case side2 => exact HC1_0.out)
      (case side3 => exact Qsc (Kd.C_below HR1_1.out HB.out))
      (case side4 => exact HC1_1.out)
      rintro e w66 ⟨v525, v528, rfl, ho0, ho1, hb⟩
      refine ⟨_, rfl, ?_⟩
      have n0_ := Aside0.mk (Kd.R_mono (Kd.R_told (Kd.R_told (Kd.R_old (Qro HO523.out) hb) (Kd.R_base ho0)) (Kd.R_base ho1)) (fun _ h_ => h_.1))
      have n1_ := Aside0.mk (Kd.R_lower (Kd.R_new' ho0 (Kd.R_lt (Qro HO523.out))) (below_size (Qah GE520.out GE537.out)))
      have n2_ := Aside0.mk (Kd.R_lower (Kd.R_new' ho1 (Kd.R_lt (Qro HO523.out))) (below_size (Qah GE520.out GE537.out)))
      have n3_ := Aside0.mk (blk_below (g := gb520) (o := .cells #[.slice A1_0 l1_0.length c1_0, .slice A1_1 l1_1.length c1_1] 52 (0, 0)) (Qbl BK520.out) hb)
      have n4_ := Aside0.mk (blk_below (g := gb537) (o := .cells #[.slice none 0 0, .slice none 0 0] 53 (0, 0)) (Qbl BK537.out) hb)
      have n5_ := Aside0.mk (below_step (Qah GE520.out GE537.out) hb)
      clear HO523
      clear BK520
      clear BK537
      clear HB
      have HO523 := n0_
      have HO526 := n1_
      have HO529 := n2_
      have BK520 := n3_
      have BK537 := n4_
      have HB := n5_
      clear n0_ n1_ n2_ n3_ n4_ n5_
      (try clear hb)
      (try clear hb2)
      (try clear hk)
      (try clear hi)
      (try clear ho0)
      (try clear ho1)
      obtain ⟨Ao67, co67, eo67⟩ := Kd.R_slice HO523.out
      (first | subst eo67 | (injection eo67 with f1_ f2_ f3_; have f4_ := f1_.symm; have f5_ := f3_.symm; clear f1_ f2_ f3_; subst f4_; subst f5_))
      obtain ⟨Ao68, co68, eo68⟩ := Kd.R_slice HO526.out
      (first | subst eo68 | (injection eo68 with f1_ f2_ f3_; have f4_ := f1_.symm; have f5_ := f3_.symm; clear f1_ f2_ f3_; subst f4_; subst f5_))
      obtain ⟨Ao69, co69, eo69⟩ := Kd.R_slice HO529.out
      (first | subst eo69 | (injection eo69 with f1_ f2_ f3_; have f4_ := f1_.symm; have f5_ := f3_.symm; clear f1_ f2_ f3_; subst f4_; subst f5_))
      refine hK.out _ _ ⟨(blk_cell BK520.out 0).trans rfl, (blk_cell BK520.out 1).trans rfl⟩ (fun hHeld => ?_)
      clear hK K
      refine norm_ (a' := ?_) ?_ ?_
      rotate_left
      ·show Act.put _ (some 19) _ = _
       simp only [Act.put, Qp1, Qp2, Qp3, i64_w, i32_w]
       rfl
      refine one_ (i := 4) (N := some 20) (Qbz 11 287) rfl rfl (one_of HT_.out (by kernel_rfl)) (by decide) (fun K hK => ?_)
      refine goes_ Tryd.func43 (by kernel_rfl) rfl #[.slice Ao67 t521.length co67, .agg #[.slice Ao68 t524.length co68, .slice Ao69 t527.length co69]] (by rfl) rfl rfl (Qls) ?_
      with_reducible refine (width_Narrow.calls (hGL := (Qlg)) _ _ t521 _ _ t524 _ _ t527 t530 t533 t536 _ ?side1 ?side2 ?side3 ?side4 ?side5 ?side6 A5.out).mono ?_
      (case side1 => exact Qsc (Kd.R_reads' HO523.out).2.2)
      (case side2 => exact (Kd.R_reads' HO523.out).2.1)
      (case side3 => exact Qsc (Kd.R_reads' HO526.out).2.2)
      (case side4 => exact (Kd.R_reads' HO526.out).2.1)
      (case side5 => exact Qsc (Kd.R_reads' HO529.out).2.2)
      (case side6 => exact (Kd.R_reads' HO529.out).2.1)
      rintro e w70 ⟨v531, v534, rfl, ho0, ho1, hb⟩
      refine ⟨_, rfl, ?_⟩
      have n0_ := Aside0.mk (Kd.R_mono (Kd.R_told (Kd.R_told (Kd.R_old (Qro HO523.out) hb) (Kd.R_base ho0)) (Kd.R_base ho1)) (fun _ h_ => h_.1))
      have n1_ := Aside0.mk (Kd.R_mono (Kd.R_told (Kd.R_told (Kd.R_old (Qro HO526.out) hb) (Kd.R_base ho0)) (Kd.R_base ho1)) (fun _ h_ => h_.1))
      have n2_ := Aside0.mk (Kd.R_mono (Kd.R_told (Kd.R_told (Kd.R_old (Qro HO529.out) hb) (Kd.R_base ho0)) (Kd.R_base ho1)) (fun _ h_ => h_.1))
      have n3_ := Aside0.mk (Kd.R_lower (Kd.R_new' (Kd.R_new' (Kd.R_new' ho0 (Kd.R_lt (Qro HO523.out))) (Kd.R_lt (Qro HO526.out))) (Kd.R_lt (Qro HO529.out))) (below_size (Qah GE520.out GE537.out)))
      have n4_ := Aside0.mk (Kd.R_lower (Kd.R_new' (Kd.R_new' (Kd.R_new' ho1 (Kd.R_lt (Qro HO523.out))) (Kd.R_lt (Qro HO526.out))) (Kd.R_lt (Qro HO529.out))) (below_size (Qah GE520.out GE537.out)))
      have n5_ := Aside0.mk (blk_below (g := gb520) (o := .cells #[.slice A1_0 l1_0.length c1_0, .slice A1_1 l1_1.length c1_1] 52 (0, 0)) (Qbl BK520.out) hb)
      have n6_ := Aside0.mk (blk_below (g := gb537) (o := .cells #[.slice none 0 0, .slice none 0 0] 53 (0, 0)) (Qbl BK537.out) hb)
      have n7_ := Aside0.mk (below_step (Qah GE520.out GE537.out) hb)
      clear HO523
      clear HO526
      clear HO529
      clear BK520
      clear BK537
      clear HB
      have HO523 := n0_
      have HO526 := n1_
      have HO529 := n2_
      have HO532 := n3_
      have HO535 := n4_
      have BK520 := n5_
      have BK537 := n6_
      have HB := n7_
      clear n0_ n1_ n2_ n3_ n4_ n5_ n6_ n7_
      (try clear hb)
      (try clear hb2)
      (try clear hk)
      (try clear hi)
      (try clear ho0)
      (try clear ho1)
      refine hK.out _ _ ⟨(blk_cell BK520.out 0).trans rfl, (blk_cell BK520.out 1).trans rfl⟩ (fun hHeld => ?_)
      clear hK K
      refine norm_ (a' := ?_) ?_ ?_
      rotate_left
      ·show Act.put _ (some 20) _ = _
       simp only [Act.put, Qp1, Qp2, Qp3, i64_w, i32_w]
       rfl
      refine pure_ (i := 5) (N := some 15) (v := ?_) (a' := ?_) (Qbz 11 319) rfl rfl (Qao) (fun _ _ _ h => h) (Or.inl ⟨by rfl, ?_⟩) ?_ ?_
      rotate_left
      ·intro w'
       go_simp
       with_reducible rfl
      rotate_left
      ·simp only [Act.put, Qp1, Qp2, Qp3, i64_w, i32_w]
       rfl
      refine pure_ (i := 6) (N := some 21) (v := ?_) (a' := ?_) (Qbz 11 383) rfl rfl (Qao) (fun _ _ _ h => h) (Or.inl ⟨by rfl, ?_⟩) ?_ ?_
      rotate_left
      ·intro w'
       go_simp
       with_reducible rfl
      rotate_left
      ·simp only [Act.put, Qp1, Qp2, Qp3, i64_w, i32_w]
       rfl
      refine pure_ (i := 7) (N := some 22) (v := ?_) (a' := ?_) (Qbz 11 511) rfl rfl (Qao) (fun _ _ _ h => h) (Or.inl ⟨by rfl, ?_⟩) ?_ ?_
      rotate_left
      ·intro w'
       go_simp
       with_reducible rfl
      rotate_left
      ·simp only [Act.put, Qp1, Qp2, Qp3, i64_w, i32_w]
       rfl
      exact norm_ (by simp only [putAll, Act.put, List.setIfInBounds_toArray, List.set_cons_zero, List.set_cons_succ]) (hCont (.slice Ao67 t521.length co67, .slice Ao68 t524.length co68, .slice Ao69 t527.length co69, v531, v534, gb537) _ ⟨hHeld, (by (with_reducible repeat (first | apply Kd.R_alloc | apply Kd.R_drewN | apply Kd.R_drew)); exact Kd.R_mono HO523.out (fun _ hk => ⟨hk.1.1.1.2, ⟨hk.1.1.2, ⟨hk.1.2, hk.2⟩⟩⟩)), (by (with_reducible repeat (first | apply Kd.R_alloc | apply Kd.R_drewN | apply Kd.R_drew)); exact Kd.R_mono HO526.out (fun _ hk => ⟨hk.1.1.2, ⟨hk.1.1.1, ⟨hk.1.2, hk.2⟩⟩⟩)), (by (with_reducible repeat (first | apply Kd.R_alloc | apply Kd.R_drewN | apply Kd.R_drew)); exact Kd.R_mono HO529.out (fun _ hk => ⟨hk.1.1.2, ⟨hk.1.1.1, ⟨hk.1.2, hk.2⟩⟩⟩)), (by (with_reducible repeat (first | apply Kd.R_alloc | apply Kd.R_drewN | apply Kd.R_drew)); exact Kd.R_mono HO532.out (fun _ hk => ⟨hk.1.1.2, ⟨hk.1.2, ⟨hk.2, hk.1.1.1⟩⟩⟩)), (by (with_reducible repeat (first | apply Kd.R_alloc | apply Kd.R_drewN | apply Kd.R_drew)); exact Kd.R_mono HO535.out (fun _ hk => ⟨hk.1.1.2, ⟨hk.1.2, ⟨hk.2, hk.1.1.1⟩⟩⟩)), (Qbl BK520.out), (Qbl BK537.out), GW537.out, GE537.out, NB520_537.out, NB537_520.out, (Qah GE520.out GE537.out)⟩)
    ·skip
     refine box_step ?hg (N := 5) ?hd (cs := #[.slice none 0 0, .slice none 0 0]) (t := 53) ?hr ?_; (case hd => rfl); (case hg => rfl); (case hr => first | (go_simp; done) | (go_simp; rfl))
     intro gb537 hg w64 hbox hb
     have n0_ := Aside0.mk (blk_below (g := gb520) (o := .cells #[.slice A1_0 l1_0.length c1_0, .slice A1_1 l1_1.length c1_1] 52 (0, 0)) (Qbl BK520.out) hb)
     have n1_ := Aside0.mk (below_step (Qag GE520.out) hb)
     have n2_ := Aside0.mk (hbox)
     have n3_ := Aside0.mk ((by rw [hg]; exact (below_size (Qag GE520.out)) : w.heap.size ≤ gb537))
     have n4_ := Aside0.mk ((by rw [hg]; exact (below_size (Qag GE520.out)) : w.heap.size ≤ gb537))
     have n5_ := Aside0.mk ((by rw [hg]; exact Nat.ne_of_lt (blk_lt (g := gb520) (o := .cells #[.slice A1_0 l1_0.length c1_0, .slice A1_1 l1_1.length c1_1] 52 (0, 0)) (Qbl BK520.out)) : gb520 ≠ gb537))
     have n6_ := Aside0.mk ((by rw [hg]; exact Nat.ne_of_gt (blk_lt (g := gb520) (o := .cells #[.slice A1_0 l1_0.length c1_0, .slice A1_1 l1_1.length c1_1] 52 (0, 0)) (Qbl BK520.out)) : gb537 ≠ gb520))
     clear BK520
     clear HB
     have BK520 := n0_
     have HB := n1_
     have BK537 := n2_
     have GW537 := n3_
     have GE537 := n4_
     have NB520_537 := n5_
     have NB537_520 := n6_
     clear n0_ n1_ n2_ n3_ n4_ n5_ n6_
     clear hb hbox hg
     refine hK.out _ _ ⟨(blk_cell BK520.out 0).trans rfl, (blk_cell BK520.out 1).trans rfl⟩ (fun hHeld => ?_)
     clear hK K
     refine norm_ (a' := ?_) ?_ ?_
     rotate_left
     ·show Act.put _ (some 5) _ = _
      simp only [Act.put, Qp1, Qp2, Qp3, i64_w, i32_w]
      rfl
     refine one_ (i := 1) (N := some 17) (Qbz 11 263) rfl rfl (one_of HT_.out (by kernel_rfl)) (by decide) (fun K hK => ?_)
     refine goes_ Tryd.func19 (by kernel_rfl) rfl #[.slice A0 l0.length c0] (by rfl) rfl rfl (Qls) ?_
     with_reducible refine (lampblacklaw02_Few.calls _ _ l0 t521 _ ?side1 ?side2 A3.out).mono ?_
     (case side1 => exact Qsc (Kd.C_below HR0.out HB.out))
     (case side2 => exact HC0.out)
     rintro e w65 ⟨v522, rfl, ho0, hb⟩
     refine ⟨_, rfl, ?_⟩
     have n0_ := Aside0.mk (Kd.R_lower ho0 (below_size (Qah GE520.out GE537.out)))
     have n1_ := Aside0.mk (blk_below (g := gb520) (o := .cells #[.slice A1_0 l1_0.length c1_0, .slice A1_1 l1_1.length c1_1] 52 (0, 0)) (Qbl BK520.out) hb)
     have n2_ := Aside0.mk (blk_below (g := gb537) (o := .cells #[.slice none 0 0, .slice none 0 0] 53 (0, 0)) (Qbl BK537.out) hb)
     have n3_ := Aside0.mk (below_step (Qah GE520.out GE537.out) hb)
     clear BK520
     clear BK537
     clear HB
     have HO523 := n0_
     have BK520 := n1_
     have BK537 := n2_
     have HB := n3_
     clear n0_ n1_ n2_ n3_
     (try clear hb)
     (try clear hb2)
     (try clear hk)
     (try clear hi)
     (try clear ho0)
     refine hK.out _ _ ⟨(blk_cell BK520.out 0).trans rfl, (blk_cell BK520.out 1).trans rfl⟩ (fun hHeld => ?_)
     clear hK K
     refine norm_ (a' := ?_) ?_ ?_
     rotate_left
     ·show Act.put _ (some 17) _ = _
      simp only [Act.put, Qp1, Qp2, Qp3, i64_w, i32_w]
      rfl
     refine one_ (i := 3) (N := some 19) (Qbz 11 271) rfl rfl (one_of HT_.out (by kernel_rfl)) (by decide) (fun K hK => ?_)
     refine goes_ Tryd.func44 (by kernel_rfl) rfl #[.agg #[.slice A1_0 l1_0.length c1_0, .slice A1_1 l1_1.length c1_1]] (by rfl) rfl rfl (Qls) ?_
     with_reducible refine (lampblacklaw02_Of.calls _ _ l1_0 _ _ l1_1 t524 t527 _ ?side1 ?side2 ?side3 ?side4 A4.out).mono ?_
     (case side1 => exact Qsc (Kd.C_below HR1_0.out HB.out))
     (case side2 => exact HC1_0.out)
     (case side3 => exact Qsc (Kd.C_below HR1_1.out HB.out))
     (case side4 => exact HC1_1.out)
     rintro e w66 ⟨v525, v528, rfl, ho0, ho1, hb⟩
     refine ⟨_, rfl, ?_⟩
     have n0_ := Aside0.mk (Kd.R_mono (Kd.R_told (Kd.R_told (Kd.R_old (Qro HO523.out) hb) (Kd.R_base ho0)) (Kd.R_base ho1)) (fun _ h_ => h_.1))
     have n1_ := Aside0.mk (Kd.R_lower (Kd.R_new' ho0 (Kd.R_lt (Qro HO523.out))) (below_size (Qah GE520.out GE537.out)))
     have n2_ := Aside0.mk (Kd.R_lower (Kd.R_new' ho1 (Kd.R_lt (Qro HO523.out))) (below_size (Qah GE520.out GE537.out)))
     have n3_ := Aside0.mk (blk_below (g := gb520) (o := .cells #[.slice A1_0 l1_0.length c1_0, .slice A1_1 l1_1.length c1_1] 52 (0, 0)) (Qbl BK520.out) hb)
     have n4_ := Aside0.mk (blk_below (g := gb537) (o := .cells #[.slice none 0 0, .slice none 0 0] 53 (0, 0)) (Qbl BK537.out) hb)
     have n5_ := Aside0.mk (below_step (Qah GE520.out GE537.out) hb)
     clear HO523
     clear BK520
     clear BK537
     clear HB
     have HO523 := n0_
     have HO526 := n1_
     have HO529 := n2_
     have BK520 := n3_
     have BK537 := n4_
     have HB := n5_
     clear n0_ n1_ n2_ n3_ n4_ n5_
     (try clear hb)
     (try clear hb2)
     (try clear hk)
     (try clear hi)
     (try clear ho0)
     (try clear ho1)
     obtain ⟨Ao67, co67, eo67⟩ := Kd.R_slice HO523.out
     (first | subst eo67 | (injection eo67 with f1_ f2_ f3_; have f4_ := f1_.symm; have f5_ := f3_.symm; clear f1_ f2_ f3_; subst f4_; subst f5_))
     obtain ⟨Ao68, co68, eo68⟩ := Kd.R_slice HO526.out
     (first | subst eo68 | (injection eo68 with f1_ f2_ f3_; have f4_ := f1_.symm; have f5_ := f3_.symm; clear f1_ f2_ f3_; subst f4_; subst f5_))
     obtain ⟨Ao69, co69, eo69⟩ := Kd.R_slice HO529.out
     (first | subst eo69 | (injection eo69 with f1_ f2_ f3_; have f4_ := f1_.symm; have f5_ := f3_.symm; clear f1_ f2_ f3_; subst f4_; subst f5_))
     refine hK.out _ _ ⟨(blk_cell BK520.out 0).trans rfl, (blk_cell BK520.out 1).trans rfl⟩ (fun hHeld => ?_)
     clear hK K
     refine norm_ (a' := ?_) ?_ ?_
     rotate_left
     ·show Act.put _ (some 19) _ = _
      simp only [Act.put, Qp1, Qp2, Qp3, i64_w, i32_w]
      rfl
     refine one_ (i := 4) (N := some 20) (Qbz 11 287) rfl rfl (one_of HT_.out (by kernel_rfl)) (by decide) (fun K hK => ?_)
     refine goes_ Tryd.func43 (by kernel_rfl) rfl #[.slice Ao67 t521.length co67, .agg #[.slice Ao68 t524.length co68, .slice Ao69 t527.length co69]] (by rfl) rfl rfl (Qls) ?_
     with_reducible refine (width_Narrow.calls (hGL := (Qlg)) _ _ t521 _ _ t524 _ _ t527 t530 t533 t536 _ ?side1 ?side2 ?side3 ?side4 ?side5 ?side6 A5.out).mono ?_
     (case side1 => exact Qsc (Kd.R_reads' HO523.out).2.2)
     (case side2 => exact (Kd.R_reads' HO523.out).2.1)
     (case side3 => exact Qsc (Kd.R_reads' HO526.out).2.2)
     (case side4 => exact (Kd.R_reads' HO526.out).2.1)
     (case side5 => exact Qsc (Kd.R_reads' HO529.out).2.2)
     (case side6 => exact (Kd.R_reads' HO529.out).2.1)
     rintro e w70 ⟨v531, v534, rfl, ho0, ho1, hb⟩
     refine ⟨_, rfl, ?_⟩
     have n0_ := Aside0.mk (Kd.R_mono (Kd.R_told (Kd.R_told (Kd.R_old (Qro HO523.out) hb) (Kd.R_base ho0)) (Kd.R_base ho1)) (fun _ h_ => h_.1))
     have n1_ := Aside0.mk (Kd.R_mono (Kd.R_told (Kd.R_told (Kd.R_old (Qro HO526.out) hb) (Kd.R_base ho0)) (Kd.R_base ho1)) (fun _ h_ => h_.1))
     have n2_ := Aside0.mk (Kd.R_mono (Kd.R_told (Kd.R_told (Kd.R_old (Qro HO529.out) hb) (Kd.R_base ho0)) (Kd.R_base ho1)) (fun _ h_ => h_.1))
     have n3_ := Aside0.mk (Kd.R_lower (Kd.R_new' (Kd.R_new' (Kd.R_new' ho0 (Kd.R_lt (Qro HO523.out))) (Kd.R_lt (Qro HO526.out))) (Kd.R_lt (Qro HO529.out))) (below_size (Qah GE520.out GE537.out)))
     have n4_ := Aside0.mk (Kd.R_lower (Kd.R_new' (Kd.R_new' (Kd.R_new' ho1 (Kd.R_lt (Qro HO523.out))) (Kd.R_lt (Qro HO526.out))) (Kd.R_lt (Qro HO529.out))) (below_size (Qah GE520.out GE537.out)))
     have n5_ := Aside0.mk (blk_below (g := gb520) (o := .cells #[.slice A1_0 l1_0.length c1_0, .slice A1_1 l1_1.length c1_1] 52 (0, 0)) (Qbl BK520.out) hb)
     have n6_ := Aside0.mk (blk_below (g := gb537) (o := .cells #[.slice none 0 0, .slice none 0 0] 53 (0, 0)) (Qbl BK537.out) hb)
     have n7_ := Aside0.mk (below_step (Qah GE520.out GE537.out) hb)
     clear HO523
     clear HO526
     clear HO529
     clear BK520
     clear BK537
     clear HB
     have HO523 := n0_
     have HO526 := n1_
     have HO529 := n2_
     have HO532 := n3_
     have HO535 := n4_
     have BK520 := n5_
     have BK537 := n6_
     have HB := n7_
     clear n0_ n1_ n2_ n3_ n4_ n5_ n6_ n7_
     (try clear hb)
     (try clear hb2)
     (try clear hk)
     (try clear hi)
     (try clear ho0)
     (try clear ho1)
     refine hK.out _ _ ⟨(blk_cell BK520.out 0).trans rfl, (blk_cell BK520.out 1).trans rfl⟩ (fun hHeld => ?_)
     clear hK K
     refine norm_ (a' := ?_) ?_ ?_
     rotate_left
     ·show Act.put _ (some 20) _ = _
      simp only [Act.put, Qp1, Qp2, Qp3, i64_w, i32_w]
      rfl
     refine pure_ (i := 5) (N := some 15) (v := ?_) (a' := ?_) (Qbz 11 319) rfl rfl (Qao) (fun _ _ _ h => h) (Or.inl ⟨by rfl, ?_⟩) ?_ ?_
     rotate_left
     ·intro w'
      go_simp
      with_reducible rfl
     rotate_left
     ·simp only [Act.put, Qp1, Qp2, Qp3, i64_w, i32_w]
      rfl
     refine pure_ (i := 6) (N := some 21) (v := ?_) (a' := ?_) (Qbz 11 383) rfl rfl (Qao) (fun _ _ _ h => h) (Or.inl ⟨by rfl, ?_⟩) ?_ ?_
     rotate_left
     ·intro w'
      go_simp
      with_reducible rfl
     rotate_left
     ·simp only [Act.put, Qp1, Qp2, Qp3, i64_w, i32_w]
      rfl
     refine pure_ (i := 7) (N := some 22) (v := ?_) (a' := ?_) (Qbz 11 511) rfl rfl (Qao) (fun _ _ _ h => h) (Or.inl ⟨by rfl, ?_⟩) ?_ ?_
     rotate_left
     ·intro w'
      go_simp
      with_reducible rfl
     rotate_left
     ·simp only [Act.put, Qp1, Qp2, Qp3, i64_w, i32_w]
      rfl
     exact norm_ (by simp only [putAll, Act.put, List.setIfInBounds_toArray, List.set_cons_zero, List.set_cons_succ]) (hCont (.slice Ao67 t521.length co67, .slice Ao68 t524.length co68, .slice Ao69 t527.length co69, v531, v534, gb537) _ ⟨hHeld, (by (with_reducible repeat (first | apply Kd.R_alloc | apply Kd.R_drewN | apply Kd.R_drew)); exact Kd.R_mono HO523.out (fun _ hk => ⟨hk.1.1.1.2, ⟨hk.1.1.2, ⟨hk.1.2, hk.2⟩⟩⟩)), (by (with_reducible repeat (first | apply Kd.R_alloc | apply Kd.R_drewN | apply Kd.R_drew)); exact Kd.R_mono HO526.out (fun _ hk => ⟨hk.1.1.2, ⟨hk.1.1.1, ⟨hk.1.2, hk.2⟩⟩⟩)), (by (with_reducible repeat (first | apply Kd.R_alloc | apply Kd.R_drewN | apply Kd.R_drew)); exact Kd.R_mono HO529.out (fun _ hk => ⟨hk.1.1.2, ⟨hk.1.1.1, ⟨hk.1.2, hk.2⟩⟩⟩)), (by (with_reducible repeat (first | apply Kd.R_alloc | apply Kd.R_drewN | apply Kd.R_drew)); exact Kd.R_mono HO532.out (fun _ hk => ⟨hk.1.1.2, ⟨hk.1.2, ⟨hk.2, hk.1.1.1⟩⟩⟩)), (by (with_reducible repeat (first | apply Kd.R_alloc | apply Kd.R_drewN | apply Kd.R_drew)); exact Kd.R_mono HO535.out (fun _ hk => ⟨hk.1.1.2, ⟨hk.1.2, ⟨hk.2, hk.1.1.1⟩⟩⟩)), (Qbl BK520.out), (Qbl BK537.out), GW537.out, GE537.out, NB520_537.out, NB537_520.out, (Qah GE520.out GE537.out)⟩)
   rintro ⟨v522, v525, v528, v531, v534, gb537⟩ w71 ⟨hS_, h0_, h1_, h2_, h3_, h4_, h5_, h6_, h7_, h8_, h9_, h10_, h11_⟩
   have n0_ : Aside0 (Kd.R (Kd.int .i64) 3 w71 w.heap.size (fun k_ => some k_ ≠ (v525 : Value).ownBlock ∧ some k_ ≠ (v528 : Value).ownBlock ∧ some k_ ≠ (v531 : Value).ownBlock ∧ some k_ ≠ (v534 : Value).ownBlock) v522 t521) := ⟨h0_⟩
   have n1_ : Aside0 (Kd.R (Kd.int .i64) 3 w71 w.heap.size (fun k_ => some k_ ≠ (v522 : Value).ownBlock ∧ some k_ ≠ (v528 : Value).ownBlock ∧ some k_ ≠ (v531 : Value).ownBlock ∧ some k_ ≠ (v534 : Value).ownBlock) v525 t524) := ⟨h1_⟩
   have n2_ : Aside0 (Kd.R (Kd.int .i64) 3 w71 w.heap.size (fun k_ => some k_ ≠ (v522 : Value).ownBlock ∧ some k_ ≠ (v525 : Value).ownBlock ∧ some k_ ≠ (v531 : Value).ownBlock ∧ some k_ ≠ (v534 : Value).ownBlock) v528 t527) := ⟨h2_⟩
   have n3_ : Aside0 (Kd.R (Kd.int .i64) 3 w71 w.heap.size (fun k_ => some k_ ≠ (v522 : Value).ownBlock ∧ some k_ ≠ (v525 : Value).ownBlock ∧ some k_ ≠ (v528 : Value).ownBlock ∧ some k_ ≠ (v534 : Value).ownBlock) v531 t530) := ⟨h3_⟩
   have n4_ : Aside0 (Kd.R (Kd.int .i64) 3 w71 w.heap.size (fun k_ => some k_ ≠ (v522 : Value).ownBlock ∧ some k_ ≠ (v525 : Value).ownBlock ∧ some k_ ≠ (v528 : Value).ownBlock ∧ some k_ ≠ (v531 : Value).ownBlock) v534 t533) := ⟨h4_⟩
   have n5_ : Aside0 (w71.heap[gb520]? = some (.cells #[.slice A1_0 l1_0.length c1_0, .slice A1_1 l1_1.length c1_1] 52 (0, 0))) := ⟨h5_⟩
   have n6_ : Aside0 (w71.heap[gb537]? = some (.cells #[.slice none 0 0, .slice none 0 0] 53 (0, 0))) := ⟨h6_⟩
   have n7_ : Aside0 (w.heap.size ≤ gb537) := ⟨h7_⟩
   have n8_ : Aside0 (w.heap.size ≤ gb537) := ⟨h8_⟩
   have n9_ : Aside0 (gb520 ≠ gb537) := ⟨h9_⟩
   have n10_ : Aside0 (gb537 ≠ gb520) := ⟨h10_⟩
   have n11_ : Aside0 (Below w.heap.size w w71) := ⟨h11_⟩
   clear BK520
   clear HB
   clear h0_ h1_ h2_ h3_ h4_ h5_ h6_ h7_ h8_ h9_ h10_ h11_
   have HO523 := n0_
   have HO526 := n1_
   have HO529 := n2_
   have HO532 := n3_
   have HO535 := n4_
   have BK520 := n5_
   have BK537 := n6_
   have GW537 := n7_
   have GE537 := n8_
   have NB520_537 := n9_
   have NB537_520 := n10_
   have HB := n11_
   clear n0_ n1_ n2_ n3_ n4_ n5_ n6_ n7_ n8_ n9_ n10_ n11_
   have hHeld : w71.cell? ⟨gb520, 0, none⟩ = some (.slice A1_0 l1_0.length c1_0) ∧ w71.cell? ⟨gb520, 1, none⟩ = some (.slice A1_1 l1_1.length c1_1) := hS_
   obtain ⟨Ao72, co72, eo72⟩ := Kd.R_slice HO532.out
   (first | subst eo72 | (injection eo72 with f1_ f2_ f3_; have f4_ := f1_.symm; have f5_ := f3_.symm; clear f1_ f2_ f3_; subst f4_; subst f5_))
   obtain ⟨Ao74, co74, eo74⟩ := Kd.R_slice HO535.out
   (first | subst eo74 | (injection eo74 with f1_ f2_ f3_; have f4_ := f1_.symm; have f5_ := f3_.symm; clear f1_ f2_ f3_; subst f4_; subst f5_))
   refine norm_ (a' := ?_) ?_ ?_
   rotate_left
   ·simp only [putAll, Act.put, List.setIfInBounds_toArray, List.set_cons_zero, List.set_cons_succ]
    rfl
   refine one_ (i := 9) (N := none) (Qbz 11 1023) rfl rfl (one_of HT_.out (by kernel_rfl)) (by decide) (fun K hK => ?_)
   have hs73 : w71.cell? ⟨gb537, 0, none⟩ = some (.slice none 0 0) := (blk_cell BK537.out 0).trans rfl
   have hfs73 := blk_frozen BK537.out 0
   have hns73_0 := NB520_537.out
   have hms73_0 := NB537_520.out
   have hs75 : w71.cell? ⟨gb537, 1, none⟩ = some (.slice none 0 0) := (blk_cell BK537.out 1).trans rfl
   have hfs75 := blk_frozen BK537.out 1
   have hns75_0 := NB520_537.out
   have hms75_0 := NB537_520.out
   refine skip_ (w1 := ?_) (by rfl) rfl ?_ ?_
   rotate_left
   ·go_simp
    rfl
   refine hK.out _ _ ⟨((cell_far (p := ⟨gb537, _, none⟩) NB520_537.out _).trans (((cell_far (p := ⟨gb537, _, none⟩) NB520_537.out _).trans (hHeld.1)))), ((cell_far (p := ⟨gb537, _, none⟩) NB520_537.out _).trans (((cell_far (p := ⟨gb537, _, none⟩) NB520_537.out _).trans (hHeld.2))))⟩ (fun hHeld => ?_)
   clear hK K
   refine pure_ (i := 10) (N := some 6) (v := ?_) (a' := ?_) (Qbz 11 2047) rfl rfl (Qao) (fun _ _ _ h => h) (Or.inl ⟨by rfl, ?_⟩) ?_ ?_
   rotate_left
   ·intro w'
    go_simp
    with_reducible rfl
   rotate_left
   ·simp only [Act.put, Qp1, Qp2, Qp3, i64_w, i32_w]
    rfl
   refine done_ (done_of HT_.out (by kernel_rfl)) ?_
   try go_wp2_with (first | (go_at_call 20; (with_reducible refine (lampblacklaw02_awake.calls (hGL := (by repeat (first | (with_reducible exact HGL.out) | (with_reducible exact GL_below HGL.out HB.out) | (refine GL_below HGL.out (Qah GE520.out GE537.out)) | (with_reducible refine GL_alloc ?_ _) | (with_reducible refine GL_drewN ?_ _) | (with_reducible refine GL_drew ?_)))) k  t538 _ A61.out).mono ?_); rintro e w76 ⟨rfl, hb⟩; have n0_ := Aside0.mk (Kd.R_below (by (with_reducible repeat (first | apply Kd.R_alloc | apply Kd.R_drewN | apply Kd.R_drew)); exact (Kd.R_mono (Kd.R_far (p := ⟨gb537, 1, none⟩) (Kd.R_far (p := ⟨gb537, 0, none⟩) (Kd.R_types HO523.out BK537.out (by decide)) (fun _ hk => hk.2) (.slice Ao72 t530.length co72)) (fun _ hk => hk.2) (.slice Ao74 t533.length co74)) (fun _ h_ => h_.1))) hb); have n1_ := Aside0.mk (Kd.R_below (by (with_reducible repeat (first | apply Kd.R_alloc | apply Kd.R_drewN | apply Kd.R_drew)); exact (Kd.R_mono (Kd.R_far (p := ⟨gb537, 1, none⟩) (Kd.R_far (p := ⟨gb537, 0, none⟩) (Kd.R_types HO526.out BK537.out (by decide)) (fun _ hk => hk.2) (.slice Ao72 t530.length co72)) (fun _ hk => hk.2) (.slice Ao74 t533.length co74)) (fun _ h_ => h_.1))) hb); have n2_ := Aside0.mk (Kd.R_below (by (with_reducible repeat (first | apply Kd.R_alloc | apply Kd.R_drewN | apply Kd.R_drew)); exact (Kd.R_mono (Kd.R_far (p := ⟨gb537, 1, none⟩) (Kd.R_far (p := ⟨gb537, 0, none⟩) (Kd.R_types HO529.out BK537.out (by decide)) (fun _ hk => hk.2) (.slice Ao72 t530.length co72)) (fun _ hk => hk.2) (.slice Ao74 t533.length co74)) (fun _ h_ => h_.1))) hb); have n3_ := Aside0.mk (Kd.R_below (by (with_reducible repeat (first | apply Kd.R_alloc | apply Kd.R_drewN | apply Kd.R_drew)); exact (Kd.R_mono (Kd.R_far (p := ⟨gb537, 1, none⟩) (Kd.R_far (p := ⟨gb537, 0, none⟩) (Kd.R_types HO532.out BK537.out (by decide)) (fun _ hk => hk.2) (.slice Ao72 t530.length co72)) (fun _ hk => hk.2) (.slice Ao74 t533.length co74)) (fun _ h_ => h_.1))) hb); have n4_ := Aside0.mk (Kd.R_below (by (with_reducible repeat (first | apply Kd.R_alloc | apply Kd.R_drewN | apply Kd.R_drew)); exact (Kd.R_mono (Kd.R_far (p := ⟨gb537, 1, none⟩) (Kd.R_far (p := ⟨gb537, 0, none⟩) (Kd.R_types HO535.out BK537.out (by decide)) (fun _ hk => hk.2) (.slice Ao72 t530.length co72)) (fun _ hk => hk.2) (.slice Ao74 t533.length co74)) (fun _ h_ => h_.1))) hb); have n5_ := Aside0.mk (blk_below (g := gb520) (o := .cells #[.slice A1_0 l1_0.length c1_0, .slice A1_1 l1_1.length c1_1] 52 (0, 0)) (by (with_reducible repeat (first | refine blk_drewN ?_ _ | refine blk_drew ?_ | refine blk_alloc ?_ _)); refine blk_far ?_ NB520_537.out _; (with_reducible repeat (first | refine blk_drewN ?_ _ | refine blk_drew ?_ | refine blk_alloc ?_ _)); refine blk_far ?_ NB520_537.out _; (with_reducible repeat (first | refine blk_drewN ?_ _ | refine blk_drew ?_ | refine blk_alloc ?_ _)); exact BK520.out) hb); have n6_ := Aside0.mk (blk_below (g := gb537) (o := .cells #[.slice Ao72 t530.length co72, .slice Ao74 t533.length co74] 53 (0, 0)) (by (with_reducible repeat (first | refine blk_drewN ?_ _ | refine blk_drew ?_ | refine blk_alloc ?_ _)); refine blk_put (cs := #[.slice Ao72 t530.length co72, .slice none 0 0]) ?_ 1 _ rfl; (with_reducible repeat (first | refine blk_drewN ?_ _ | refine blk_drew ?_ | refine blk_alloc ?_ _)); refine blk_put (cs := #[.slice none 0 0, .slice none 0 0]) ?_ 0 _ rfl; (with_reducible repeat (first | refine blk_drewN ?_ _ | refine blk_drew ?_ | refine blk_alloc ?_ _)); exact BK537.out) hb); have n7_ := Aside0.mk (below_step (Qah GE520.out GE537.out) hb); clear HO523; clear HO526; clear HO529; clear HO532; clear HO535; clear BK520; clear BK537; clear HB; have HO523 := n0_; have HO526 := n1_; have HO529 := n2_; have HO532 := n3_; have HO535 := n4_; have BK520 := n5_; have BK537 := n6_; have HB := n7_; clear n0_ n1_ n2_ n3_ n4_ n5_ n6_ n7_; (try clear hb); (try clear hb2); (try clear hk); (try clear hi)))
   go_ret
   exact ⟨by first | rfl | (simp [errW_none, errW_some] <;> rfl) | (simp [*, errW_none, errW_some] <;> rfl), by repeat (first | (with_reducible first | exact HB.out | apply below_alloc | apply pw_below_drewN | apply below_drew1 | refine below_set ?_ GE520.out | refine below_set ?_ GE537.out) | exact HB.out)⟩
  ·rw [if_neg c60] at H
   have c60b0 : (t536 == 2) = false := beq_eq_false_iff_ne.mpr c60
   have c60b1 : (t536 != 2) = true := bne_iff_ne.mpr c60
   exact absurd ((Option.some.inj H).trans HRT.out) (by decide)
end
end Go.Proofs.YtoffehihicabcaaDoor.X
end
section
namespace Go.Proofs.YtoffehihicabcaaDoor.X
open Go.RowKit YtoffehihicabcaaDoorW.PrintWords YtoffehihicabcaaDoorW.PrintLast YtoffehihicabcaaDoorW.PrintMore YtoffehihicabcaaDoor.T
def RestL (G : List Nat) (gone : Nat) (l : List Nat) : Prop := l.Nodup ∧ ∀ u, u ∈ l ↔ bset (lft G gone) u
theorem RestL.tail {G : List Nat} {gone v : Nat} {l : List Nat} (h : RestL G gone (v :: l)) : RestL G (gone ||| 2 ^ v) l := by
 obtain ⟨h1, h2⟩ := h
 rw [List.nodup_cons] at h1
 refine ⟨h1.2, fun u => ?_⟩
 rw [lft_or, diff_bset, two_pow_bit, ← h2 u, List.mem_cons]
 constructor
 ·intro hu; exact ⟨.inr hu, fun e => h1.1 (e ▸ hu)⟩
 ·rintro ⟨rfl | hu, hne⟩
  ·exact absurd rfl hne
  ·exact hu
section
variable {G : List Nat} (hn : G.length ≤ 9)
include hn
end
end Go.Proofs.YtoffehihicabcaaDoor.X
end
section
namespace Go.Proofs.YtoffehihicabcaaDoor.X
open Go.RowKit YtoffehihicabcaaDoorW.PrintWords YtoffehihicabcaaDoorW.PrintLast YtoffehihicabcaaDoorW.PrintMore
attribute [local go_sem] max2_int min2_int max_two min_two max_three min_three max_four min_four
noncomputable section
mutual
def lampblackref02_IsBramble.l0 : Nat → List Int → List Int → List Int → Int → Int → Option (Bool)
 | 0, _, _, _, _, _ => none
 | k + 1, x0, x1, x9, x10, x11 => if x11 < x10 then (if 0 ≤ x11 then (if x11 < (x9.length : Int) then (if x11 ≥ 200 then (lampblackref02_IsBramble.j1 k x0 x1 x11 (rd x9 x11) x9 x10 x11 true) else ((lampblackref02_Connected.f k x0 (rd x9 x11)).bind fun t296 => (lampblackref02_IsBramble.j1 k x0 x1 x11 (rd x9 x11) x9 x10 x11 (!t296)))) else (none)) else (none)) else (some (decide ((x1.length : Int) > 0)))
def lampblackref02_IsBramble.j1 : Nat → List Int → List Int → Int → Int → List Int → Int → Int → Bool → Option (Bool)
 | 0, _, _, _, _, _, _, _, _ => none
 | k + 1, x0, x1, x5, x6, x9, x10, x11, x23 => if x23 = true then (some false) else (if 0 ≤ x5 then (if x5 ≤ (x1.length : Int) then (lampblackref02_IsBramble.l1 k x0 x1 x6 x9 x10 x11 (x1.take (x5 : Int).toNat) ((x1.take (x5 : Int).toNat).length : Int) 0) else (none)) else (none))
def lampblackref02_IsBramble.l1 : Nat → List Int → List Int → Int → List Int → Int → Int → List Int → Int → Int → Option (Bool)
 | 0, _, _, _, _, _, _, _, _, _ => none
 | k + 1, x0, x1, x6, x9, x10, x11, x26, x27, x28 => if x28 < x27 then (if 0 ≤ x28 then (if x28 < (x26.length : Int) then ((lampblackref02_Touch.f k x0 x6 (rd x26 x28)).bind fun t299 => (if t299 = true then (lampblackref02_IsBramble.l1 k x0 x1 x6 x9 x10 x11 x26 x27 (wrap64 (x28 + 1))) else (some false))) else (none)) else (none)) else (lampblackref02_IsBramble.l0 k x0 x1 x9 x10 (wrap64 (x11 + 1)))
end
end
noncomputable section
mutual
def lampblackref02_Cover.l0 : Nat → List Int → Int → Int → Int → Option (Int)
 | 0, _, _, _, _ => none
 | k + 1, x1, x5, x16, x17 => if x17 < x16 then ((lampblackref02_Size.f k x17).bind fun t300 => ((lampblackref02_Size.f k x5).bind fun t301 => (lampblackref02_Cover.l1 k x1 x5 x17 (decide (t300 < t301)) x16 x17 x1 (x1.length : Int) 0))) else (some x5)
def lampblackref02_Cover.l1 : Nat → List Int → Int → Int → Bool → Int → Int → List Int → Int → Int → Option (Int)
 | 0, _, _, _, _, _, _, _, _, _ => none
 | k + 1, x1, x5, x6, x7, x16, x17, x25, x26, x27 => if x27 < x26 then (if 0 ≤ x27 then (if x27 < (x25.length : Int) then (if x7 = true then (lampblackref02_Cover.l1 k x1 x5 x6 ((Go.bits .and .i64 (rd x25 x27) x6) != 0) x16 x17 x25 x26 (wrap64 (x27 + 1))) else (lampblackref02_Cover.l1 k x1 x5 x6 false x16 x17 x25 x26 (wrap64 (x27 + 1)))) else (none)) else (none)) else (if x7 = true then (lampblackref02_Cover.l0 k x1 x6 x16 (wrap64 (x17 + 1))) else (lampblackref02_Cover.l0 k x1 x5 x16 (wrap64 (x17 + 1))))
end
end
noncomputable section
end
noncomputable section
end
noncomputable section
mutual
def lampblackref02_IsNarrow.l0 : Nat → List Int → List Int → Int → Int → List Int → List Int → List Int → List Int → Option (Bool)
 | 0, _, _, _, _, _, _, _, _ => none
 | k + 1, x0, x17, x18, x19, x434000, x434001, x435000, x435001 => if x19 < x18 then (if 0 ≤ x19 then (if x19 < (x17.length : Int) then (lampblackref02_IsNarrow.l1 k x0 x19 (rd x17 x19) false x17 x18 x19 x435000 (x435000.length : Int) 0 x434000 x434001 x435000 x435001) else (none)) else (none)) else ((lampblackref02_IsTree.f k x0 x434000 x434001).bind fun bt435 => (some bt435.2))
def lampblackref02_IsNarrow.l1 : Nat → List Int → Int → Int → Bool → List Int → Int → Int → List Int → Int → Int → List Int → List Int → List Int → List Int → Option (Bool)
 | 0, _, _, _, _, _, _, _, _, _, _, _, _, _, _ => none
 | k + 1, x0, x7, x8, x9, x17, x18, x19, x25, x26, x27, x434000, x434001, x435000, x435001 => if x27 < x26 then (if 0 ≤ x27 then (if x27 < (x25.length : Int) then (if x9 = true then (lampblackref02_IsNarrow.l1 k x0 x7 x8 true x17 x18 x19 x25 x26 (wrap64 (x27 + 1)) x434000 x434001 x435000 x435001) else (lampblackref02_IsNarrow.l1 k x0 x7 x8 (x8 == (rd x25 x27)) x17 x18 x19 x25 x26 (wrap64 (x27 + 1)) x434000 x434001 x435000 x435001)) else (none)) else (none)) else (lampblackref02_IsNarrow.l2 k x0 x7 x8 x9 x17 x18 x19 x434000 (x434000.length : Int) 0 x434000 x434001 x435000 x435001)
def lampblackref02_IsNarrow.l2 : Nat → List Int → Int → Int → Bool → List Int → Int → Int → List Int → Int → Int → List Int → List Int → List Int → List Int → Option (Bool)
 | 0, _, _, _, _, _, _, _, _, _, _, _, _, _, _ => none
 | k + 1, x0, x7, x8, x9, x17, x18, x19, x39, x40, x41, x434000, x434001, x435000, x435001 => if x41 < x40 then (if 0 ≤ x41 then (if x41 < (x39.length : Int) then (if x7 = x41 then (lampblackref02_IsNarrow.l2 k x0 x7 x8 x9 x17 x18 x19 x39 x40 (wrap64 (x41 + 1)) x434000 x434001 x435000 x435001) else (if (Go.bits .andNot .i64 x8 (rd x39 x41)) = 0 then (some false) else (lampblackref02_IsNarrow.l2 k x0 x7 x8 x9 x17 x18 x19 x39 x40 (wrap64 (x41 + 1)) x434000 x434001 x435000 x435001))) else (none)) else (none)) else (if x9 = true then (lampblackref02_IsNarrow.l0 k x0 x17 x18 (wrap64 (x19 + 1)) x434000 x434001 x435000 x435001) else (some false))
end
end
end Go.Proofs.YtoffehihicabcaaDoor.X
end
section
namespace Go.Proofs.YtoffehihicabcaaDoor.X
open Go.RowKit YtoffehihicabcaaDoorW.PrintWords YtoffehihicabcaaDoorW.PrintLast YtoffehihicabcaaDoorW.PrintMore YtoffehihicabcaaDoor.T
theorem list_any (l : List Int) : lampblacklaw02_list.f l = some (l.take 210) := by
 have hm : mn (l.length : Int) 210 = ((min l.length 210 : Nat) : Int) := mn_nat l.length 210
 have ht : l.take (min l.length 210) = l.take 210 := by
  by_cases h : l.length ≤ 210
  ·rw [List.take_of_length_le (by omega), List.take_of_length_le h]
  ·rw [Nat.min_eq_right (by omega)]
 unfold lampblacklaw02_list.f slices_Clone_int_int.f
 simp only [hm, Int.toNat_natCast]
 rw [if_pos (by omega), if_pos (by omega), ht]
 simp only [Option.bind_some, List.nil_append]
 rw [if_pos (by rw [List.length_take, List.length_nil]; omega)]
 rfl
theorem Of_eq (B P : List Int) : lampblacklaw02_Of.f B P = some (B.take 210, P.take 210) := by
 unfold lampblacklaw02_Of.f
 rw [list_any, list_any]
 rfl
theorem td_cut {G : List Nat} (B P : List Int) : (TD G (B.take 210) (P.take 210) ∧ B.take 210 = B ∧ P.take 210 = P) ∨ (¬ TD G (B.take 210) (P.take 210) ∧ ¬ TD G B P) ∨ (B.take 210 = B ∧ P.take 210 = P) := by
 by_cases hb : B.length ≤ 210
 ·by_cases hp : P.length ≤ 210
  ·exact .inr (.inr ⟨List.take_of_length_le hb, List.take_of_length_le hp⟩)
  ·refine .inr (.inl ⟨fun h => ?_, fun h => ?_⟩)
   ·have h1 := h.len; have h2 := h.most
    rw [List.length_take, List.length_take] at h1
    rw [List.length_take] at h2
    omega
   ·have h1 := h.len; have h2 := h.most; omega
 ·refine .inr (.inl ⟨fun h => ?_, fun h => ?_⟩)
  ·have h2 := h.most
   rw [List.length_take] at h2
   omega
  ·have h2 := h.most; omega
theorem td_take {G : List Nat} (B P : List Int) : (TD G (B.take 210) (P.take 210) ↔ TD G B P) ∧ (TD G B P → B.take 210 = B ∧ P.take 210 = P) := by
 rcases td_cut (G := G) B P with ⟨h, h1, h2⟩ | ⟨h1, h2⟩ | ⟨h1, h2⟩
 ·rw [h1, h2]; exact ⟨Iff.rfl, fun _ => ⟨rfl, rfl⟩⟩
 ·exact ⟨⟨fun h => absurd h h1, fun h => absurd h h2⟩, fun h => absurd h h2⟩
 ·rw [h1, h2]; exact ⟨Iff.rfl, fun _ => ⟨rfl, rfl⟩⟩
theorem Check_ev {G : List Nat} (hG : Gr 9 G) (B P : List Int) : ∃ r : Int × Bool × Int, Ev (fun k => width_Check.f k (gi G) B P) r ∧ ((TD G B P ∧ r = ((mostF B B.length 0 0 : Int) - 1, true, 0)) ∨ (¬ TD G B P ∧ r = (0, false, 0))) := by
 have hn := hG.most
 have h1 : Ev (fun k => width_read.f k (gi G)) (gi G, true) := by
  have h := read_ev (gi G) (by rw [gi_length]; omega)
  rw [(chk_iff 9 (by omega) _).2 ⟨G, rfl, hG⟩] at h
  exact h
 have ht : width_town_tree.f (gi G) B P = some (treeB G B P) := by
  unfold width_town_tree.f
  rw [if_pos ((chk_iff 9 (by omega) _).2 ⟨G, rfl, hG⟩), gi_toNatO]
 unfold width_Check.f
 by_cases h : TD G B P
 ·rw [(treeB_iff hG B P).2 h] at ht
  exact ⟨_, Ev.bind h1 (Ev.if_pos rfl (Ev.bind1 ht (Ev.if_pos rfl (Ev.bind (treeWidth_ev hG h) (Ev.some rfl))))), .inl ⟨h, rfl⟩⟩
 ·have hf : treeB G B P = false := by
   cases hb : treeB G B P
   ·rfl
   ·exact absurd ((treeB_iff hG B P).1 hb) h
  rw [hf] at ht
  exact ⟨_, Ev.bind h1 (Ev.if_pos rfl (Ev.bind1 ht (Ev.if_neg (by simp) (Ev.some rfl)))), .inr ⟨h, rfl⟩⟩
section
variable {A PA B PB : List Int} {g : List Int}
end
end Go.Proofs.YtoffehihicabcaaDoor.X
end
section
namespace Go.Proofs.YtoffehihicabcaaDoor.Pure
open Go.RowKit YtoffehihicabcaaDoorW.PrintWords YtoffehihicabcaaDoorW.PrintLast YtoffehihicabcaaDoorW.PrintMore YtoffehihicabcaaDoor.T YtoffehihicabcaaDoor.X
theorem Narrow_yes {G : List Nat} (hG : Gr 9 G) {B P : List Int} (h : TD G B P) : width_Narrow.f (gi G) B P = some ((narN B.length B P).1, (narN B.length B P).2, 0) := by
 unfold width_Narrow.f
 rw [if_pos ((chk_iff 9 (by omega) _).2 ⟨G, rfl, hG⟩), gi_toNatO, if_pos ((treeB_iff hG B P).2 h)]
theorem Narrow_no {G : List Nat} (hG : Gr 9 G) {B P : List Int} (h : ¬ TD G B P) : width_Narrow.f (gi G) B P = some ([], [], 2) := by
 unfold width_Narrow.f
 rw [if_pos ((chk_iff 9 (by omega) _).2 ⟨G, rfl, hG⟩), gi_toNatO, if_neg (fun hx => h ((treeB_iff hG B P).1 hx))]
theorem Narrow_bad (g B P : List Int) (hl : g.length < 1000) (h : chk 9 g = false) : width_Narrow.f g B P = some ([], [], 2) := by
 unfold width_Narrow.f
 rw [if_neg (by rw [h]; simp), if_pos hl]
theorem index_l0 (l : List Int) (x : Int) (hl : l.length ≤ 1000) : ∀ d i, i + d = l.length → (∃ k : Nat, i ≤ k ∧ k < l.length ∧ x = rd l (k : Int)) → ∃ z : Int, 0 ≤ z ∧ Ev (fun k => slices_Index_int_int.l0 k l x (l.length : Int) (i : Int)) z := by
 intro d
 induction d with
 | zero =>
  rintro i hi ⟨k, h1, h2, _⟩
  omega
 | succ d ih =>
  rintro i hi ⟨k, h1, h2, h3⟩
  by_cases e : x = rd l (i : Int)
  ·exact ⟨(i : Int), by omega, Ev.step (f := fun _ => some (i : Int)) (fun m => by rw [slices_Index_int_int.l0, if_pos (by omega), if_pos (by omega), if_pos (by omega), if_pos e]) (Ev.some rfl)⟩
  ·obtain ⟨z, hz, hE⟩ := ih (i + 1) (by omega) ⟨k, by
    by_cases e2 : k = i
    ·subst e2; exact absurd h3 e
    ·omega, h2, h3⟩
   exact ⟨z, hz, Ev.step (fun m => by rw [slices_Index_int_int.l0, if_pos (by omega), if_pos (by omega), if_pos (by omega), if_neg e, wrap_succ i (by omega)]) hE⟩
theorem contains_ev (l : List Int) (x : Int) (hl : l.length ≤ 1000) (h : ∃ k : Nat, k < l.length ∧ x = rd l (k : Int)) : Ev (fun k => slices_Contains_int_int.f k l x) true := by
 obtain ⟨k, h1, h2⟩ := h
 obtain ⟨z, hz, hE⟩ := index_l0 l x hl l.length 0 (by omega) ⟨k, by omega, h1, h2⟩
 have hI : Ev (fun k => slices_Index_int_int.f k l x) z := by
  unfold slices_Index_int_int.f
  exact hE
 unfold slices_Contains_int_int.f
 exact Ev.bind hI (Ev.some (by simpa using hz))
theorem few_l0 (A PB B : List Int) (hA : A.length ≤ 1000) (hB : B.length ≤ 1000) (h : ∀ i : Nat, i < A.length → ∃ k : Nat, k < B.length ∧ rd A (i : Int) = rd B (k : Int)) : ∀ d i, i + d = A.length → Ev (fun k => lampblacklaw02_WidthFew.l0 k A (A.length : Int) (i : Int) B PB) true := by
 intro d
 induction d with
 | zero =>
  intro i hi
  exact Ev.step (fun k => by rw [lampblacklaw02_WidthFew.l0, if_neg (by omega)]) (Ev.bind awake_ev (Ev.some rfl))
 | succ d ih =>
  intro i hi
  refine Ev.step (fun k => by rw [lampblacklaw02_WidthFew.l0, if_pos (by omega), if_pos (by omega), if_pos (by omega), wrap_succ i (by omega)]) (Ev.bind (contains_ev B _ hB (h i (by omega))) (Ev.if_pos rfl (ih (i + 1) (by omega))))
theorem few_law (g B P : List Int) (hg : g.length < 2 ^ 44) : Ev (fun k => lampblacklaw02_WidthFew.f k g B P) true := by
 obtain ⟨h, e, e1, e2, e3⟩ := few_eq g hg
 unfold lampblacklaw02_WidthFew.f
 refine Ev.bind1 e (Ev.bind1 (Of_eq B P) ?_)
 by_cases hc : chk 9 g = true
 ·obtain ⟨G, rfl, hG⟩ := (chk_iff 9 (by omega) _).1 hc
  rw [e1 hc] at e ⊢
  have hn := hG.most
  obtain ⟨t1, t2⟩ := td_take (G := G) B P
  by_cases ht : TD G B P
  ·have hof := Of_eq B P
   rw [(t2 ht).1, (t2 ht).2] at hof ⊢
   obtain ⟨s1, s2, s3⟩ := nar_spec hG B.length B P (Nat.le_refl _) ht
   have hfew := nar_few hG s1 s2
   obtain ⟨r1, hr1, hr1'⟩ := Check_ev hG (narN B.length B P).1 (narN B.length B P).2
   obtain ⟨r2, hr2, hr2'⟩ := Check_ev hG B P
   have q1 : r1 = ((mostF (narN B.length B P).1 (narN B.length B P).1.length 0 0 : Int) - 1, true, 0) := by
    rcases hr1' with ⟨_, e5⟩ | ⟨h5, _⟩
    ·exact e5
    ·exact absurd s1 h5
   have q2 : r2 = ((mostF B B.length 0 0 : Int) - 1, true, 0) := by
    rcases hr2' with ⟨_, e5⟩ | ⟨h5, _⟩
    ·exact e5
    ·exact absurd ht h5
   subst q1 q2
   have hle : mostF (narN B.length B P).1 (narN B.length B P).1.length 0 0 ≤ mostF B B.length 0 0 := mostF_le_of _ _ _ 0 0 (Nat.zero_le _) fun j _ hj => by
    obtain ⟨k, hk, ek⟩ := s3 j (by omega)
    rw [ek]
    exact (mostF_mono B B.length 0 0).2 k (by omega) (by omega)
   refine Ev.bind1 (Narrow_yes hG ht) (Ev.if_pos rfl (Ev.bind1 e (Ev.bind hr1 (Ev.bind1 e (Ev.bind1 hof (Ev.bind hr2 (Ev.if_pos rfl (Ev.if_pos rfl (Ev.if_pos rfl (Ev.if_pos rfl (Ev.if_neg ?_ ?_)))))))))))
   ·show ¬ ((mostF (narN B.length B P).1 (narN B.length B P).1.length 0 0 : Int) - 1 > (mostF B B.length 0 0 : Int) - 1)
    omega
   ·have hd : decide (((narN B.length B P).1.length : Int) > ((gi G).length : Int)) = false := decide_eq_false (by rw [gi_length]; omega)
    rw [hd]
    refine Ev.step (fun k => by rw [lampblacklaw02_WidthFew.j0, if_neg (by simp)]) ?_
    exact few_l0 _ P B (by omega) (by have := ht.most; omega) s3 (narN B.length B P).1.length 0 (by omega)
  ·exact Ev.bind1 (Narrow_no hG fun h => ht (t1.1 h)) (Ev.if_neg (by simp) (Ev.if_pos rfl (Ev.bind awake_ev (Ev.some rfl))))
 ·have hc' : chk 9 g = false := by simpa using hc
  exact Ev.bind1 (Narrow_bad h _ _ (by omega) (e2 hc')) (Ev.if_neg (by simp) (Ev.if_pos rfl (Ev.bind awake_ev (Ev.some rfl))))
theorem WidthFew : ∀ (l0 l1 l2 : List Int), l0.length ≤ maxLen → l0.length * 8 ≤ 140737488351232 → (∀ x ∈ l0, (Lit.int .i64 x).wf = true) → l1.length ≤ maxLen → l2.length ≤ maxLen → ∃ k, lampblacklaw02_WidthFew.f k l0 l1 l2 = some true := by
 intro g B P _ hg _ _ _
 exact Ev.rounds (few_law g B P (by omega))
end Go.Proofs.YtoffehihicabcaaDoor.Pure
end
section
namespace Go.Proofs.YtoffehihicabcaaDoor.X
open Go.RowKit Go.ChangeShapes Go.WideShapes
def RowI (w : World) (a : Option Addr) (len cap : Nat) (zs : List Int) : Prop :=
 (a = none ∧ len = 0 ∧ cap = 0 ∧ zs = []) ∨ ∃ x, a = some x ∧ len ≤ cap ∧ cap ≤ maxLen ∧ zs.length = cap ∧ (∀ i, i < zs.length → w.cell? (x.add i) = some (.int .i64 (zs.getD i 0))) ∧ ∀ n ∈ zs, (Lit.int .i64 n).wf = true
section
variable {H : Type} {enc : TypeId × Value → H} {P : Program} {w : World} {base : Nat} {spare : Nat → Bool} {held : Bool}
theorem open_rowI {t e : TypeId} {fuel : Nat} {c : Value} {x : DataW H × List MemPlace} (hsp : ∀ b, spare b = true) (ht : P.underlying t = some (.slice e)) (he : P.underlying e = some (.int .i64)) (hc : P.cellsOf e = 1)
  (h : DataW.trod enc P w base spare held fuel t [c] = some x) : ∃ a len cap zs, c = .slice a len cap ∧ RowI w a len cap zs := by
 rcases open_ints ht he hc h with ⟨hcs, _⟩ | ⟨ad, l, cp, zs, hcs, _, hl, hm, hz, _, hcell, hwz⟩
 ·simp at hcs
  exact ⟨none, 0, 0, [], hcs, .inl ⟨rfl, rfl, rfl, rfl⟩⟩
 ·simp at hcs
  exact ⟨some ad, l, cp, zs, hcs, .inr ⟨ad, rfl, hl, hm, by rw [hz, hsp]; rfl, hcell, hwz⟩⟩
theorem open_tree {t : TypeId} (e : TypeId) {f0 f1 : Field} {v : Value} {d : DataW H} {ps : List MemPlace} (hsp : ∀ b, spare b = true) (ht : P.underlying t = some (.struct #[f0, f1])) (h0 : P.underlying f0.type = some (.slice e)) (h1 : P.underlying f1.type = some (.slice e)) (he : P.underlying e = some (.int .i64)) (hc : P.cellsOf e = 1)
  (hC : P.cellsOf t = 2) (o0 : f0.offset = 0) (o1 : f1.offset = 1) (c0 : P.cellsOf f0.type = 1) (c1 : P.cellsOf f1.type = 1) (hv : ∃ cs, v = .agg cs ∧ cs.size = P.cellsOf t) (h : DataW.Trod enc P w base spare held t v d ps) :
  ∃ a0 n0 k0 z0 a1 n1 k1 z1, v = .agg #[.slice a0 n0 k0, .slice a1 n1 k1] ∧ RowI w a0 n0 k0 z0 ∧ RowI w a1 n1 k1 z1 := by
 obtain ⟨cs, rfl, hs⟩ := hv
 obtain ⟨fuel, hf⟩ := h
 obtain ⟨xs, n, _, _, hl, hxl, hf⟩ := DataW.trod_struct ht hf
 rw [hC] at hs
 obtain ⟨l⟩ := cs
 match l, hs with
 | [u0, u1], _ =>
  have g0 := hf 0 f0 rfl
  have g1 := hf 1 f1 rfl
  rw [o0, c0] at g0
  rw [o1, c1] at g1
  have y0 : xs[0]? = some (xs[0]'(by rw [hxl]; show 0 < 2; omega)) := List.getElem?_eq_getElem _
  have y1 : xs[1]? = some (xs[1]'(by rw [hxl]; show 1 < 2; omega)) := List.getElem?_eq_getElem _
  obtain ⟨a0, n0, k0, z0, e0, r0⟩ := open_rowI (c := u0) hsp h0 he hc (g0.trans y0)
  obtain ⟨a1, n1, k1, z1, e1, r1⟩ := open_rowI (c := u1) hsp h1 he hc (g1.trans y1)
  subst e0
  subst e1
  exact ⟨a0, n0, k0, z0, a1, n1, k1, z1, rfl, r0, r1⟩
end
end Go.Proofs.YtoffehihicabcaaDoor.X
end
