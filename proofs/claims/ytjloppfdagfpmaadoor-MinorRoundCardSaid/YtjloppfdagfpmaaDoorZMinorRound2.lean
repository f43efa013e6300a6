/- Part 2 of what MinorRound rests on: contracts of the functions that it reaches, and what they compute, in plain words. -/
import Derived.Test.YtjloppfdagfpmaaDoorZMinorRound1
import Derived.Test.YtjloppfdagfpmaaDoorZMinorRound0
import Derived.WalkSpells
set_option linter.unusedVariables false
set_option linter.unusedSimpArgs false
section
/- (*minor.reduction).do and (minor.town).reduction, by hand. -/
namespace Go.Proofs.YtjloppfdagfpmaaDoor.X
open Go.RowKit YtjloppfdagfpmaaDoorW.PrintWords YtjloppfdagfpmaaDoorW.PrintLast YtjloppfdagfpmaaDoorW.PrintMore YtjloppfdagfpmaaDoor.T
attribute [local go_sem] max2_int min2_int max_two min_two max_three min_three max_four min_four
structure RS (w0 W : World) (rB gT cT : Nat) (J : List Nat) (left : Nat) : Prop where
 blk : W.heap[rB]? = some (.cells #[.slice (some ⟨gT, 0, none⟩) J.length cT, .int .i64 (left : Int)] 94 (0, 0))
 row : Kd.R (Kd.int .i64) 3 W w0.heap.size (fun k => k = gT) (.slice (some ⟨gT, 0, none⟩) J.length cT) (gi J)
 below : Below w0.heap.size w0 W
 ge : w0.heap.size ≤ rB
 ne : rB ≠ gT
 inn : InN J.length J
theorem RS.low {w0 W V : World} {rB gT cT : Nat} {J : List Nat} {left : Nat} (h : RS w0 W rB gT cT J left) (hb : Below W.heap.size W V) : RS w0 V rB gT cT J left :=
 ⟨blk_below h.blk hb, Kd.R_below h.row hb, below_step h.below hb, h.ge, h.ne, h.inn⟩
theorem RS.kept {w0 W V : World} {rB gT cT : Nat} {J : List Nat} {left : Nat} {S : Nat → Prop} (h : RS w0 W rB gT cT J left) (hk : Kept W V S) (hB : Below w0.heap.size w0 V) (h1 : ¬ S rB) (h2 : ¬ S gT) : RS w0 V rB gT cT J left :=
 ⟨blk_kept h.blk hk h1, Kd.R_kept h.row hk (fun k e => by rw [e]; exact h2), hB, h.ge, h.ne, h.inn⟩
theorem RS.C {w0 W : World} {rB gT cT : Nat} {J : List Nat} {left : Nat} (h : RS w0 W rB gT cT J left) : J.length ≤ cT ∧ Kd.C (Kd.int .i64) W (some ⟨gT, 0, none⟩) J.length (gi J) := by
 obtain ⟨A, c, e, hc, hC⟩ := Kd.R_reads h.row
 rw [gi_length] at e hc hC
 injection e with e1 e2 e3
 subst e1 e3
 exact ⟨hc, hC⟩
theorem RS.set {w0 W : World} {rB gT cT : Nat} {J : List Nat} {left : Nat} (h : RS w0 W rB gT cT J left) (l2 : Nat) : RS w0 (W.setCell ⟨rB, 1, none⟩ (.int .i64 (l2 : Int))) rB gT cT J l2 :=
 ⟨blk_put h.blk 1 _ rfl, Kd.R_far (p := ⟨rB, 1, none⟩) h.row (fun k e => by rw [e]; exact fun h2 => h.ne h2.symm) _, below_set h.below h.ge, h.ge, h.ne, h.inn⟩
set_option maxHeartbeats 8000000 in
set_option maxRecDepth 100000 in
theorem do_calls (w0 W : World) (rB gT cT : Nat) (J : List Nat) (left : Nat) (hS : RS w0 W rB gT cT J left) (hJ9 : J.length ≤ 9) (hl : left < 512) (v : Nat) (hv : v < 9) (kd A B : Int) (J2 : List Nat) (hJ2 : (kd ≠ 2 ∧ J2 = J) ∨ (kd = 2 ∧ ∃ a b : Nat, A = (a : Int) ∧ B = (b : Int) ∧ a < J.length ∧ b < J.length ∧ J2 = joinN J a b)) :
  Calls Tryd.prog 80 #[.pointer (some ⟨rB, 0, none⟩), .agg #[.int .i64 kd, .int .i64 (v : Int), .int .i64 A, .int .i64 B]] W fun e w' => e = .returned (.tuple #[]) ∧ RS w0 w' rB gT cT J2 (diff left (2 ^ v)) ∧ Kept W w' (fun k => k = rB ∨ k = gT) := by
 obtain ⟨N, ⟨hS1, hS2, hS3⟩, hNv⟩ := shJ v (by omega)
 have hp9 : 2 ^ v < 2 ^ 62 := Nat.pow_lt_pow_right (by omega) (by omega)
 have hl2 : Go.bits .andNot .i64 (left : Int) N = ((diff left (2 ^ v) : Nat) : Int) := by rw [hNv]; exact b_andNot _ _ (by omega) hp9
 generalize diff left (2 ^ v) = l2 at *
 have HN := Aside0.mk hNv
 clear hNv hp9
 have hrB := blk_lt hS.blk
 go_enter Tryd.func80, Tryd.ntmps80
 go_wp2_with ((with_reducible refine gate_dst (N := 3) rfl ?_); refine box_event ?hg (N := 3) ?hd (cs := #[.int .i64 kd, .int .i64 (v : Int), .int .i64 A, .int .i64 B]) (t := 95) ?hr ?_; (case hd => rfl); (case hg => rfl); (case hr => first | (go_simp; done) | (go_simp; rfl)); intro sB hsB w1 hs1 hb1; have hr1 := Aside0.mk (hS.low hb1); have f0d : w1.drew.cell? ⟨rB, 1, none⟩ = some (.int .i64 (left : Int)) := (blk_cell hr1.out.blk 1).trans rfl; have f1d : w1.drew.cell? ⟨sB, 1, none⟩ = some (.int .i64 (v : Int)) := (blk_cell hs1 1).trans rfl; have f2d : w1.drew.frozen? ⟨rB, 1, none⟩ = false := blk_frozen hr1.out.blk 1; have HS1 := Aside0.mk hs1; have HB1 := Aside0.mk hb1; have HSB := Aside0.mk hsB; clear hs1 hb1 hsB)
 refine start_ (n := 11) (S := fun w' => w'.cell? ⟨rB, 1, none⟩ = some (.int .i64 (left : Int)) ∧ w'.cell? ⟨sB, 1, none⟩ = some (.int .i64 (v : Int)) ∧ w'.frozen? ⟨rB, 1, none⟩ = false) (ds := [10]) (Qbz 11 0) (by kernel_rfl) rfl rfl ⟨f0d, f1d, f2d⟩ (fun hHeld => ?_)
 refine pure_ (i := 0) (N := some 4) (v := ?_) (a' := ?_) (Qbz 11 1) rfl rfl (by kernel_rfl) (fun _ _ _ h => h) (Or.inl ⟨by rfl, ?_⟩) ?_ ?_
 rotate_left
 ·intro w'
  go_simp
  with_reducible rfl
 rotate_left
 ·simp only [Act.put, Qp1, Qp2, Qp3, i64_w, i32_w]
  rfl
 refine pure_ (i := 1) (N := some 5) (v := ?_) (a' := ?_) (Qbz 11 3) rfl rfl (by kernel_rfl) (fun _ _ _ h => h) (Or.inl ⟨by rfl, ?_⟩) ?_ ?_
 rotate_left
 ·intro w'
  go_simp
  with_reducible rfl
 rotate_left
 ·simp only [Act.put, Qp1, Qp2, Qp3, i64_w, i32_w]
  rfl
 refine pure_ (i := 2) (N := some 6) (v := ?_) (a' := ?_) (Qbz 11 7) rfl rfl (by kernel_rfl) (fun _ _ _ h => h) (Or.inl ⟨by rfl, ?_⟩) ?_ ?_
 rotate_left
 ·intro w'
  go_simp
  with_reducible rfl
 rotate_left
 ·simp only [Act.put, Qp1, Qp2, Qp3, i64_w, i32_w]
  rfl
 refine pure_ (i := 4) (N := some 8) (v := ?_) (a' := ?_) (Qbz 11 23) rfl rfl (by kernel_rfl) (fun _ _ _ h => h) (Or.inl ⟨by rfl, ?_⟩) ?_ ?_
 rotate_left
 ·intro w'
  go_simp
  with_reducible rfl
 rotate_left
 ·simp only [Act.put, Qp1, Qp2, Qp3, i64_w, i32_w]
  rfl
 refine take_ (i := 3) (N := some 7) (v := ?_) (a' := ?_) (Qbz 11 31) rfl rfl (by kernel_rfl) (fun _ _ _ h => h) (Or.inl ⟨by rfl, ?_⟩) hHeld ?_ ?_
 rotate_left
 ·rintro w' ⟨s0, s1, s2⟩
  go_simp
  with_reducible rfl
 rotate_left
 ·simp only [Act.put, Qp1, Qp2, Qp3, i64_w, i32_w]
  rfl
 refine take_ (i := 5) (N := some 9) (v := ?_) (a' := ?_) (Qbz 11 63) rfl rfl (by kernel_rfl) (fun _ _ _ h => h) (Or.inl ⟨by rfl, ?_⟩) hHeld ?_ ?_
 rotate_left
 ·rintro w' ⟨s0, s1, s2⟩
  go_simp
  with_reducible rfl
 rotate_left
 ·simp only [Act.put, Qp1, Qp2, Qp3, i64_w, i32_w]
  rfl
 refine pure_ (i := 6) (N := some 10) (v := ?_) (a' := ?_) (Qbz 11 127) rfl rfl (by kernel_rfl) (fun _ _ _ h => h) (Or.inl ⟨by rfl, ?_⟩) ?_ ?_
 rotate_left
 ·intro w'
  go_simp
  with_reducible rfl
 rotate_left
 ·simp only [Act.put, Qp1, Qp2, Qp3, i64_w, i32_w]
  rfl
 refine pure_ (i := 7) (N := some 11) (v := ?_) (a' := ?_) (Qbz 11 255) rfl rfl (by kernel_rfl) (fun _ _ _ h => h) (Or.inl ⟨by rfl, ?_⟩) ?_ ?_
 rotate_left
 ·intro w'
  go_simp
  with_reducible rfl
 rotate_left
 ·simp only [Act.put, Qp1, Qp2, Qp3, i64_w, i32_w]
  rfl
 refine pure_ (i := 8) (N := some 12) (v := ?_) (a' := ?_) (Qbz 11 511) rfl rfl (by kernel_rfl) (fun _ _ _ h => h) (Or.inl ⟨by rfl, ?_⟩) ?_ ?_
 rotate_left
 ·intro w'
  go_simp
  with_reducible rfl
 rotate_left
 ·simp only [Act.put, Qp1, Qp2, Qp3, i64_w, i32_w]
  rfl
 refine pure_ (i := 9) (N := some 13) (v := ?_) (a' := ?_) (Qbz 11 1023) rfl rfl (by kernel_rfl) (fun _ _ _ h => h) (Or.inl ⟨by rfl, ?_⟩) ?_ ?_
 rotate_left
 ·intro w'
  go_simp
  with_reducible rfl
 rotate_left
 ·simp only [Act.put, Qp1, Qp2, Qp3, i64_w, i32_w]
  rfl
 refine last_ (i := 10) (N := none) (Qbz 11 2047) rfl rfl (by kernel_rfl) (by decide) (fun K hK => ?_)
 refine skip_ (w1 := ?_) (by rfl) rfl ?_ ?_
 rotate_left
 ·go_simp
  rfl
 refine hK.out _ _ ?_
 clear hK K
 refine done_ (by kernel_rfl) ?_
 obtain ⟨w2, hw2⟩ : ∃ w2 : World, w2 = (w1.setCell ⟨rB, 1, none⟩ (.int .i64 (l2 : Int))).drew := ⟨_, rfl⟩
 rw [← hw2]
 have hne : sB ≠ rB := by have := HSB.out; omega
 have hs2 : w2.heap[sB]? = some (.cells #[.int .i64 kd, .int .i64 (v : Int), .int .i64 A, .int .i64 B] 95 (0, 0)) := by rw [hw2]; exact blk_far (p := ⟨rB, 1, none⟩) HS1.out hne _
 have HR2 : Aside0 (RS w0 w2 rB gT cT J l2) := ⟨by
  have h := (hr1.out.set l2).low (pw_below_drewN (Below.refl _ _) 1)
  rw [hw2]
  exact ⟨h.blk, h.row, h.below, h.ge, h.ne, h.inn⟩⟩
 have HK2 : Aside0 (Kept W w2 (fun k => k = rB ∨ k = gT)) := ⟨by
  rw [hw2]
  exact ((Kept.of_below HB1.out _).setCell (p := ⟨rB, 1, none⟩) (.inl (.inl rfl)) _).drew⟩
 have g0 : w2.cell? ⟨sB, 0, none⟩ = some (.int .i64 kd) := (blk_cell hs2 0).trans rfl
 have g2 : w2.drew.cell? ⟨sB, 2, none⟩ = some (.int .i64 A) := (blk_cell hs2 2).trans rfl
 have g3 : w2.drew.cell? ⟨sB, 3, none⟩ = some (.int .i64 B) := (blk_cell hs2 3).trans rfl
 have g4 : w2.drew.cell? ⟨rB, 0, none⟩ = some (.slice (some ⟨gT, 0, none⟩) J.length cT) := (blk_cell HR2.out.blk 0).trans rfl
 clear hw2 hs2 hS hHeld f0d f1d f2d hS1 hS2 hS3
 rcases hJ2 with ⟨hk, rfl⟩ | ⟨hk, a, b, rfl, rfl, ha, hb, rfl⟩
 ·have hk1 : (kd == 2) = false := beq_eq_false_iff_ne.2 hk
  go_wp2
  first | go_end0 | ((try simp only [Exit.inBlock, Exit.then]); refine bodyPost_ret (results_none rfl _ _ _) rfl ?_)
  exact ⟨rfl, HR2.out, HK2.out⟩
 ·subst hk
  have HJ := Aside0.mk (join_eq hJ9 HR2.out.inn ha hb)
  have HIN := Aside0.mk (HR2.out.inn.join ha hb)
  have CJ : Aside0 (Calls Tryd.prog 62 #[.slice (some ⟨gT, 0, none⟩) J.length cT, .int .i64 (a : Int), .int .i64 (b : Int)] w2.drew fun e w' => e = .returned (.tuple #[]) ∧ RS w0 w' rB gT cT (joinN J a b) l2 ∧ Kept w2 w' (fun k => k = gT)) := ⟨by
   have h2 := HR2.out
   refine (minor_town_join.calls (fun k => k = gT) _ (gi J) (a : Int) (b : Int) _ w0 w2.drew h2.below.drew (Kd.R_drew h2.row) HJ.out).mono ?_
   rintro e w' ⟨rfl, hR, hB, hK⟩
   have hgl : gT < w2.heap.size := by
    obtain ⟨inner, ho⟩ := Kd.R_own h2.row
    exact own_lt2 ho gT rfl
   have hK' : Kept w2 w' (fun k => k = gT) := hK
   have hR2 : Kd.R (Kd.int .i64) 3 w' w0.heap.size (fun k => k = gT) (.slice (some ⟨gT, 0, none⟩) (joinN J a b).length cT) (gi (joinN J a b)) := by
    have e : (joinN J a b).length = J.length := HIN.out.1
    rw [e]
    exact ⟨fun k hk => by simp [Value.ownBlock] at hk; exact hk.symm, hR.2⟩
   exact ⟨rfl, ⟨by
    have e : (joinN J a b).length = J.length := HIN.out.1
    rw [e]
    exact blk_kept h2.blk hK' h2.ne, hR2, hB, h2.ge, h2.ne, by
    have e : (joinN J a b).length = J.length := HIN.out.1
    rw [e]
    exact HIN.out⟩, hK'⟩⟩
  go_wp2
  refine start_ (n := 9) (S := fun w' => w'.cell? ⟨sB, 2, none⟩ = some (.int .i64 (a : Int)) ∧ w'.cell? ⟨sB, 3, none⟩ = some (.int .i64 (b : Int)) ∧ w'.cell? ⟨rB, 0, none⟩ = some (.slice (some ⟨gT, 0, none⟩) J.length cT)) (ds := [8]) (Qbz 9 0) (by kernel_rfl) rfl rfl ⟨g2, g3, g4⟩ (fun hHeld => ?_)
  refine pure_ (i := 0) (N := some 17) (v := ?_) (a' := ?_) (Qbz 9 1) rfl rfl (by kernel_rfl) (fun _ _ _ h => h) (Or.inl ⟨by rfl, ?_⟩) ?_ ?_
  rotate_left
  ·intro w'
   go_simp
   with_reducible rfl
  rotate_left
  ·simp only [Act.put, Qp1, Qp2, Qp3, i64_w, i32_w]
   rfl
  refine pure_ (i := 1) (N := some 18) (v := ?_) (a' := ?_) (Qbz 9 3) rfl rfl (by kernel_rfl) (fun _ _ _ h => h) (Or.inl ⟨by rfl, ?_⟩) ?_ ?_
  rotate_left
  ·intro w'
   go_simp
   with_reducible rfl
  rotate_left
  ·simp only [Act.put, Qp1, Qp2, Qp3, i64_w, i32_w]
   rfl
  refine pure_ (i := 2) (N := some 19) (v := ?_) (a' := ?_) (Qbz 9 7) rfl rfl (by kernel_rfl) (fun _ _ _ h => h) (Or.inl ⟨by rfl, ?_⟩) ?_ ?_
  rotate_left
  ·intro w'
   go_simp
   with_reducible rfl
  rotate_left
  ·simp only [Act.put, Qp1, Qp2, Qp3, i64_w, i32_w]
   rfl
  refine pure_ (i := 4) (N := some 21) (v := ?_) (a' := ?_) (Qbz 9 23) rfl rfl (by kernel_rfl) (fun _ _ _ h => h) (Or.inl ⟨by rfl, ?_⟩) ?_ ?_
  rotate_left
  ·intro w'
   go_simp
   with_reducible rfl
  rotate_left
  ·simp only [Act.put, Qp1, Qp2, Qp3, i64_w, i32_w]
   rfl
  refine pure_ (i := 6) (N := some 23) (v := ?_) (a' := ?_) (Qbz 9 87) rfl rfl (by kernel_rfl) (fun _ _ _ h => h) (Or.inl ⟨by rfl, ?_⟩) ?_ ?_
  rotate_left
  ·intro w'
   go_simp
   with_reducible rfl
  rotate_left
  ·simp only [Act.put, Qp1, Qp2, Qp3, i64_w, i32_w]
   rfl
  refine take_ (i := 3) (N := some 20) (v := ?_) (a' := ?_) (Qbz 9 95) rfl rfl (by kernel_rfl) (fun _ _ _ h => h) (Or.inl ⟨by rfl, ?_⟩) hHeld ?_ ?_
  rotate_left
  ·rintro w' ⟨s0, s1, s2⟩
   go_simp
   with_reducible rfl
  rotate_left
  ·simp only [Act.put, Qp1, Qp2, Qp3, i64_w, i32_w]
   rfl
  refine take_ (i := 5) (N := some 22) (v := ?_) (a' := ?_) (Qbz 9 127) rfl rfl (by kernel_rfl) (fun _ _ _ h => h) (Or.inl ⟨by rfl, ?_⟩) hHeld ?_ ?_
  rotate_left
  ·rintro w' ⟨s0, s1, s2⟩
   go_simp
   with_reducible rfl
  rotate_left
  ·simp only [Act.put, Qp1, Qp2, Qp3, i64_w, i32_w]
   rfl
  refine take_ (i := 7) (N := some 24) (v := ?_) (a' := ?_) (Qbz 9 255) rfl rfl (by kernel_rfl) (fun _ _ _ h => h) (Or.inl ⟨by rfl, ?_⟩) hHeld ?_ ?_
  rotate_left
  ·rintro w' ⟨s0, s1, s2⟩
   go_simp
   with_reducible rfl
  rotate_left
  ·simp only [Act.put, Qp1, Qp2, Qp3, i64_w, i32_w]
   rfl
  refine last_ (i := 8) (N := some 25) (Qbz 9 511) rfl rfl (by kernel_rfl) (by decide) (fun K hK => ?_)
  refine goes_ Tryd.func62 (by kernel_rfl) rfl #[.slice (some ⟨gT, 0, none⟩) J.length cT, .int .i64 (a : Int), .int .i64 (b : Int)] (by rfl) rfl rfl (by simp only [List.map_toArray, List.map_cons, List.map_nil]; rfl) ?_
  with_reducible refine (CJ.out).mono ?_
  rintro e w9 ⟨rfl, hR9, hK9⟩
  refine ⟨_, rfl, ?_⟩
  refine hK.out _ _ ?_
  clear hK K
  refine norm_ (a' := ?_) ?_ ?_
  rotate_left
  ·show Act.put _ (some 25) _ = _
   simp only [Act.put, Qp1, Qp2, Qp3, i64_w, i32_w]
   rfl
  refine done_ (by kernel_rfl) ?_
  go_wp2
  first | go_end0 | ((try simp only [Exit.inBlock, Exit.then]); refine bodyPost_ret (results_none rfl _ _ _) rfl ?_)
  exact ⟨rfl, hR9, HK2.out.then_ hK9 (fun k e => .inl (.inr e))⟩
end Go.Proofs.YtjloppfdagfpmaaDoor.X
end
section
/- (minor.town).reduction and minor.Reduce, by hand. -/
namespace Go.Proofs.YtjloppfdagfpmaaDoor.X
open Go.RowKit YtjloppfdagfpmaaDoorW.PrintWords YtjloppfdagfpmaaDoorW.PrintLast YtjloppfdagfpmaaDoorW.PrintMore YtjloppfdagfpmaaDoor.T
attribute [local go_sem] max2_int min2_int max_two min_two max_three min_three max_four min_four
set_option maxHeartbeats 4000000 in
set_option maxRecDepth 100000 in
theorem reduction_calls (A0 : Option Addr) (c0 : Nat) (G : List Nat) (hG : Gr 8 G) (hc0 : G.length ≤ c0) (w : World) (hr0 : Kd.C (Kd.int .i64) w A0 G.length (gi G)) :
  Calls Tryd.prog 78 #[.slice A0 G.length c0] w fun e w' => ∃ rB gT cT, e = .returned (.pointer (some ⟨rB, 0, none⟩)) ∧ RS w w' rB gT cT G (2 ^ G.length - 1) := by
 have hn := hG.most
 have hp := hG.pos
 have HR0 := Aside0.mk hr0
 have HIN := Aside0.mk (gr_in hG)
 have hcl : minor_town_int.f (gi G) = some (gi G) := by
  unfold minor_town_int.f
  simp only [Option.bind_some, List.nil_append, List.length_nil]
  rw [if_pos (by rw [gi_length]; omega)]
 have CCL : Aside0 (Calls Tryd.prog 77 #[.slice A0 G.length c0] w fun e w' => ∃ gT cT, e = .returned (.slice (some ⟨gT, 0, none⟩) G.length cT) ∧ Kd.R (Kd.int .i64) 3 w' w.heap.size (fun k => k = gT) (.slice (some ⟨gT, 0, none⟩) G.length cT) (gi G) ∧ Below w.heap.size w w') := ⟨by
  have := minor_town_int.calls A0 c0 (gi G) (gi G) w (by rw [gi_length]; exact hr0) (by rw [gi_length]; exact hc0) hcl
  rw [gi_length] at this
  refine this.mono ?_
  rintro e w' ⟨v, rfl, hR, hb⟩
  obtain ⟨inner, ho⟩ := Kd.R_own hR
  rw [gi_length] at ho
  obtain ⟨k, hk⟩ : ∃ k, G.length = k + 1 := ⟨G.length - 1, by omega⟩
  rw [hk] at ho
  obtain ⟨g, c, rfl⟩ := own_succ ho
  rw [← hk] at *
  exact ⟨g, c, rfl, ⟨fun q hq => by simp [Value.ownBlock] at hq; exact hq.symm, hR.2⟩, hb⟩⟩
 have CAL : Aside0 (∀ W, Below w.heap.size w W → Calls Tryd.prog 66 #[.slice A0 G.length c0] W fun e w' => e = .returned (.int .i64 ((2 ^ G.length - 1 : Nat) : Int)) ∧ Drawn0 W w') := ⟨fun W hW => by
  have := minor_town_all.calls A0 c0 (gi G) _ W (by rw [gi_length]; exact Kd.C_below HR0.out hW) (by rw [gi_length]; exact hc0) (all_eq G (by omega))
  rw [gi_length] at this
  exact this⟩
 generalize 2 ^ G.length - 1 = T at *
 clear hr0 hG hcl
 go_enter Tryd.func78, Tryd.ntmps78
 go_wp2_with (first
  | (go_at_call 77; refine CCL.out.mono ?_; rintro e w1 ⟨gT, cT, rfl, hR, hb⟩; have HR := Aside0.mk hR; have HB := Aside0.mk hb; clear hR hb)
  | (go_at_call 66; refine (CAL.out _ HB.out).mono ?_; rintro e w2 ⟨rfl, m, rfl⟩)
  | ((with_reducible refine gate_dst (N := 8) rfl ?_); refine box_event ?hg (N := 8) ?hd (cs := #[.slice (some ⟨gT, 0, none⟩) G.length cT, .int .i64 (T : Int)]) (t := 94) ?hr ?_; (case hd => rfl); (case hg => rfl); (case hr => first | (go_simp; done) | (go_simp; rfl)); intro rB hga w7 hbox hb7; have HGA := Aside0.mk hga; have HBX := Aside0.mk hbox; have HB7 := Aside0.mk hb7; clear hga hbox hb7))
 go_ret
 have hR1 : Kd.R (Kd.int .i64) 3 (w1.drewN m) w.heap.size (fun k => k = gT) (.slice (some ⟨gT, 0, none⟩) G.length cT) (gi G) := Kd.R_drewN HR.out m
 have hgl : gT < w1.heap.size := by
  obtain ⟨inner, ho⟩ := Kd.R_own HR.out
  exact own_lt2 ho gT rfl
 have hge : rB = w1.heap.size := HGA.out
 refine ⟨_, _, _, rfl, HBX.out, Kd.R_below hR1 HB7.out, below_step (pw_below_drewN HB.out m) HB7.out, by rw [hge]; exact HB.out.size, by omega, HIN.out⟩
def nearL (J : List Nat) (left v : Nat) : List Nat := els (J.getD v 0 &&& left) 9
def stepS (J : List Nat) (left v : Nat) : S95 := ⟨((nearL J left v).length : Int), (v : Int), sA (nearL J left v), sB (nearL J left v)⟩
def nextJ (J : List Nat) (left v : Nat) : List Nat := match nearL J left v with
 | [a, b] => joinN J a b
 | _ => J
def pick (J : List Nat) (left : Nat) : Option Nat := (els left 9).find? fun v => decide ((nearL J left v).length ≤ 2)
def redN : Nat → List Nat → Nat → List S95 → List S95 × Int
 | 0, _, _, _ => ([], 4)
 | k + 1, J, left, out => if left = 0 then (out, 0) else match pick J left with
  | none => ([], 4)
  | some v => redN k (nextJ J left v) (diff left (2 ^ v)) (out ++ [stepS J left v])
def minor_Reduce.f (g : List Int) : Option (List S95 × Int) :=
 if g.length < 1000 then some (if chk 8 g = true then redN 10 (g.map Int.toNat) (2 ^ g.length - 1) [] else ([], 2)) else none
def cells4 (x : S95) : List Value := [.int .i64 x.f0, .int .i64 x.f1, .int .i64 x.f2, .int .i64 x.f3]
def enc4 (x : S95) (c : List Value) : Prop := c = cells4 x
theorem RS.typed {w0 W : World} {rB gT cT : Nat} {J : List Nat} {left : Nat} (h : RS w0 W rB gT cT J left) : ∃ cs, W.heap[gT]? = some (.cells cs 3 (0, 0)) := by
 obtain ⟨inner, ho⟩ := Kd.R_own h.row
 exact own_typed ho gT rfl
theorem RS.not_own {w0 W : World} {rB gT cT : Nat} {J : List Nat} {left : Nat} (h : RS w0 W rB gT cT J left) {base size k : Nat} {v : Value} {xs : List Value} (ho : W.ownsRow base 95 size v k xs) (b : Nat) (hb : v.ownBlock = some b) : ¬ (b = rB ∨ b = gT) := by
 rintro (rfl | rfl)
 ·exact own_ne_t ho h.blk (by decide) hb.symm
 ·obtain ⟨cs, hcs⟩ := h.typed
  exact own_ne_t ho hcs (by decide) hb.symm
theorem RS.kept_row {w0 W W2 : World} {rB gT cT : Nat} {J : List Nat} {left : Nat} (h : RS w0 W rB gT cT J left) {base size k : Nat} {v : Value} {xs : List Value} (ho : W.ownsRow base 95 size v k xs) (hk : Kept W W2 (fun k => k = rB ∨ k = gT)) : W2.ownsRow base 95 size v k xs :=
 own_move ho fun b hb => hk.2 b (own_lt2 ho b hb) (h.not_own ho b hb)
theorem RS.kept_blk {w0 W W2 : World} {rB gT cT : Nat} {J : List Nat} {left : Nat} (h : RS w0 W rB gT cT J left) {g : Nat} {cs : Array Value} (hg : W.heap[g]? = some (.cells cs 95 (0, 0))) (hk : Kept W W2 (fun k => k = rB ∨ k = gT)) : W2.heap[g]? = some (.cells cs 95 (0, 0)) := by
 refine blk_kept hg hk ?_
 rintro (rfl | rfl)
 ·have := h.blk
  rw [hg] at this
  injection this with this
  injection this with _ this
  cases this
 ·obtain ⟨c2, hcs⟩ := h.typed
  rw [hg] at hcs
  injection hcs with hcs
  injection hcs with _ hcs
  cases hcs
theorem cells_new4 (W : World) (cs : List Value) (e : TypeId) (j : Nat) (u : Value) (hu : cs[j]? = some u) : (W.alloc (.cells cs.toArray e)).cell? ((⟨W.heap.size, 0, none⟩ : Addr).add j) = some u := by
 rw [Addr.add_lit, Nat.zero_add]
 unfold World.cell?
 rw [show (W.alloc (.cells cs.toArray e)).heap[(⟨W.heap.size, j, none⟩ : Addr).block]? = _ from blk_new W _]
 simpa using hu
theorem near_in {J : List Nat} (h : InN J.length J) (hn : J.length ≤ 9) {left v a : Nat} (hv : v < J.length) (ha : a ∈ nearL J left v) : a < J.length := by
 have := (mem_els.1 ha).2
 rw [Nat.testBit_and, Bool.and_eq_true] at this
 exact bit_lt (h.2 v) this.1
theorem next_case (J : List Nat) (left v : Nat) (hin : ∀ a ∈ nearL J left v, a < J.length) (h2 : (nearL J left v).length ≤ 2) : (((nearL J left v).length : Int) ≠ 2 ∧ nextJ J left v = J) ∨ (((nearL J left v).length : Int) = 2 ∧ ∃ a b : Nat, sA (nearL J left v) = (a : Int) ∧ sB (nearL J left v) = (b : Int) ∧ a < J.length ∧ b < J.length ∧ nextJ J left v = joinN J a b) := by
 unfold nextJ
 match h : nearL J left v, hin, h2 with
 | [], _, _ => exact .inl ⟨by simp, rfl⟩
 | [a], _, _ => exact .inl ⟨by simp, rfl⟩
 | [a, b], hin, _ => exact .inr ⟨by simp, a, b, rfl, rfl, hin a (by simp), hin b (by simp), rfl⟩
 | a :: b :: c :: r, _, h2 => simp at h2
theorem diff_pc9 {left v : Nat} (hv : left.testBit v = true) (hv9 : v < 9) : pc (diff left (2 ^ v)) 9 + 1 = pc left 9 := by
 rw [diff_pc (v := v) (n := 9) hv hv9]
set_option maxHeartbeats 8000000 in
set_option maxRecDepth 100000 in
theorem minor_Reduce.calls (A0 : Option Addr) (c0 : Nat) (l0 : List Int) (r1 : List S95) (r2 : Int) (w : World) (hGL : GL w) (hr0 : Kd.C (Kd.int .i64) w A0 l0.length l0) (hc0 : l0.length ≤ c0) (h : minor_Reduce.f l0 = some (r1, r2)) :
  Calls Tryd.prog 40 #[.slice A0 l0.length c0] w fun e w' => ∃ v, e = .returned (.tuple #[v, .int .i64 r2]) ∧ Kd.R k95 95 w' w.heap.size (fun _ => True) v r1 ∧ Below w.heap.size w w' := by
 unfold minor_Reduce.f at h
 by_cases hlen : l0.length < 1000
 ·rw [if_pos hlen] at h
  have h := Option.some.inj h
  have HC1 : Aside0 (∀ W, Below w.heap.size w W → Calls Tryd.prog 63 #[.slice A0 l0.length c0, .int .i64 8] W fun e w' => ∃ v, e = .returned (.tuple #[v, .bool (chk 8 l0)]) ∧ (chk 8 l0 = true → ∃ A1 c1, v = .slice A1 l0.length c1 ∧ l0.length ≤ c1 ∧ Kd.C (Kd.int .i64) w' A1 l0.length l0) ∧ Below W.heap.size W w') := ⟨fun W hW => read_any 8 (by omega) (by omega) A0 c0 W (Kd.C_below hr0 hW) hc0⟩
  have HGL := Aside0.mk hGL
  cases hg : chk 8 l0
  ·rw [hg] at h HC1
   injection h with h1 h2
   subst h1 h2
   clear hg hr0
   go_enter Tryd.func40, Tryd.ntmps40
   go_wp2_with (go_at_call 63; refine (HC1.out _ (Below.refl _ _)).mono ?_; rintro e w1 ⟨v1, rfl, _, hb1⟩; have HB1 := Aside0.mk hb1; clear hb1)
   go_ret2
   exact ⟨_, rfl, Kd.R_nil _ _ _ _ _, HB1.out⟩
  ·rw [hg] at h HC1
   obtain ⟨G, rfl, hG⟩ := (chk_iff 8 (by omega) _).1 hg
   rw [gi_toNat] at h
   simp only [gi_length] at HC1 hr0 hc0 h ⊢
   have hn := hG.most
   have hn1 := hG.pos
   have HG := Aside0.mk hG
   have h2n := Nat.two_pow_pos G.length
   have hpn : pc (2 ^ G.length - 1) 9 ≤ 9 := pc_le _ 9
   have HR : Aside0 (redN 10 G (2 ^ G.length - 1) [] = (r1, r2)) := ⟨h⟩
   have HTL : Aside0 (2 ^ G.length - 1 < 2 ^ G.length) := ⟨by omega⟩
   obtain ⟨T, hT⟩ : ∃ T, 2 ^ G.length - 1 = T := ⟨_, rfl⟩
   rw [hT] at hpn HR HTL
   have CRD : Aside0 (∀ W A c, Below w.heap.size w W → G.length ≤ c → Kd.C (Kd.int .i64) W A G.length (gi G) → Calls Tryd.prog 78 #[.slice A G.length c] W fun e w' => ∃ rB gT cT, e = .returned (.pointer (some ⟨rB, 0, none⟩)) ∧ RS W w' rB gT cT G T) := ⟨fun W A c hW hc hA => by
    rw [← hT]
    exact reduction_calls A c G HG.out hc W hA⟩
   obtain ⟨i95, hi95, hq0, hq1, hq2⟩ := info_parts info95
   clear hg hr0 hG hGL h h2n hT
   go_enter Tryd.func40, Tryd.ntmps40
   go_wp2_with (first
    | (go_at_call 63; refine (HC1.out _ (Below.refl _ _)).mono ?_; rintro e w1 ⟨v1, rfl, hv1, hb1⟩; obtain ⟨A5, c5, rfl, hc5, hC5⟩ := hv1 trivial; have HB1 := Aside0.mk hb1; have HC5 := Aside0.mk hC5; clear hb1 hv1 hC5)
    | (go_at_call 78; refine (CRD.out _ _ _ HB1.out hc5 HC5.out).mono ?_; rintro e w2 ⟨rB, gT, cT, rfl, hRS⟩; have HRS := Aside0.mk hRS; have hz1 : w2.cell? ⟨rB, 1, none⟩ = some (.int .i64 (T : Int)) := (blk_cell hRS.blk 1).trans rfl; clear hRS))
   go_loopg [7] 10 (fun kq v7 w' => ∃ (J : List Nat) (left : Nat) (out : List S95) (inner : List Value), J.length = G.length ∧ out.length + kq = 10 ∧ pc left 9 < kq ∧ Aside0 (left < 2 ^ G.length) ∧ Aside0 (redN kq J left out = (r1, r2)) ∧ Aside0 (RS w1 w' rB gT cT J left) ∧ Aside0 (w'.ownsRow w1.heap.size 95 4 v7 out.length inner) ∧ Aside0 (Reps enc4 4 out inner))
   case atStart => exact ⟨G, T, [], [], rfl, rfl, by omega, HTL, HR, HRS, ⟨World.ownsRow_nil _ _ _ _⟩, ⟨Reps.none _ _⟩⟩
   case round =>
    clear HR HRS HTL hz1 hpn
    obtain ⟨J, left, out, inner, hJl, hol, hpk, HLL, HA, HS, HO, HRP⟩ := hrel
    cases gk with
    | zero => omega
    | succ gk' =>
    have hl5 := small G (by omega) HLL.out
    have hz1 : wr.cell? ⟨rB, 1, none⟩ = some (.int .i64 (left : Int)) := (blk_cell HS.out.blk 1).trans rfl
    have ha := HA.out
    simp only [redN] at ha
    by_cases h0 : left = 0
    ·have hl0 : ((left : Int) != 0) = false := by rw [h0]; rfl
     rw [if_pos h0] at ha
     injection ha with h1 h2
     subst h1 h2
     clear h0 HA
     go_wp2
     go_ret2
     refine ⟨_, rfl, ?_, ?_⟩
     ·exact ⟨fun _ _ => trivial, inner, own_weaken HO.out HB1.out.size, HRP.out.imp_ (fun p c h => by rw [show c = _ from h]; exact k95_mkM _ _ _ p)⟩
     ·exact below_weaken HB1.out HB1.out.size HS.out.below
    ·have hl0 : ((left : Int) != 0) = true := by simp; omega
     rw [if_neg h0] at ha
     have HAH := Aside0.mk ha
     clear ha HA h0
     obtain ⟨Lf, hLf⟩ : ∃ Lf, els left 9 = Lf := ⟨_, rfl⟩
     have hLl : Lf.length ≤ 9 := by rw [← hLf, els_length]; exact pc_le _ 9
     have HND : Aside0 (∀ W, Below w1.heap.size w1 W → Calls Tryd.prog 69 #[.int .i64 (left : Int)] W fun e w' => ∃ A c, e = .returned (.slice A Lf.length c) ∧ Kd.C (Kd.int .i64) w' A (gi Lf).length (gi Lf) ∧ Below W.heap.size W w') := ⟨fun W hW => by
      obtain ⟨K, hK⟩ := nodes_ev left hl5
      refine (minor_nodes.calls K (left : Int) _ W (GL_below HGL.out (below_step HB1.out hW)) (hK K (Nat.le_refl _))).mono ?_
      rintro e w' ⟨u, rfl, hu, hb⟩
      obtain ⟨A, c, eu, hc, hC⟩ := Kd.R_reads hu
      rw [hLf] at eu hC
      rw [gi_length] at eu
      subst eu
      exact ⟨A, c, rfl, hC, hb⟩⟩
     have HMEM : Aside0 (∀ v ∈ Lf, v < G.length ∧ left.testBit v = true) := ⟨fun v hv => by
      rw [← hLf] at hv
      have h2 := (mem_els.1 hv).2
      exact ⟨bit_lt HLL.out h2, h2⟩⟩
     have HPK : Aside0 (pick J left = (Lf.drop 0).find? fun v => decide ((nearL J left v).length ≤ 2)) := ⟨by unfold pick; rw [hLf, List.drop_zero]⟩
     have HSTEP : Aside0 (∀ W v, RS w1 W rB gT cT J left → v < G.length → Calls Tryd.prog 79 #[.pointer (some ⟨rB, 0, none⟩), .int .i64 (v : Int)] W fun e w' => e = .returned (.tuple #[.agg #[.int .i64 ((nearL J left v).length : Int), .int .i64 (v : Int), .int .i64 (sA (nearL J left v)), .int .i64 (sB (nearL J left v))], .bool (decide ((nearL J left v).length ≤ 2))]) ∧ Below W.heap.size W w') := ⟨fun W v hW hv => by
      have hC := hW.C
      exact step_calls rB (some ⟨gT, 0, none⟩) cT J left v W (GL_below HGL.out (below_step HB1.out hW.below)) ((blk_cell hW.blk 0).trans rfl) ((blk_cell hW.blk 1).trans rfl) hC.2 (by omega) (by omega) (by
       have := hW.inn.2 v
       exact small G (by omega) (by rw [← hJl]; exact this)) hl5 _ rfl⟩
     clear hLf
     go_wp2_with (go_at_call 69; refine (HND.out _ HS.out.below).mono ?_; rintro e w3 ⟨A6, c6, rfl, hC6, hb3⟩; have HC6 := Aside0.mk hC6; have HS3 := Aside0.mk (HS.out.low hb3); have HO3 := Aside0.mk (own_kept HO.out (grown_of_below hb3 none) (fun _ _ e => by cases e)); clear hC6 hb3)
     go_loopg [7, 8, 33] Lf.length (fun kj v7 v8 v33 w' => ∃ i : Nat, v7 = u7 ∧ v8 = .bool false ∧ v33 = .int .i64 (i : Int) ∧ i + kj = Lf.length ∧ Aside0 (pick J left = (Lf.drop i).find? fun v => decide ((nearL J left v).length ≤ 2)) ∧ Aside0 (Below w3.heap.size w3 w'))
     case atStart => exact ⟨0, rfl, rfl, rfl, by omega, HPK, ⟨Below.refl _ _⟩⟩
     case round =>
      clear HPK
      obtain ⟨i, rfl, rfl, rfl, hi, HPI, HBI⟩ := hrel
      by_cases hil : i < Lf.length
      ·have hi1 : ((i : Int) < (Lf.length : Int)) = True := eq_true (by omega)
       have hi2 : decide ((i : Int) < (Lf.length : Int)) = true := decide_eq_true (by omega)
       cases gk with
       | zero => omega
       | succ gi' =>
       obtain ⟨ad, e1, hgx⟩ := Kd.at_int (Kd.C_below HC6.out HBI.out) (i : Int) (by omega) (by rw [gi_length]; omega)
       subst e1
       rw [rd_gi, Int.toNat_natCast] at hgx
       have hpi := HPI.out
       rw [List.drop_eq_getElem_cons hil, List.find?_cons] at hpi
       have hvm := HMEM.out _ (List.getElem_mem hil)
       have hxe : Lf.getD i 0 = Lf[i] := by rw [List.getD_eq_getElem?_getD, List.getElem?_eq_getElem hil]; rfl
       rw [hxe] at hgx
       generalize Lf[i] = v at *
       have HVM := Aside0.mk hvm
       have HSI := Aside0.mk (HS3.out.low HBI.out)
       have HOI := Aside0.mk (own_kept HO3.out (grown_of_below HBI.out none) (fun _ _ e => by cases e))
       have HST := Aside0.mk (HSTEP.out · v · hvm.1)
       clear hxe hvm HPI
       by_cases hcan : (nearL J left v).length ≤ 2
       ·have hcd : decide ((nearL J left v).length ≤ 2) = true := decide_eq_true hcan
        rw [hcd] at hpi HST
        have hin : ∀ a ∈ nearL J left v, a < J.length := fun a ha => near_in HS.out.inn (by omega) (by rw [hJl]; exact HVM.out.1) ha
        have hnc := next_case J left v hin hcan
        have hnl : (nextJ J left v).length = J.length := by
         rcases hnc with ⟨_, e⟩ | ⟨_, a, b, _, _, h3, h4, e⟩
         ·rw [e]
         ·rw [e]; exact (HS.out.inn.join h3 h4).1
        have HDO : Aside0 (∀ W, RS w1 W rB gT cT J left → Calls Tryd.prog 80 #[.pointer (some ⟨rB, 0, none⟩), .agg #[.int .i64 ((nearL J left v).length : Int), .int .i64 (v : Int), .int .i64 (sA (nearL J left v)), .int .i64 (sB (nearL J left v))]] W fun e w' => e = .returned (.tuple #[]) ∧ RS w1 w' rB gT cT (nextJ J left v) (diff left (2 ^ v)) ∧ Kept W w' (fun k => k = rB ∨ k = gT)) := ⟨fun W hW => do_calls w1 W rB gT cT J left hW (by omega) hl5 v (by have := HVM.out.1; omega) _ _ _ _ hnc⟩
        have HA2 : Aside0 (redN gk' (nextJ J left v) (diff left (2 ^ v)) (out ++ [stepS J left v]) = (r1, r2)) := ⟨by
         have ha := HAH.out
         rw [hpi] at ha
         exact ha⟩
        have HPC := Aside0.mk (diff_pc9 HVM.out.2 (by have := HVM.out.1; omega))
        have HNL := Aside0.mk hnl
        have HDL : Aside0 (diff left (2 ^ v) < 2 ^ G.length) := ⟨Nat.lt_of_le_of_lt (diff_le _ _) HLL.out⟩
        obtain ⟨kd, hkd⟩ : ∃ kd : Int, kd = ((nearL J left v).length : Int) := ⟨_, rfl⟩
        obtain ⟨s1, hs1⟩ : ∃ s1 : Int, s1 = sA (nearL J left v) := ⟨_, rfl⟩
        obtain ⟨s2, hs2⟩ : ∃ s2 : Int, s2 = sB (nearL J left v) := ⟨_, rfl⟩
        have HC4 : Aside0 (cells4 (stepS J left v) = [.int .i64 kd, .int .i64 (v : Int), .int .i64 s1, .int .i64 s2]) := ⟨by rw [hkd, hs1, hs2]; rfl⟩
        rw [← hkd, ← hs1, ← hs2] at HST HDO
        clear hpi hcd hcan hin hnc hnl hkd hs1 hs2 HND HSTEP HMEM
        go_wp2_with (first
         | (go_at_call 79; refine (HST.out _ HSI.out).mono ?_; rintro e w4 ⟨rfl, hb4⟩; have HS5 := Aside0.mk ((HSI.out.low hb4).low (below_alloc (Below.refl w4.heap.size w4) (.cells #[.int .i64 kd, .int .i64 (v : Int), .int .i64 s1, .int .i64 s2] 95))); have HO5 := Aside0.mk (own_kept (own_kept HOI.out (grown_of_below hb4 none) (fun _ _ e => by cases e)) (grown_of_below (below_alloc (Below.refl w4.heap.size w4) (.cells #[.int .i64 kd, .int .i64 (v : Int), .int .i64 s1, .int .i64 s2] 95)) none) (fun _ _ e => by cases e)); have HX5 := Aside0.mk (blk_new w4 (.cells #[.int .i64 kd, .int .i64 (v : Int), .int .i64 s1, .int .i64 s2] 95)); have HBK5 := Aside0.mk (blk_lt (HSI.out.low hb4).blk); clear hb4)
         | (go_at_call 80; refine (HDO.out _ HS5.out).mono ?_; rintro e w6 ⟨rfl, hS6, hK6⟩; have hx6 := HS5.out.kept_blk HX5.out hK6; obtain ⟨y0, y1, y2, y3⟩ := four_reads hx6; have HO6 := Aside0.mk (HS5.out.kept_row HO5.out hK6); have HS6 := Aside0.mk hS6; clear hS6 hK6 hx6)
         | (at_builtin; refine wpList_append_own_at _ rfl _ _ 53 rfl w1.heap.size 95 i95 (.agg #[.int .i64 0, .int .i64 0, .int .i64 0, .int .i64 0]) 4 32 Tryd.underlying53 hi95 hq0 hq1 hq2 rfl (by decide) u7 out.length inner rfl (HO6.out.alloc _) ⟨w6.heap.size, 0, none⟩ 1 1 [.int .i64 kd, .int .i64 (v : Int), .int .i64 s1, .int .i64 s2] rfl rfl (by intro j u hu; exact cells_new4 w6 _ _ j u hu) (by simp [Value.oneCell']) (by unfold maxLen; omega) (by omega) (by have := HS6.out.below.size; simp; omega) ?_; intro v8 w8 hown8 hg8 _ _; have HW8 := Aside0.mk hown8; have HG8 := Aside0.mk hg8; clear hown8 hg8))
        go_roundg gk'
        case measure => omega
        case rel =>
         have hal := below_alloc (Below.refl w6.heap.size w6) (.cells #[.int .i64 kd, .int .i64 (v : Int), .int .i64 s1, .int .i64 s2] 95)
         have hB8 : Below w1.heap.size w1 w8 := (below_step HS6.out.below hal).grown HG8.out (by have := HS6.out.below.size; simp; omega) (fun k e => own_base2 HO6.out k e)
         have hK8 : Kept w6 w8 (fun k => u7.ownBlock = some k) := Kept.of_grown HG8.out (Kept.of_below hal _) (fun k e => .inl e)
         refine ⟨nextJ J left v, diff left (2 ^ v), out ++ [stepS J left v], inner ++ cells4 (stepS J left v), by rw [HNL.out]; exact hJl, by simp; omega, by have := HPC.out; omega, HDL, HA2, ⟨HS6.out.kept hK8 hB8 (fun e => HS6.out.not_own HO6.out _ e (.inl rfl)) (fun e => HS6.out.not_own HO6.out _ e (.inr rfl))⟩, ⟨by rw [List.length_append, HC4.out]; exact HW8.out⟩, ⟨HRP.out.snoc rfl rfl⟩⟩
       ·have hcd : decide ((nearL J left v).length ≤ 2) = false := decide_eq_false hcan
        rw [hcd] at hpi HST
        have HP2 : Aside0 (pick J left = (Lf.drop (i + 1)).find? fun v => decide ((nearL J left v).length ≤ 2)) := ⟨hpi⟩
        clear hpi hcd hcan
        go_wp2_with (go_at_call 79; refine (HST.out _ HSI.out).mono ?_; rintro e w4 ⟨rfl, hb4⟩; have HB4 := Aside0.mk (below_step HBI.out hb4); clear hb4)
        go_roundg gi'
        case measure => omega
        case rel => exact ⟨i + 1, rfl, rfl, by go_num, by omega, HP2, ⟨below_step HB4.out (below_alloc (Below.refl _ _) _)⟩⟩
      ·have hi1 : ((i : Int) < (Lf.length : Int)) = False := eq_false (by omega)
       have hi2 : decide ((i : Int) < (Lf.length : Int)) = false := decide_eq_false (by omega)
       have hpi := HPI.out
       rw [List.drop_eq_nil_of_le (by omega)] at hpi
       have ha := HAH.out
       rw [hpi] at ha
       have ha2 : (([] : List S95), (4 : Int)) = (r1, r2) := ha
       injection ha2 with h1 h2
       subst h1 h2
       clear ha hpi HPI
       go_wp2
       go_ret2
       exact ⟨_, rfl, Kd.R_nil _ _ _ _ _, below_step (below_weaken HB1.out HB1.out.size HS3.out.below) HBI.out⟩
 ·rw [if_neg hlen] at h
  cases h
end Go.Proofs.YtjloppfdagfpmaaDoor.X
end
section
namespace Go.Proofs.YtjloppfdagfpmaaDoor.X
open Go.RowKit YtjloppfdagfpmaaDoorW.PrintWords YtjloppfdagfpmaaDoorW.PrintLast YtjloppfdagfpmaaDoorW.PrintMore
attribute [local go_sem] max2_int min2_int max_two min_two max_three min_three max_four min_four
/-! ### slices_Clone_int_int: function 57 -/
def slices_Clone_int_int.f (l0 : List Int) : Option (List Int) := (some (([] : List Int) : List Int)).bind fun y184 => (if y184.length + l0.length < 17592186044416 then (some (y184 ++ l0)) else (none))
set_option maxHeartbeats 8000000 in
set_option maxRecDepth 100000 in
theorem slices_Clone_int_int.calls_some (a0 : Addr) (c0 : Nat) (l0 : List Int) (r : List Int) (w : World) (hr0 : Kd.C (Kd.int .i64) w (some a0) l0.length l0) (hc0 : l0.length ≤ c0) (h : slices_Clone_int_int.f l0 = some r) :
  Calls Tryd.prog 57 #[.slice (some a0) l0.length c0] w fun e w' => ∃ v0_ : Value, e = .returned (v0_) ∧ Kd.R (Kd.int .i64) 3 w' w.heap.size (fun _ => True) v0_ r ∧ Below w.heap.size w w' := by
 have HR0 := Aside0.mk hr0
 have HC0 := Aside0.mk hc0
 clear hr0 hc0
 have HB := Aside0.mk (Below.refl w.heap.size w)
 have H : ((some (([] : List Int) : List Int)).bind fun y184 => (if y184.length + l0.length < 17592186044416 then (some (y184 ++ l0)) else (none))) = some r := h
 clear h
 obtain ⟨y184, hy184⟩ : ∃ y_ : List Int, y_ = (([] : List Int)) := ⟨_, rfl⟩
 replace H : (if y184.length + l0.length < 17592186044416 then (some (y184 ++ l0)) else (none)) = some r := by first | (rw [hy184]; with_reducible exact H) | (have H2_ := (Option.bind_some _ _).symm.trans H; rw [hy184]; with_reducible exact H2_) | (have H2_ := (Option.bind_some _ _).symm.trans H; with_reducible exact H2_) | with_reducible exact H | (rw [hy184]; exact H) | exact H
 have Ny184 := Aside0.mk hy184
 clear hy184
 by_cases c2 : y184.length + l0.length < 17592186044416
 ·rw [if_pos c2] at H
  have LMc2 := Aside0.mk c2
  clear c2
  obtain ⟨y187, hy187⟩ : ∃ y_ : List Int, y_ = (y184 ++ l0) := ⟨_, rfl⟩
  replace H : (some y187) = some r := by first | (rw [hy187]; with_reducible exact H) | (have H2_ := (Option.bind_some _ _).symm.trans H; rw [hy187]; with_reducible exact H2_) | (have H2_ := (Option.bind_some _ _).symm.trans H; with_reducible exact H2_) | with_reducible exact H | (rw [hy187]; exact H) | exact H
  have Ny187 := Aside0.mk hy187
  clear hy187
  obtain rfl := Option.some.inj H
  have heq_ := fun (w : World) => Lib.run_eql_slice_nil (P := Tryd.prog) w 22 3 (some a0) l0.length c0 0 0 Tryd.underlying22
  go_enter Tryd.func57, Tryd.ntmps57
  go_wp2_with (first | ((with_reducible refine gate_dst (N := 5) rfl ?_); refine Kd.R_lit (Kd.int .i64) _ 3 ?hg (N := 5) ?hd (xs := ([] : List Int)) (inner := []) (ok := fun _ => True) (okp := fun _ => True) ?hr ?hp (fun _ hk => hk) trivial (Below.refl _ _) (Nat.le_refl _) (by simp) ?_; (case hd => rfl); (case hg => rfl); (case hr => first | (go_simp; done) | (go_simp; rfl)); (case hp => exact (Reps.none _ _)); intro v185 w3 ho4 hb hg_ hnew_; clear hg_ hnew_; (first | rw [← Ny184.out] at ho4 | (simp only [Int.reduceToNat] at ho4; rw [← Ny184.out] at ho4)); have n0_ := Aside0.mk (Kd.R_lower ho4 (below_size (Qaw))); have n1_ := Aside0.mk (below_step (Qaw) hb); clear HB; have HO186 := n0_; have HB := n1_; clear n0_ n1_; clear hb ho4) | ((with_reducible refine gate_builtin (b := .append) (xs := #[.tmp 5, .tmp 6]) rfl ?_); at_builtin; refine Kd.R_append_rows (Kd.int .i64) (w0 := w) w.heap.size rfl (.tmp 5) (.tmp 6) 22 3 (.int .i64 0) 8 rfl Tryd.underlying22 info3 rfl (by decide) (by omega) v185 y184 l0 _ _ _ (fun _ => True) (fun _ => False) rfl rfl ?aO ?aR (fun _ _ h => h) (fun _ h => h.elim) ?aF ?aB ?aS ?aL ?_; (case aR => exact Qsc (Kd.C_below HR0.out HB.out)); (case aB => exact (Qaw)); (case aF => exact (fun _ _ => trivial)); (case aO => exact (Qro HO186.out)); (case aS => exact (below_size (Qaw))); (case aL => have := LMc2.out; omega); intro v188 w5 ho hb hg hat; rw [← Ny187.out] at ho; have n0_ := Aside0.mk (hb); have n1_ := Aside0.mk (ho); clear HB; clear HO186; have HB := n0_; have HO189 := n1_; clear n0_ n1_; clear ho hb hg hat))
  go_ret
  exact ⟨_, by first | rfl | (simp [errW_none, errW_some] <;> rfl) | (simp [*, errW_none, errW_some] <;> rfl), by (with_reducible repeat (first | apply Kd.R_alloc | apply Kd.R_drewN | apply Kd.R_drew)); exact HO189.out, by repeat (first | (with_reducible first | exact HB.out | apply below_alloc | apply pw_below_drewN | apply below_drew1) | exact HB.out)⟩
 ·rw [if_neg c2] at H
  exact absurd H (by simp)
theorem slices_Clone_int_int.calls (A0 : Option Addr) (c0 : Nat) (l0 : List Int) (r : List Int) (w : World) (hr0 : Kd.C (Kd.int .i64) w A0 l0.length l0) (hc0 : l0.length ≤ c0) (h : slices_Clone_int_int.f l0 = some r) :
  Calls Tryd.prog 57 #[.slice A0 l0.length c0] w fun e w' => ∃ v0_ : Value, e = .returned (v0_) ∧ Kd.R (Kd.int .i64) 3 w' w.heap.size (fun _ => True) v0_ r ∧ Below w.heap.size w w' := by
 cases A0 with
 | some a0 => exact slices_Clone_int_int.calls_some a0 c0 l0 r w hr0 hc0 h
 | none =>
  have hl : l0 = [] := by
   rcases Nat.eq_zero_or_pos l0.length with h0 | h0
   ·exact List.length_eq_zero_iff.mp h0
   ·obtain ⟨ad, he, _⟩ := hr0.2.2 h0
    cases he
  subst hl
  obtain rfl : [] = r := by simpa [slices_Clone_int_int.f] using h
  clear h hr0 hc0
  have heq_ := fun (w : World) => Lib.run_eql_slice_nil (P := Tryd.prog) w 22 3 none 0 c0 0 0 Tryd.underlying22
  go_enter Tryd.func57, Tryd.ntmps57
  go_wp2
  go_ret
  exact ⟨_, rfl, Kd.R_nil _ _ _ _ _, Below.refl _ _⟩
end Go.Proofs.YtjloppfdagfpmaaDoor.X
end
section
namespace Go.Proofs.YtjloppfdagfpmaaDoor.X
open Go.RowKit YtjloppfdagfpmaaDoorW.PrintWords YtjloppfdagfpmaaDoorW.PrintLast YtjloppfdagfpmaaDoorW.PrintMore
attribute [local go_sem] max2_int min2_int max_two min_two max_three min_three max_four min_four
/-! ### slices_Reverse_int_int: function 58 -/
def slices_Reverse_int_int.l0 : Nat → List Int → Int → Int → Option (List Int)
 | 0, _, _, _ => none
 | k + 1, x0, x2, x3 => if x2 < x3 then (if 0 ≤ x3 then (if x3 < (x0.length : Int) then (if 0 ≤ x2 then (if x2 < (x0.length : Int) then (slices_Reverse_int_int.l0 k ((x0.set (x2 : Int).toNat (rd x0 x3)).set (x3 : Int).toNat (rd x0 x2)) (wrap64 (x2 + 1)) (wrap64 (x3 - 1))) else (none)) else (none)) else (none)) else (none)) else (some x0)
def slices_Reverse_int_int.f (k : Nat) (l0 : List Int) : Option (List Int) := slices_Reverse_int_int.l0 k l0 0 (wrap64 ((l0.length : Int) - 1))
theorem slices_Reverse_int_int.mono_l : ∀ k, (∀ y0 y1 y2, LeO (slices_Reverse_int_int.l0 k y0 y1 y2) (slices_Reverse_int_int.l0 (k + 1) y0 y1 y2))
 | 0 => fun _ _ _ r h => by simp [slices_Reverse_int_int.l0] at h
 | k + 1 => by
  have ih0 := slices_Reverse_int_int.mono_l k
  ·intro y0 y1 y2
   unfold slices_Reverse_int_int.l0
   repeat' first
   | (with_reducible exact ih0 _ _ _)
   | (with_reducible exact LeO.refl _)
   | (with_reducible exact LeO.none _)
   | (with_reducible refine LeO.ite ?_ ?_)
   | (with_reducible refine LeO.bind ?_ (fun _ => ?_))
   | exact ih0 _ _ _
   | exact LeO.none _
   | refine LeO.ite ?_ ?_
   | refine LeO.bind ?_ (fun _ => ?_)
theorem slices_Reverse_int_int.mono : ∀ a0 k, LeO (slices_Reverse_int_int.f k a0) (slices_Reverse_int_int.f (k + 1) a0) := by
 intro a0 k
 have ih0 := slices_Reverse_int_int.mono_l k
 unfold slices_Reverse_int_int.f
 repeat' first
   | (with_reducible exact ih0 _ _ _)
   | (with_reducible exact LeO.refl _)
   | (with_reducible exact LeO.none _)
   | (with_reducible refine LeO.ite ?_ ?_)
   | (with_reducible refine LeO.bind ?_ (fun _ => ?_))
   | exact ih0 _ _ _
   | exact LeO.none _
   | refine LeO.ite ?_ ?_
   | refine LeO.bind ?_ (fun _ => ?_)
def slices_Reverse_int_int.T3 : Bool × List (List Nat × List Nat) := (true, [([], []), ([], []), ([], []), ([], []), ([], []), ([], []), ([4, 5], [4, 5]), ([6], [6]), ([], []), ([], []), ([8, 9], [8, 9]), ([10], [10]), ([0, 1, 0, 1, 4, 5, 6, 7, 11], [0, 1]), ([12, 7, 0, 1, 4, 5, 6, 7, 11], [7, 12]), ([2, 3, 0, 1, 2, 3, 4, 5, 6, 7, 8, 9, 10, 11, 12, 13], [2, 3]), ([14, 11, 13, 0, 1, 2, 3, 4, 5, 6, 7, 8, 9, 10, 11, 12, 13], [11, 14])])
def slices_Reverse_int_int.B3 : List Nat := [0, 0, 0, 0, 0, 0, 48, 112, 0, 0, 768, 1792, 4083, 8179, 16383, 32767]
theorem slices_Reverse_int_int.tab3 : rtab .any (opsOf Tryd.f58 3) = slices_Reverse_int_int.T3 := by kernel_rfl
theorem slices_Reverse_int_int.bits3 : waitsOk slices_Reverse_int_int.T3.2 slices_Reverse_int_int.B3 = true := by kernel_rfl
set_option maxHeartbeats 8000000 in
set_option maxRecDepth 100000 in
theorem slices_Reverse_int_int.calls (k : Nat) (P0_ : Nat → Prop) (u9000_ : Value) (l0 : List Int) (r : List Int) (w0 w : World) (hB : Below w0.heap.size w0 w) (ho0 : Kd.R (Kd.int .i64) 3 w w0.heap.size P0_ u9000_ l0) (h : slices_Reverse_int_int.f k l0 = some r) :
  Calls Tryd.prog 58 #[u9000_] w fun e w' => e = .returned (.tuple #[]) ∧ Kd.R (Kd.int .i64) 3 w' w0.heap.size (fun k_ => (P0_ k_ ∨ w.heap.size ≤ k_)) u9000_ r ∧ Below w0.heap.size w0 w' ∧ Kept w w' (fun k_ => P0_ k_) := by
 have HO0 := Aside0.mk (show Kd.R (Kd.int .i64) 3 w w0.heap.size (fun k_ => (P0_ k_ ∨ w.heap.size ≤ k_)) u9000_ l0 from Kd.R_mono ho0 (fun k_ hk => (.inl hk)))
 have HK := Aside0.mk (Kept.refl w (fun k_ => P0_ k_))
 have HW0 := Aside0.mk hB.size
 have HB := Aside0.mk hB
 clear hB
 have H : (slices_Reverse_int_int.l0 k l0 0 (wrap64 ((l0.length : Int) - 1))) = some r := h
 clear h
 have H' := Aside0.mk H
 clear H
 obtain ⟨Ao2, co2, eo2⟩ := Kd.R_slice HO0.out
 subst eo2
 go_enter Tryd.func58, Tryd.ntmps58
 go_wp2
 go_loopg [2, 3] k (fun kq v2 v3 w' => ∃ (x0_1 : List Int) (x2_1 : Int) (x3_1 : Int), v2 = .int .i64 x2_1 ∧ v3 = .int .i64 x3_1 ∧ Aside0 (slices_Reverse_int_int.l0 kq x0_1 x2_1 x3_1 = some r) ∧ Aside0 (kq ≤ k) ∧ Aside0 (Kd.R (Kd.int .i64) 3 w' w0.heap.size (fun k_ => (P0_ k_ ∨ w.heap.size ≤ k_)) (.slice Ao2 l0.length co2) x0_1) ∧ Aside0 (Kept w w' (fun k_ => P0_ k_)) ∧ Aside0 (Below w0.heap.size w0 w'))
 case atStart => exact ⟨(l0), (0), (wrap64 ((l0.length : Int) - 1)), (by first | rfl | (simp; done) | (simp [*]; done)), (by first | rfl | (simp; done) | (simp [*]; done)), H', ⟨Nat.le_refl _⟩, ⟨by (with_reducible repeat (first | apply Kd.R_alloc | apply Kd.R_drewN | apply Kd.R_drew)); exact HO0.out⟩, ⟨by repeat (first | (with_reducible first | exact HK.out | apply Kept.alloc | apply Kept.drewN | apply Kept.drew) | exact HK.out)⟩, ⟨by repeat (first | (with_reducible first | exact HB.out | apply below_alloc | apply pw_below_drewN | apply below_drew1) | exact HB.out)⟩⟩
 case round =>
  clear H'
  try clear p2
  obtain ⟨x0_1, x2_1, x3_1, rfl, rfl, HA, HK1, HO_0, HK, HB⟩ := hrel
  have hl0_1 := (Kd.R_reads' HO_0.out).1
  rw [hl0_1] at HO_0
  (try simp only [hl0_1])
  cases gk with
  | zero => exact absurd HA.out (by simp [slices_Reverse_int_int.l0])
  | succ k1 =>
   have H := HA.out
   clear HA
   simp only [slices_Reverse_int_int.l0] at H
   by_cases c3 : x2_1 < x3_1
   ·rw [if_pos c3] at H
    have c3b0 : decide (x2_1 < x3_1) = true := decide_eq_true c3
    clear c3
    by_cases c4 : 0 ≤ x3_1
    ·rw [if_pos c4] at H
     have c4b0 : decide (0 ≤ x3_1) = true := decide_eq_true c4
     clear c4
     by_cases c5 : x3_1 < (x0_1.length : Int)
     ·rw [if_pos c5] at H
      have c5b0 : decide (x3_1 < (x0_1.length : Int)) = true := decide_eq_true c5
      clear c5
      by_cases c6 : 0 ≤ x2_1
      ·rw [if_pos c6] at H
       have c6b0 : decide (0 ≤ x2_1) = true := decide_eq_true c6
       clear c6
       by_cases c7 : x2_1 < (x0_1.length : Int)
       ·rw [if_pos c7] at H
        have c7b0 : decide (x2_1 < (x0_1.length : Int)) = true := decide_eq_true c7
        clear c7
        obtain ⟨y685, hy685⟩ : ∃ y_ : List Int, y_ = (x0_1.set (x2_1 : Int).toNat (rd x0_1 x3_1)) := ⟨_, rfl⟩
        replace H : (slices_Reverse_int_int.l0 k1 (y685.set (x3_1 : Int).toNat (rd x0_1 x2_1)) (wrap64 (x2_1 + 1)) (wrap64 (x3_1 - 1))) = some r := by first | (rw [hy685]; with_reducible exact H) | (have H2_ := (Option.bind_some _ _).symm.trans H; rw [hy685]; with_reducible exact H2_) | (have H2_ := (Option.bind_some _ _).symm.trans H; with_reducible exact H2_) | with_reducible exact H | (rw [hy685]; exact H) | exact H
        have Ny685 := Aside0.mk hy685
        clear hy685
        obtain ⟨y686, hy686⟩ : ∃ y_ : List Int, y_ = (y685.set (x3_1 : Int).toNat (rd x0_1 x2_1)) := ⟨_, rfl⟩
        replace H : (slices_Reverse_int_int.l0 k1 y686 (wrap64 (x2_1 + 1)) (wrap64 (x3_1 - 1))) = some r := by first | (rw [hy686]; with_reducible exact H) | (have H2_ := (Option.bind_some _ _).symm.trans H; rw [hy686]; with_reducible exact H2_) | (have H2_ := (Option.bind_some _ _).symm.trans H; with_reducible exact H2_) | with_reducible exact H | (rw [hy686]; exact H) | exact H
        have Ny686 := Aside0.mk hy686
        clear hy686
        have H' := Aside0.mk H
        clear H
        try go_wp2
        have n0_ := Aside0.mk (Kd.R_drew HO_0.out)
        have n1_ := Aside0.mk (Kept.drew HK.out)
        have n2_ := Aside0.mk (below_drew1 HB.out)
        clear HO_0
        clear HK
        clear HB
        have HO_0 := n0_
        have HK := n1_
        have HB := n2_
        clear n0_ n1_ n2_
        have p683 : 0 ≤ (x3_1 : Int) := of_decide_eq_true (by first | (with_reducible assumption) | assumption)
        have q683 : x3_1 < (x0_1.length : Int) := of_decide_eq_true (by first | (with_reducible assumption) | assumption)
        obtain ⟨ad683, e683, hx683_0⟩ := Kd.at_int (Kd.R_reads' HO_0.out).2.2 x3_1 p683 q683
        cases e683
        replace p683 := eq_true p683
        replace q683 := eq_true q683
        have p684 : 0 ≤ (x2_1 : Int) := of_decide_eq_true (by first | (with_reducible assumption) | assumption)
        have q684 : x2_1 < (x0_1.length : Int) := of_decide_eq_true (by first | (with_reducible assumption) | assumption)
        obtain ⟨ad684, e684, hx684_0⟩ := Kd.at_int (Kd.R_reads' HO_0.out).2.2 x2_1 p684 q684
        obtain rfl : ad683 = ad684 := (by injection e684)
        replace p684 := eq_true p684
        replace q684 := eq_true q684
        have p8 : 0 ≤ (x2_1 : Int) := of_decide_eq_true (by first | (with_reducible assumption) | assumption)
        have q8 : (x2_1 : Int) < ((x0_1.length : Int) : Int) := of_decide_eq_true (by first | (with_reducible assumption) | assumption)
        obtain ⟨go8, co8, eo8, gb8, gl8, cl8, HG8⟩ := Kd.R_form HO_0.out (by omega)
        (first | cases eo8 | (injection eo8 with ea_ en_ ec_; (first | subst ea_ | (injection ea_ with ea_; subst ea_)); subst ec_; clear en_))
        have GB8 := Aside0.mk gb8
        have GG8 := Aside0.mk HG8
        clear gb8 gl8 HG8
        have HMgo8 := Aside0.mk (show (P0_ go8 ∨ w.heap.size ≤ go8) from (HO_0.out.1 _ rfl))
        (first | simp only [add_plain] at hx683_0 | skip)
        (first | simp only [add_plain] at hx684_0 | skip)
        obtain ⟨hx8_0, hf8_0⟩ := Kd.R_celln 0 HO_0.out (x2_1 : Int) p8 q8
        replace p8 := eq_true p8
        replace q8 := eq_true q8
        have HP11 := Kd.R_putn HO_0.out (x2_1 : Int) (rd x0_1 x3_1)
        rw [← Ny685.out] at HP11
        have HQ11 := Aside0.mk HP11
        clear HP11
        have p9 : 0 ≤ (x3_1 : Int) := of_decide_eq_true (by first | (with_reducible assumption) | assumption)
        have q9 : (x3_1 : Int) < ((x0_1.length : Int) : Int) := of_decide_eq_true (by first | (with_reducible assumption) | assumption)
        obtain ⟨hx9_0, hf9_0⟩ := Kd.R_celln 0 HQ11.out (x3_1 : Int) p9 q9
        replace p9 := eq_true p9
        replace q9 := eq_true q9
        have HP12 := Kd.R_putn HQ11.out (x3_1 : Int) (rd x0_1 x2_1)
        rw [← Ny686.out] at HP12
        have HQ12 := Aside0.mk HP12
        clear HP12
        refine start_ (n := 16) (S := fun w' => w'.cell? ⟨go8, (x3_1).toNat, none⟩ = some (.int .i64 (rd x0_1 x3_1)) ∧ w'.cell? ⟨go8, (x2_1).toNat, none⟩ = some (.int .i64 (rd x0_1 x2_1))) (ds := [13, 15]) (Qbz 16 0) (by kernel_rfl) rfl rfl ⟨hx683_0, hx684_0⟩ (fun hHeld => ?_); refine with_tabW slices_Reverse_int_int.tab3 slices_Reverse_int_int.bits3 (fun HT_ HW_ => ?_)
        generalize wr.drew = w10 at HO_0 HK HB GG8 HQ11 HQ12 hf8_0 hf9_0 hx683_0 hx684_0 hx8_0 hx9_0 hHeld ⊢
        refine pure_ (i := 0) (N := some 14) (v := ?_) (a' := ?_) (Qbz 16 1) rfl rfl (any_of HT_.out (by kernel_rfl)) (fun _ _ _ h => h) (Or.inl ⟨by rfl, ?_⟩) ?_ ?_
        rotate_left
        ·intro w'
         go_simp
         with_reducible rfl
        rotate_left
        ·simp only [Act.put, Qp1, Qp2, Qp3, i64_w, i32_w]
         rfl
        refine pure_ (i := 1) (N := some 15) (v := ?_) (a' := ?_) (Qbz 16 3) rfl rfl (any_of HT_.out (by kernel_rfl)) (fun _ _ _ h => h) (Or.inl ⟨by rfl, ?_⟩) ?_ ?_
        rotate_left
        ·intro w'
         go_simp
         with_reducible rfl
        rotate_left
        ·simp only [Act.put, Qp1, Qp2, Qp3, i64_w, i32_w]
         rfl
        refine pure_ (i := 2) (N := some 16) (v := ?_) (a' := ?_) (Qbz 16 7) rfl rfl (any_of HT_.out (by kernel_rfl)) (fun _ _ _ h => h) (Or.inl ⟨by rfl, ?_⟩) ?_ ?_
        rotate_left
        ·intro w'
         go_simp
         with_reducible rfl
        rotate_left
        ·simp only [Act.put, Qp1, Qp2, Qp3, i64_w, i32_w]
         rfl
        refine pure_ (i := 3) (N := some 17) (v := ?_) (a' := ?_) (Qbz 16 15) rfl rfl (any_of HT_.out (by kernel_rfl)) (fun _ _ _ h => h) (Or.inl ⟨by rfl, ?_⟩) ?_ ?_
        rotate_left
        ·intro w'
         go_simp
         with_reducible rfl
        rotate_left
        ·simp only [Act.put, Qp1, Qp2, Qp3, i64_w, i32_w]
         rfl
        refine pure_ (i := 4) (N := some 18) (v := ?_) (a' := ?_) (Qbz 16 31) rfl rfl (any_of HT_.out (by kernel_rfl)) (fun _ _ _ h => h) (Or.inl ⟨by rfl, ?_⟩) ?_ ?_
        rotate_left
        ·intro w'
         go_simp
         with_reducible rfl
        rotate_left
        ·simp only [Act.put, Qp1, Qp2, Qp3, i64_w, i32_w]
         rfl
        refine pure_ (i := 5) (N := some 19) (v := ?_) (a' := ?_) (Qbz 16 63) rfl rfl (any_of HT_.out (by kernel_rfl)) (fun _ _ _ h => h) (Or.inl ⟨by rfl, ?_⟩) ?_ ?_
        rotate_left
        ·intro w'
         go_simp
         with_reducible rfl
        rotate_left
        ·simp only [Act.put, Qp1, Qp2, Qp3, i64_w, i32_w]
         rfl
        refine pure_ (i := 6) (N := some 20) (v := ?_) (a' := ?_) (Qbz 16 127) rfl rfl (any_of HT_.out (by kernel_rfl)) (fun _ _ _ h => h) (Or.inl ⟨by rfl, ?_⟩) ?_ ?_
        rotate_left
        ·intro w'
         go_simp
         with_reducible rfl
        rotate_left
        ·simp only [Act.put, Qp1, Qp2, Qp3, i64_w, i32_w]
         rfl
        refine pure_ (i := 8) (N := some 22) (v := ?_) (a' := ?_) (Qbz 16 383) rfl rfl (any_of HT_.out (by kernel_rfl)) (fun _ _ _ h => h) (Or.inl ⟨by rfl, ?_⟩) ?_ ?_
        rotate_left
        ·intro w'
         go_simp
         with_reducible rfl
        rotate_left
        ·simp only [Act.put, Qp1, Qp2, Qp3, i64_w, i32_w]
         rfl
        refine pure_ (i := 9) (N := some 23) (v := ?_) (a' := ?_) (Qbz 16 895) rfl rfl (any_of HT_.out (by kernel_rfl)) (fun _ _ _ h => h) (Or.inl ⟨by rfl, ?_⟩) ?_ ?_
        rotate_left
        ·intro w'
         go_simp
         with_reducible rfl
        rotate_left
        ·simp only [Act.put, Qp1, Qp2, Qp3, i64_w, i32_w]
         rfl
        refine pure_ (i := 10) (N := some 24) (v := ?_) (a' := ?_) (Qbz 16 1919) rfl rfl (any_of HT_.out (by kernel_rfl)) (fun _ _ _ h => h) (Or.inl ⟨by rfl, ?_⟩) ?_ ?_
        rotate_left
        ·intro w'
         go_simp
         with_reducible rfl
        rotate_left
        ·simp only [Act.put, Qp1, Qp2, Qp3, i64_w, i32_w]
         rfl
        refine take_ (i := 7) (N := some 21) (v := ?_) (a' := ?_) (Qbz 16 2047) rfl rfl (take_ofW HT_.out HW_.out (by kernel_rfl)) (fun _ _ _ h => h) (Or.inl ⟨by rfl, ?_⟩) hHeld ?_ ?_
        rotate_left
        ·rintro w' ⟨s0, s1⟩
         go_simp
         with_reducible rfl
        rotate_left
        ·simp only [Act.put, Qp1, Qp2, Qp3, i64_w, i32_w]
         rfl
        refine take_ (i := 11) (N := some 25) (v := ?_) (a' := ?_) (Qbz 16 4095) rfl rfl (take_ofW HT_.out HW_.out (by kernel_rfl)) (fun _ _ _ h => h) (Or.inl ⟨by rfl, ?_⟩) hHeld ?_ ?_
        rotate_left
        ·rintro w' ⟨s0, s1⟩
         go_simp
         with_reducible rfl
        rotate_left
        ·simp only [Act.put, Qp1, Qp2, Qp3, i64_w, i32_w]
         rfl
        refine pure_ (i := 12) (N := some 26) (v := ?_) (a' := ?_) (Qbz 16 8191) rfl rfl (any_of HT_.out (by kernel_rfl)) (fun _ _ _ h => h) (Or.inl ⟨by rfl, ?_⟩) ?_ ?_
        rotate_left
        ·intro w'
         go_simp
         with_reducible rfl
        rotate_left
        ·simp only [Act.put, Qp1, Qp2, Qp3, i64_w, i32_w]
         rfl
        refine last_ (i := 13) (N := none) (Qbz 16 16383) rfl rfl (one_of HT_.out (by kernel_rfl)) (by decide) (fun K hK => ?_)
        refine skip_ (w1 := ?_) (by rfl) rfl ?_ ?_
        rotate_left
        ·go_simp
         rfl
        refine hK.out _ _ ?_
        clear hK K
        refine pure_ (i := 14) (N := some 27) (v := ?_) (a' := ?_) (Qbz 16 32767) rfl rfl (any_of HT_.out (by kernel_rfl)) (fun _ _ _ h => h) (Or.inl ⟨by rfl, ?_⟩) ?_ ?_
        rotate_left
        ·intro w'
         go_simp
         with_reducible rfl
        rotate_left
        ·simp only [Act.put, Qp1, Qp2, Qp3, i64_w, i32_w]
         rfl
        refine last_ (i := 15) (N := none) (Qbz 16 65535) rfl rfl (one_of HT_.out (by kernel_rfl)) (by decide) (fun K hK => ?_)
        refine skip_ (w1 := ?_) (by rfl) rfl ?_ ?_
        rotate_left
        ·go_simp
         rfl
        refine hK.out _ _ ?_
        clear hK K
        refine done_ (done_of HT_.out (by kernel_rfl)) ?_
        try go_wp2
        (try simp only [← hl0_1])
        go_roundg k1
        case measure => have := HK1.out; omega
        case rel => exact ⟨(y686), (wrap64 (x2_1 + 1)), (wrap64 (x3_1 - 1)), (by first | rfl | (simp; done) | (simp [*]; done)), (by first | rfl | (simp; done) | (simp [*]; done)), H', ⟨by have := HK1.out; omega⟩, ⟨by (try simp only [hl0_1]); (with_reducible repeat (first | apply Kd.R_alloc | apply Kd.R_drewN | apply Kd.R_drew)); exact HQ12.out⟩, ⟨by repeat (first | (with_reducible first | exact HK.out | apply Kept.alloc | apply Kept.drewN | apply Kept.drew | refine Kept.setCell ?_ HMgo8.out _ | refine Kept.setCell ?_ HMgo8.out _) | exact HK.out)⟩, ⟨by repeat (first | (with_reducible first | exact HB.out | apply below_alloc | apply pw_below_drewN | apply below_drew1 | refine below_set ?_ GB8.out | refine below_set ?_ GB8.out) | exact HB.out)⟩⟩
       ·rw [if_neg c7] at H
        exact absurd H (by simp)
      ·rw [if_neg c6] at H
       exact absurd H (by simp)
     ·rw [if_neg c5] at H
      exact absurd H (by simp)
    ·rw [if_neg c4] at H
     exact absurd H (by simp)
   ·rw [if_neg c3] at H
    have c3b0 : decide (x2_1 < x3_1) = false := decide_eq_false c3
    clear c3
    obtain rfl := Option.some.inj H
    go_wp2
    first | go_end0 | ((try simp only [Exit.inBlock, Exit.then]); refine bodyPost_ret (results_none rfl _ _ _) rfl ?_)
    exact ⟨by first | rfl | (simp [errW_none, errW_some] <;> rfl) | (simp [*, errW_none, errW_some] <;> rfl), (by first | exact (Qro HO_0.out) | (simp only [hl0_1]; exact (Qro HO_0.out))), by repeat (first | (with_reducible first | exact HB.out | apply below_alloc | apply pw_below_drewN | apply below_drew1) | exact HB.out), by repeat (first | (with_reducible first | exact HK.out | apply Kept.alloc | apply Kept.drewN | apply Kept.drew) | exact HK.out)⟩
end Go.Proofs.YtjloppfdagfpmaaDoor.X
end
