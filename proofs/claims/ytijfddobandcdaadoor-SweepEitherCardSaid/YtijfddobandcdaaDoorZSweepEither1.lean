/- Part 1 of what SweepEither rests on: contracts of the functions that it reaches, and what they compute, in plain words. -/
import Derived.Test.YtijfddobandcdaaDoorZSweepEither0
import Derived.Deep.RegionHeld3
import Derived.WalkSpells
import Derived.Maps.AppendAt
import Derived.Maps.OwnIn
set_option linter.unusedVariables false
set_option linter.unusedSimpArgs false
section
/- (family).sides and (town).family, by hand. -/
namespace Go.Proofs.YtijfddobandcdaaDoor.X
open Go.RowKit YtijfddobandcdaaDoorW.PrintWords YtijfddobandcdaaDoorW.PrintLast YtijfddobandcdaaDoorW.PrintMore YtijfddobandcdaaDoor.T
attribute [local go_sem] max2_int min2_int max_two min_two max_three min_three max_four min_four
def bo (G : List Nat) (x : Nat) : Nat := ((sweep_town_border.f (gi G) (x : Int)).getD 0).toNat
theorem bo_eq {G : List Nat} (hG : Gr 7 G) {x : Nat} (hx : x < 2 ^ G.length) : bo G x = bor G x := by
 unfold bo
 rw [border_eq G hG x hx]
 simp
theorem bo_f {G : List Nat} (hG : Gr 7 G) {x : Nat} (hx : x < 2 ^ G.length) : sweep_town_border.f (gi G) (x : Int) = some ((bo G x : Nat) : Int) := by
 rw [bo_eq hG hx, border_eq G hG x hx]
theorem bo_lt {G : List Nat} (hG : Gr 7 G) {x : Nat} (hx : x < 2 ^ G.length) : bo G x < 2 ^ G.length := by rw [bo_eq hG hx]; exact bor_lt G x
theorem p7 {G : List Nat} (hn : G.length ≤ 7) : 2 ^ G.length ≤ 128 := Nat.pow_le_pow_right (n := 2) (by omega) hn
theorem all_f {G : List Nat} (hG : Gr 7 G) : sweep_town_all.f (gi G) = some ((2 ^ G.length - 1 : Nat) : Int) := by
 have hn := hG.most
 have hp := p7 hn
 have h0 := Nat.two_pow_pos G.length
 unfold sweep_town_all.f
 rw [gi_length, s_one _ (by omega)]
 generalize 2 ^ G.length = P at *
 rw [w64_small _ (by omega) (by omega)]
 congr 1
 omega
def sidesB (G : List Nat) (k x y : Nat) : Bool := (x ||| y == 2 ^ G.length - 1) && (diff (bo G x) y == 0) && decide (pc (x &&& y) 9 ≤ k)
set_option maxHeartbeats 4000000 in
set_option maxRecDepth 100000 in
theorem sides_calls (A0 : Option Addr) (c0 : Nat) (G : List Nat) (hG : Gr 7 G) (hc0 : G.length ≤ c0) (f k x y : Nat) (w : World) (hGL : GL w) (hr0 : Kd.C (Kd.int .i64) w A0 (gi G).length (gi G)) (h0 : w.cell? ⟨f, 0, none⟩ = some (.slice A0 G.length c0)) (h1 : w.cell? ⟨f, 1, none⟩ = some (.int .i64 (k : Int)))
  (hx : x < 2 ^ G.length) (hy : y < 2 ^ G.length) (R : Bool) (hR : sidesB G k x y = R) :
  Calls Tryd.prog 74 #[.pointer (some ⟨f, 0, none⟩), .int .i64 (x : Int), .int .i64 (y : Int)] w fun e w' => e = .returned (.bool R) ∧ Below w.heap.size w w' := by
 have hn := hG.most
 have hp := p7 hn
 have hx7 : x < 128 := Nat.lt_of_lt_of_le hx hp
 have hy7 : y < 128 := Nat.lt_of_lt_of_le hy hp
 have hblt := Nat.lt_of_lt_of_le (bo_lt hG hx) hp
 have hand : x &&& y < 128 := Nat.lt_of_le_of_lt Nat.and_le_left hx7
 have hor := b_or x y (by omega) (by omega)
 have han := b_and x y (by omega) (by omega)
 have hdi := b_andNot (bo G x) y (by omega) (by omega)
 have HALL := Aside0.mk (all_f hG)
 have HBO := Aside0.mk (bo_f hG hx)
 have HCN := Aside0.mk (count_eq (x &&& y) (by omega))
 have HGL := Aside0.mk hGL
 have HR := Aside0.mk hr0
 have HC0 := Aside0.mk hc0
 have HL := Aside0.mk (gi_length G)
 have f0 := World.block_lt_of_cell? w _ h0
 unfold sidesB at hR
 generalize x ||| y = o at *
 generalize x &&& y = an at *
 generalize bo G x = bx at *
 generalize diff bx y = dx at *
 generalize pc an 9 = pa at *
 generalize 2 ^ G.length - 1 = P at *
 clear hGL hr0 hc0 hp hx hy hn hG hand hblt
 have f1 := World.block_lt_of_cell? w _ h1
 have KEEP : Aside0 (∀ W, Below w.heap.size w W → W.cell? ⟨f, 0, none⟩ = some (.slice A0 G.length c0) ∧ W.cell? ⟨f, 1, none⟩ = some (.int .i64 (k : Int)) ∧ Below w.heap.size w W) := ⟨fun W hW => ⟨(hW.cell f0).trans h0, (hW.cell f1).trans h1, hW⟩⟩
 have CALL : Aside0 (∀ W, Below w.heap.size w W → Calls Tryd.prog 61 #[.slice A0 G.length c0] W fun e w' => e = .returned (.int .i64 (P : Int)) ∧ w'.cell? ⟨f, 0, none⟩ = some (.slice A0 G.length c0) ∧ w'.cell? ⟨f, 1, none⟩ = some (.int .i64 (k : Int)) ∧ Below w.heap.size w w') := ⟨fun W hW => by
  have := sweep_town_all.calls A0 c0 (gi G) _ W (Kd.C_below HR.out hW) (by rw [HL.out]; exact HC0.out) HALL.out
  rw [HL.out] at this
  exact this.mono fun e w' ⟨h, m, hm⟩ => ⟨h, KEEP.out w' (by rw [hm]; exact pw_below_drewN hW m)⟩⟩
 have CBOR : Aside0 (∀ W, Below w.heap.size w W → Calls Tryd.prog 73 #[.slice A0 G.length c0, .int .i64 (x : Int)] W fun e w' => e = .returned (.int .i64 (bx : Int)) ∧ w'.cell? ⟨f, 0, none⟩ = some (.slice A0 G.length c0) ∧ w'.cell? ⟨f, 1, none⟩ = some (.int .i64 (k : Int)) ∧ Below w.heap.size w w') := ⟨fun W hW => by
  have := sweep_town_border.calls A0 c0 (gi G) (x : Int) _ W (GL_below HGL.out hW) (Kd.C_below HR.out hW) (by rw [HL.out]; exact HC0.out) HBO.out
  rw [HL.out] at this
  exact this.mono fun e w' ⟨h, hb⟩ => ⟨h, KEEP.out w' (below_step hW hb)⟩⟩
 have CCNT : Aside0 (∀ W, Below w.heap.size w W → Calls Tryd.prog 63 #[.int .i64 (an : Int)] W fun e w' => e = .returned (.int .i64 (pa : Int)) ∧ w'.cell? ⟨f, 0, none⟩ = some (.slice A0 G.length c0) ∧ w'.cell? ⟨f, 1, none⟩ = some (.int .i64 (k : Int)) ∧ Below w.heap.size w w') := ⟨fun W hW =>
  (sweep_count.calls (an : Int) _ W HCN.out).mono fun e w' ⟨h, m, hm⟩ => ⟨h, KEEP.out w' (by rw [hm]; exact pw_below_drewN hW m)⟩⟩
 have HB0 : Below w.heap.size w w.drew := below_drew (Below.refl _ _)
 have h0d : w.drew.cell? ⟨f, 0, none⟩ = some (.slice A0 G.length c0) := h0
 have h1d : w.drew.cell? ⟨f, 1, none⟩ = some (.int .i64 (k : Int)) := h1
 clear h0 h1
 by_cases c1 : o = P
 ·have t1 : ((o : Int) == (P : Int)) = true := by simp [c1]
  by_cases c2 : dx = 0
  ·have t2 : ((dx : Int) == 0) = true := by simp [c2]
   have T3 : Aside0 (decide (pa ≤ k) = R) := ⟨by
    rw [← hR, c1, c2]
    simp⟩
   clear c1 c2 hR
   go_enter Tryd.func74, Tryd.ntmps74
   go_wp2_with (fail)
   refine start_ (n := 32) (S := fun w' => w'.cell? ⟨f, 0, none⟩ = some (.slice A0 G.length c0) ∧ w'.cell? ⟨f, 1, none⟩ = some (.int .i64 (k : Int)) ∧ Below w.heap.size w w') (ds := []) (Qbz 32 0) (by kernel_rfl) rfl rfl ⟨h0d, h1d, HB0⟩ (fun hHeld => ?_)
   refine pure_ (i := 0) (N := some 7) (v := ?_) (a' := ?_) (Qbz 32 1) rfl rfl (by kernel_rfl) (fun _ _ _ h => h) (Or.inl ⟨by rfl, ?_⟩) ?_ ?_
   rotate_left
   ·intro w'
    go_simp
    with_reducible rfl
   rotate_left
   ·simp only [Act.put, Qp1, Qp2, Qp3, i64_w, i32_w]
    rfl
   refine pure_ (i := 1) (N := some 8) (v := ?_) (a' := ?_) (Qbz 32 3) rfl rfl (by kernel_rfl) (fun _ _ _ h => h) (Or.inl ⟨by rfl, ?_⟩) ?_ ?_
   rotate_left
   ·intro w'
    go_simp
    with_reducible rfl
   rotate_left
   ·simp only [Act.put, Qp1, Qp2, Qp3, i64_w, i32_w]
    rfl
   refine pure_ (i := 2) (N := some 9) (v := ?_) (a' := ?_) (Qbz 32 7) rfl rfl (by kernel_rfl) (fun _ _ _ h => h) (Or.inl ⟨by rfl, ?_⟩) ?_ ?_
   rotate_left
   ·intro w'
    go_simp
    with_reducible rfl
   rotate_left
   ·simp only [Act.put, Qp1, Qp2, Qp3, i64_w, i32_w]
    rfl
   refine pure_ (i := 3) (N := some 10) (v := ?_) (a' := ?_) (Qbz 32 15) rfl rfl (by kernel_rfl) (fun _ _ _ h => h) (Or.inl ⟨by rfl, ?_⟩) ?_ ?_
   rotate_left
   ·intro w'
    go_simp
    with_reducible rfl
   rotate_left
   ·simp only [Act.put, Qp1, Qp2, Qp3, i64_w, i32_w]
    rfl
   refine pure_ (i := 4) (N := some 11) (v := ?_) (a' := ?_) (Qbz 32 31) rfl rfl (by kernel_rfl) (fun _ _ _ h => h) (Or.inl ⟨by rfl, ?_⟩) ?_ ?_
   rotate_left
   ·intro w'
    go_simp
    with_reducible rfl
   rotate_left
   ·simp only [Act.put, Qp1, Qp2, Qp3, i64_w, i32_w]
    rfl
   refine pure_ (i := 5) (N := some 12) (v := ?_) (a' := ?_) (Qbz 32 63) rfl rfl (by kernel_rfl) (fun _ _ _ h => h) (Or.inl ⟨by rfl, ?_⟩) ?_ ?_
   rotate_left
   ·intro w'
    go_simp
    with_reducible rfl
   rotate_left
   ·simp only [Act.put, Qp1, Qp2, Qp3, i64_w, i32_w]
    rfl
   refine take_ (i := 6) (N := some 13) (v := ?_) (a' := ?_) (Qbz 32 127) rfl rfl (by kernel_rfl) (fun _ _ _ h => h) (Or.inl ⟨by rfl, ?_⟩) hHeld ?_ ?_
   rotate_left
   ·rintro w' ⟨s0, s1, s2⟩
    go_simp
    with_reducible rfl
   rotate_left
   ·simp only [Act.put, Qp1, Qp2, Qp3, i64_w, i32_w]
    rfl
   refine one_ (i := 7) (N := some 14) (Qbz 32 255) rfl rfl (by kernel_rfl) (by decide) (fun K hK => ?_)
   refine goes_ Tryd.func61 (by kernel_rfl) rfl #[.slice A0 G.length c0] (by rfl) rfl rfl (by simp only [List.map_toArray, List.map_cons, List.map_nil]; rfl) ?_
   with_reducible refine (CALL.out _ hHeld.2.2).mono ?_
   rintro e w3 ⟨rfl, f0', f1', fb'⟩
   refine ⟨_, rfl, ?_⟩
   refine hK.out _ _ ⟨f0', f1', fb'⟩ (fun hHeld => ?_)
   clear hK K
   refine norm_ (a' := ?_) ?_ ?_
   rotate_left
   ·show Act.put _ (some 14) _ = _
    simp only [Act.put, Qp1, Qp2, Qp3, i64_w, i32_w]
    rfl
   refine pure_ (i := 8) (N := some 15) (v := ?_) (a' := ?_) (Qbz 32 511) rfl rfl (by kernel_rfl) (fun _ _ _ h => h) (Or.inl ⟨by rfl, ?_⟩) ?_ ?_
   rotate_left
   ·intro w'
    go_simp
    with_reducible rfl
   rotate_left
   ·simp only [Act.put, Qp1, Qp2, Qp3, i64_w, i32_w]
    rfl
   refine pure_ (i := 9) (N := some 16) (v := ?_) (a' := ?_) (Qbz 32 1023) rfl rfl (by kernel_rfl) (fun _ _ _ h => h) (Or.inl ⟨by rfl, ?_⟩) ?_ ?_
   rotate_left
   ·intro w'
    go_simp
    with_reducible rfl
   rotate_left
   ·simp only [Act.put, Qp1, Qp2, Qp3, i64_w, i32_w]
    rfl
   refine pure_ (i := 10) (N := some 17) (v := ?_) (a' := ?_) (Qbz 32 2047) rfl rfl (by kernel_rfl) (fun _ _ _ h => h) (Or.inl ⟨by rfl, ?_⟩) ?_ ?_
   rotate_left
   ·intro w'
    go_simp
    with_reducible rfl
   rotate_left
   ·simp only [Act.put, Qp1, Qp2, Qp3, i64_w, i32_w]
    rfl
   refine pure_ (i := 11) (N := some 18) (v := ?_) (a' := ?_) (Qbz 32 4095) rfl rfl (by kernel_rfl) (fun _ _ _ h => h) (Or.inl ⟨by rfl, ?_⟩) ?_ ?_
   rotate_left
   ·intro w'
    go_simp
    with_reducible rfl
   rotate_left
   ·simp only [Act.put, Qp1, Qp2, Qp3, i64_w, i32_w]
    rfl
   refine pure_ (i := 12) (N := some 19) (v := ?_) (a' := ?_) (Qbz 32 8191) rfl rfl (by kernel_rfl) (fun _ _ _ h => h) (Or.inl ⟨by rfl, ?_⟩) ?_ ?_
   rotate_left
   ·intro w'
    go_simp
    with_reducible rfl
   rotate_left
   ·simp only [Act.put, Qp1, Qp2, Qp3, i64_w, i32_w]
    rfl
   refine pure_ (i := 14) (N := some 21) (v := ?_) (a' := ?_) (Qbz 32 24575) rfl rfl (by kernel_rfl) (fun _ _ _ h => h) (Or.inl ⟨by rfl, ?_⟩) ?_ ?_
   rotate_left
   ·intro w'
    go_simp
    with_reducible rfl
   rotate_left
   ·simp only [Act.put, Qp1, Qp2, Qp3, i64_w, i32_w]
    rfl
   refine pure_ (i := 16) (N := some 23) (v := ?_) (a' := ?_) (Qbz 32 90111) rfl rfl (by kernel_rfl) (fun _ _ _ h => h) (Or.inl ⟨by rfl, ?_⟩) ?_ ?_
   rotate_left
   ·intro w'
    go_simp
    with_reducible rfl
   rotate_left
   ·simp only [Act.put, Qp1, Qp2, Qp3, i64_w, i32_w]
    rfl
   refine take_ (i := 13) (N := some 20) (v := ?_) (a' := ?_) (Qbz 32 98303) rfl rfl (by kernel_rfl) (fun _ _ _ h => h) (Or.inl ⟨by rfl, ?_⟩) hHeld ?_ ?_
   rotate_left
   ·rintro w' ⟨s0, s1, s2⟩
    go_simp
    with_reducible rfl
   rotate_left
   ·simp only [Act.put, Qp1, Qp2, Qp3, i64_w, i32_w]
    rfl
   refine one_ (i := 15) (N := some 22) (Qbz 32 131071) rfl rfl (by kernel_rfl) (by decide) (fun K hK => ?_)
   refine goes_ Tryd.func73 (by kernel_rfl) rfl #[.slice A0 G.length c0, .int .i64 (x : Int)] (by rfl) rfl rfl (by simp only [List.map_toArray, List.map_cons, List.map_nil]; rfl) ?_
   with_reducible refine (CBOR.out _ hHeld.2.2).mono ?_
   rintro e w3 ⟨rfl, f0', f1', fb'⟩
   refine ⟨_, rfl, ?_⟩
   refine hK.out _ _ ⟨f0', f1', fb'⟩ (fun hHeld => ?_)
   clear hK K
   refine norm_ (a' := ?_) ?_ ?_
   rotate_left
   ·show Act.put _ (some 22) _ = _
    simp only [Act.put, Qp1, Qp2, Qp3, i64_w, i32_w]
    rfl
   refine pure_ (i := 17) (N := some 24) (v := ?_) (a' := ?_) (Qbz 32 262143) rfl rfl (by kernel_rfl) (fun _ _ _ h => h) (Or.inl ⟨by rfl, ?_⟩) ?_ ?_
   rotate_left
   ·intro w'
    go_simp
    with_reducible rfl
   rotate_left
   ·simp only [Act.put, Qp1, Qp2, Qp3, i64_w, i32_w]
    rfl
   refine pure_ (i := 18) (N := some 25) (v := ?_) (a' := ?_) (Qbz 32 524287) rfl rfl (by kernel_rfl) (fun _ _ _ h => h) (Or.inl ⟨by rfl, ?_⟩) ?_ ?_
   rotate_left
   ·intro w'
    go_simp
    with_reducible rfl
   rotate_left
   ·simp only [Act.put, Qp1, Qp2, Qp3, i64_w, i32_w]
    rfl
   refine pure_ (i := 19) (N := some 26) (v := ?_) (a' := ?_) (Qbz 32 1048575) rfl rfl (by kernel_rfl) (fun _ _ _ h => h) (Or.inl ⟨by rfl, ?_⟩) ?_ ?_
   rotate_left
   ·intro w'
    go_simp
    with_reducible rfl
   rotate_left
   ·simp only [Act.put, Qp1, Qp2, Qp3, i64_w, i32_w]
    rfl
   refine pure_ (i := 20) (N := some 27) (v := ?_) (a' := ?_) (Qbz 32 2097151) rfl rfl (by kernel_rfl) (fun _ _ _ h => h) (Or.inl ⟨by rfl, ?_⟩) ?_ ?_
   rotate_left
   ·intro w'
    go_simp
    with_reducible rfl
   rotate_left
   ·simp only [Act.put, Qp1, Qp2, Qp3, i64_w, i32_w]
    rfl
   refine pure_ (i := 21) (N := some 28) (v := ?_) (a' := ?_) (Qbz 32 4194303) rfl rfl (by kernel_rfl) (fun _ _ _ h => h) (Or.inl ⟨by rfl, ?_⟩) ?_ ?_
   rotate_left
   ·intro w'
    go_simp
    with_reducible rfl
   rotate_left
   ·simp only [Act.put, Qp1, Qp2, Qp3, i64_w, i32_w]
    rfl
   refine pure_ (i := 22) (N := some 29) (v := ?_) (a' := ?_) (Qbz 32 8388607) rfl rfl (by kernel_rfl) (fun _ _ _ h => h) (Or.inl ⟨by rfl, ?_⟩) ?_ ?_
   rotate_left
   ·intro w'
    go_simp
    with_reducible rfl
   rotate_left
   ·simp only [Act.put, Qp1, Qp2, Qp3, i64_w, i32_w]
    rfl
   refine pure_ (i := 23) (N := some 30) (v := ?_) (a' := ?_) (Qbz 32 16777215) rfl rfl (by kernel_rfl) (fun _ _ _ h => h) (Or.inl ⟨by rfl, ?_⟩) ?_ ?_
   rotate_left
   ·intro w'
    go_simp
    with_reducible rfl
   rotate_left
   ·simp only [Act.put, Qp1, Qp2, Qp3, i64_w, i32_w]
    rfl
   refine pure_ (i := 25) (N := some 32) (v := ?_) (a' := ?_) (Qbz 32 50331647) rfl rfl (by kernel_rfl) (fun _ _ _ h => h) (Or.inl ⟨by rfl, ?_⟩) ?_ ?_
   rotate_left
   ·intro w'
    go_simp
    with_reducible rfl
   rotate_left
   ·simp only [Act.put, Qp1, Qp2, Qp3, i64_w, i32_w]
    rfl
   refine pure_ (i := 26) (N := some 33) (v := ?_) (a' := ?_) (Qbz 32 117440511) rfl rfl (by kernel_rfl) (fun _ _ _ h => h) (Or.inl ⟨by rfl, ?_⟩) ?_ ?_
   rotate_left
   ·intro w'
    go_simp
    with_reducible rfl
   rotate_left
   ·simp only [Act.put, Qp1, Qp2, Qp3, i64_w, i32_w]
    rfl
   refine pure_ (i := 27) (N := some 34) (v := ?_) (a' := ?_) (Qbz 32 251658239) rfl rfl (by kernel_rfl) (fun _ _ _ h => h) (Or.inl ⟨by rfl, ?_⟩) ?_ ?_
   rotate_left
   ·intro w'
    go_simp
    with_reducible rfl
   rotate_left
   ·simp only [Act.put, Qp1, Qp2, Qp3, i64_w, i32_w]
    rfl
   refine take_ (i := 28) (N := some 35) (v := ?_) (a' := ?_) (Qbz 32 520093695) rfl rfl (by kernel_rfl) (fun _ _ _ h => h) (Or.inl ⟨by rfl, ?_⟩) hHeld ?_ ?_
   rotate_left
   ·rintro w' ⟨s0, s1, s2⟩
    go_simp
    with_reducible rfl
   rotate_left
   ·simp only [Act.put, Qp1, Qp2, Qp3, i64_w, i32_w]
    rfl
   refine one_ (i := 24) (N := some 31) (Qbz 32 536870911) rfl rfl (by kernel_rfl) (by decide) (fun K hK => ?_)
   refine goes_ Tryd.func63 (by kernel_rfl) rfl #[.int .i64 (an : Int)] (by rfl) rfl rfl (by simp only [List.map_toArray, List.map_cons, List.map_nil]; rfl) ?_
   with_reducible refine (CCNT.out _ hHeld.2.2).mono ?_
   rintro e w3 ⟨rfl, f0', f1', fb'⟩
   refine ⟨_, rfl, ?_⟩
   refine hK.out _ _ ⟨f0', f1', fb'⟩ (fun hHeld => ?_)
   clear hK K
   refine norm_ (a' := ?_) ?_ ?_
   rotate_left
   ·show Act.put _ (some 31) _ = _
    simp only [Act.put, Qp1, Qp2, Qp3, i64_w, i32_w]
    rfl
   refine pure_ (i := 29) (N := some 36) (v := ?_) (a' := ?_) (Qbz 32 1073741823) rfl rfl (by kernel_rfl) (fun _ _ _ h => h) (Or.inl ⟨by rfl, ?_⟩) ?_ ?_
   rotate_left
   ·intro w'
    go_simp
    with_reducible rfl
   rotate_left
   ·simp only [Act.put, Qp1, Qp2, Qp3, i64_w, i32_w]
    rfl
   refine pure_ (i := 30) (N := some 37) (v := ?_) (a' := ?_) (Qbz 32 2147483647) rfl rfl (by kernel_rfl) (fun _ _ _ h => h) (Or.inl ⟨by rfl, ?_⟩) ?_ ?_
   rotate_left
   ·intro w'
    go_simp
    with_reducible rfl
   rotate_left
   ·simp only [Act.put, Qp1, Qp2, Qp3, i64_w, i32_w]
    rfl
   refine pure_ (i := 31) (N := some 6) (v := ?_) (a' := ?_) (Qbz 32 4294967295) rfl rfl (by kernel_rfl) (fun _ _ _ h => h) (Or.inl ⟨by rfl, ?_⟩) ?_ ?_
   rotate_left
   ·intro w'
    go_simp
    with_reducible rfl
   rotate_left
   ·simp only [Act.put, Qp1, Qp2, Qp3, i64_w, i32_w]
    rfl
   refine done_ (by kernel_rfl) ?_
   go_wp2
   go_ret
   refine ⟨?_, by assumption⟩
   show Ending.returned (Value.bool (decide (pa ≤ k))) = _
   rw [T3.out]
  ·have t2 : ((dx : Int) == 0) = false := by simp; omega
   obtain rfl : false = R := by
    rw [← hR]
    simp [c2]
   clear c1 c2 hR
   go_enter Tryd.func74, Tryd.ntmps74
   go_wp2_with (fail)
   refine start_ (n := 32) (S := fun w' => w'.cell? ⟨f, 0, none⟩ = some (.slice A0 G.length c0) ∧ w'.cell? ⟨f, 1, none⟩ = some (.int .i64 (k : Int)) ∧ Below w.heap.size w w') (ds := []) (Qbz 32 0) (by kernel_rfl) rfl rfl ⟨h0d, h1d, HB0⟩ (fun hHeld => ?_)
   refine pure_ (i := 0) (N := some 7) (v := ?_) (a' := ?_) (Qbz 32 1) rfl rfl (by kernel_rfl) (fun _ _ _ h => h) (Or.inl ⟨by rfl, ?_⟩) ?_ ?_
   rotate_left
   ·intro w'
    go_simp
    with_reducible rfl
   rotate_left
   ·simp only [Act.put, Qp1, Qp2, Qp3, i64_w, i32_w]
    rfl
   refine pure_ (i := 1) (N := some 8) (v := ?_) (a' := ?_) (Qbz 32 3) rfl rfl (by kernel_rfl) (fun _ _ _ h => h) (Or.inl ⟨by rfl, ?_⟩) ?_ ?_
   rotate_left
   ·intro w'
    go_simp
    with_reducible rfl
   rotate_left
   ·simp only [Act.put, Qp1, Qp2, Qp3, i64_w, i32_w]
    rfl
   refine pure_ (i := 2) (N := some 9) (v := ?_) (a' := ?_) (Qbz 32 7) rfl rfl (by kernel_rfl) (fun _ _ _ h => h) (Or.inl ⟨by rfl, ?_⟩) ?_ ?_
   rotate_left
   ·intro w'
    go_simp
    with_reducible rfl
   rotate_left
   ·simp only [Act.put, Qp1, Qp2, Qp3, i64_w, i32_w]
    rfl
   refine pure_ (i := 3) (N := some 10) (v := ?_) (a' := ?_) (Qbz 32 15) rfl rfl (by kernel_rfl) (fun _ _ _ h => h) (Or.inl ⟨by rfl, ?_⟩) ?_ ?_
   rotate_left
   ·intro w'
    go_simp
    with_reducible rfl
   rotate_left
   ·simp only [Act.put, Qp1, Qp2, Qp3, i64_w, i32_w]
    rfl
   refine pure_ (i := 4) (N := some 11) (v := ?_) (a' := ?_) (Qbz 32 31) rfl rfl (by kernel_rfl) (fun _ _ _ h => h) (Or.inl ⟨by rfl, ?_⟩) ?_ ?_
   rotate_left
   ·intro w'
    go_simp
    with_reducible rfl
   rotate_left
   ·simp only [Act.put, Qp1, Qp2, Qp3, i64_w, i32_w]
    rfl
   refine pure_ (i := 5) (N := some 12) (v := ?_) (a' := ?_) (Qbz 32 63) rfl rfl (by kernel_rfl) (fun _ _ _ h => h) (Or.inl ⟨by rfl, ?_⟩) ?_ ?_
   rotate_left
   ·intro w'
    go_simp
    with_reducible rfl
   rotate_left
   ·simp only [Act.put, Qp1, Qp2, Qp3, i64_w, i32_w]
    rfl
   refine take_ (i := 6) (N := some 13) (v := ?_) (a' := ?_) (Qbz 32 127) rfl rfl (by kernel_rfl) (fun _ _ _ h => h) (Or.inl ⟨by rfl, ?_⟩) hHeld ?_ ?_
   rotate_left
   ·rintro w' ⟨s0, s1, s2⟩
    go_simp
    with_reducible rfl
   rotate_left
   ·simp only [Act.put, Qp1, Qp2, Qp3, i64_w, i32_w]
    rfl
   refine one_ (i := 7) (N := some 14) (Qbz 32 255) rfl rfl (by kernel_rfl) (by decide) (fun K hK => ?_)
   refine goes_ Tryd.func61 (by kernel_rfl) rfl #[.slice A0 G.length c0] (by rfl) rfl rfl (by simp only [List.map_toArray, List.map_cons, List.map_nil]; rfl) ?_
   with_reducible refine (CALL.out _ hHeld.2.2).mono ?_
   rintro e w3 ⟨rfl, f0', f1', fb'⟩
   refine ⟨_, rfl, ?_⟩
   refine hK.out _ _ ⟨f0', f1', fb'⟩ (fun hHeld => ?_)
   clear hK K
   refine norm_ (a' := ?_) ?_ ?_
   rotate_left
   ·show Act.put _ (some 14) _ = _
    simp only [Act.put, Qp1, Qp2, Qp3, i64_w, i32_w]
    rfl
   refine pure_ (i := 8) (N := some 15) (v := ?_) (a' := ?_) (Qbz 32 511) rfl rfl (by kernel_rfl) (fun _ _ _ h => h) (Or.inl ⟨by rfl, ?_⟩) ?_ ?_
   rotate_left
   ·intro w'
    go_simp
    with_reducible rfl
   rotate_left
   ·simp only [Act.put, Qp1, Qp2, Qp3, i64_w, i32_w]
    rfl
   refine pure_ (i := 9) (N := some 16) (v := ?_) (a' := ?_) (Qbz 32 1023) rfl rfl (by kernel_rfl) (fun _ _ _ h => h) (Or.inl ⟨by rfl, ?_⟩) ?_ ?_
   rotate_left
   ·intro w'
    go_simp
    with_reducible rfl
   rotate_left
   ·simp only [Act.put, Qp1, Qp2, Qp3, i64_w, i32_w]
    rfl
   refine pure_ (i := 10) (N := some 17) (v := ?_) (a' := ?_) (Qbz 32 2047) rfl rfl (by kernel_rfl) (fun _ _ _ h => h) (Or.inl ⟨by rfl, ?_⟩) ?_ ?_
   rotate_left
   ·intro w'
    go_simp
    with_reducible rfl
   rotate_left
   ·simp only [Act.put, Qp1, Qp2, Qp3, i64_w, i32_w]
    rfl
   refine pure_ (i := 11) (N := some 18) (v := ?_) (a' := ?_) (Qbz 32 4095) rfl rfl (by kernel_rfl) (fun _ _ _ h => h) (Or.inl ⟨by rfl, ?_⟩) ?_ ?_
   rotate_left
   ·intro w'
    go_simp
    with_reducible rfl
   rotate_left
   ·simp only [Act.put, Qp1, Qp2, Qp3, i64_w, i32_w]
    rfl
   refine pure_ (i := 12) (N := some 19) (v := ?_) (a' := ?_) (Qbz 32 8191) rfl rfl (by kernel_rfl) (fun _ _ _ h => h) (Or.inl ⟨by rfl, ?_⟩) ?_ ?_
   rotate_left
   ·intro w'
    go_simp
    with_reducible rfl
   rotate_left
   ·simp only [Act.put, Qp1, Qp2, Qp3, i64_w, i32_w]
    rfl
   refine pure_ (i := 14) (N := some 21) (v := ?_) (a' := ?_) (Qbz 32 24575) rfl rfl (by kernel_rfl) (fun _ _ _ h => h) (Or.inl ⟨by rfl, ?_⟩) ?_ ?_
   rotate_left
   ·intro w'
    go_simp
    with_reducible rfl
   rotate_left
   ·simp only [Act.put, Qp1, Qp2, Qp3, i64_w, i32_w]
    rfl
   refine pure_ (i := 16) (N := some 23) (v := ?_) (a' := ?_) (Qbz 32 90111) rfl rfl (by kernel_rfl) (fun _ _ _ h => h) (Or.inl ⟨by rfl, ?_⟩) ?_ ?_
   rotate_left
   ·intro w'
    go_simp
    with_reducible rfl
   rotate_left
   ·simp only [Act.put, Qp1, Qp2, Qp3, i64_w, i32_w]
    rfl
   refine take_ (i := 13) (N := some 20) (v := ?_) (a' := ?_) (Qbz 32 98303) rfl rfl (by kernel_rfl) (fun _ _ _ h => h) (Or.inl ⟨by rfl, ?_⟩) hHeld ?_ ?_
   rotate_left
   ·rintro w' ⟨s0, s1, s2⟩
    go_simp
    with_reducible rfl
   rotate_left
   ·simp only [Act.put, Qp1, Qp2, Qp3, i64_w, i32_w]
    rfl
   refine one_ (i := 15) (N := some 22) (Qbz 32 131071) rfl rfl (by kernel_rfl) (by decide) (fun K hK => ?_)
   refine goes_ Tryd.func73 (by kernel_rfl) rfl #[.slice A0 G.length c0, .int .i64 (x : Int)] (by rfl) rfl rfl (by simp only [List.map_toArray, List.map_cons, List.map_nil]; rfl) ?_
   with_reducible refine (CBOR.out _ hHeld.2.2).mono ?_
   rintro e w3 ⟨rfl, f0', f1', fb'⟩
   refine ⟨_, rfl, ?_⟩
   refine hK.out _ _ ⟨f0', f1', fb'⟩ (fun hHeld => ?_)
   clear hK K
   refine norm_ (a' := ?_) ?_ ?_
   rotate_left
   ·show Act.put _ (some 22) _ = _
    simp only [Act.put, Qp1, Qp2, Qp3, i64_w, i32_w]
    rfl
   refine pure_ (i := 17) (N := some 24) (v := ?_) (a' := ?_) (Qbz 32 262143) rfl rfl (by kernel_rfl) (fun _ _ _ h => h) (Or.inl ⟨by rfl, ?_⟩) ?_ ?_
   rotate_left
   ·intro w'
    go_simp
    with_reducible rfl
   rotate_left
   ·simp only [Act.put, Qp1, Qp2, Qp3, i64_w, i32_w]
    rfl
   refine pure_ (i := 18) (N := some 25) (v := ?_) (a' := ?_) (Qbz 32 524287) rfl rfl (by kernel_rfl) (fun _ _ _ h => h) (Or.inl ⟨by rfl, ?_⟩) ?_ ?_
   rotate_left
   ·intro w'
    go_simp
    with_reducible rfl
   rotate_left
   ·simp only [Act.put, Qp1, Qp2, Qp3, i64_w, i32_w]
    rfl
   refine pure_ (i := 19) (N := some 26) (v := ?_) (a' := ?_) (Qbz 32 1048575) rfl rfl (by kernel_rfl) (fun _ _ _ h => h) (Or.inl ⟨by rfl, ?_⟩) ?_ ?_
   rotate_left
   ·intro w'
    go_simp
    with_reducible rfl
   rotate_left
   ·simp only [Act.put, Qp1, Qp2, Qp3, i64_w, i32_w]
    rfl
   refine pure_ (i := 20) (N := some 27) (v := ?_) (a' := ?_) (Qbz 32 2097151) rfl rfl (by kernel_rfl) (fun _ _ _ h => h) (Or.inl ⟨by rfl, ?_⟩) ?_ ?_
   rotate_left
   ·intro w'
    go_simp
    with_reducible rfl
   rotate_left
   ·simp only [Act.put, Qp1, Qp2, Qp3, i64_w, i32_w]
    rfl
   refine pure_ (i := 21) (N := some 28) (v := undef) (a' := ?_) (Qbz 32 4194303) rfl rfl (by kernel_rfl) (fun _ _ _ h => h) (Or.inr ⟨by rfl, rfl⟩) ?_ ?_
   rotate_left
   ·simp only [Act.put, Qp1, Qp2, Qp3, i64_w, i32_w]
    rfl
   refine pure_ (i := 22) (N := some 29) (v := undef) (a' := ?_) (Qbz 32 8388607) rfl rfl (by kernel_rfl) (fun _ _ _ h => h) (Or.inr ⟨by rfl, rfl⟩) ?_ ?_
   rotate_left
   ·simp only [Act.put, Qp1, Qp2, Qp3, i64_w, i32_w]
    rfl
   refine pure_ (i := 23) (N := some 30) (v := undef) (a' := ?_) (Qbz 32 16777215) rfl rfl (by kernel_rfl) (fun _ _ _ h => h) (Or.inr ⟨by rfl, rfl⟩) ?_ ?_
   rotate_left
   ·simp only [Act.put, Qp1, Qp2, Qp3, i64_w, i32_w]
    rfl
   refine pure_ (i := 24) (N := some 31) (v := undef) (a' := ?_) (Qbz 32 33554431) rfl rfl (by kernel_rfl) (fun _ _ _ h => h) (Or.inr ⟨by rfl, rfl⟩) ?_ ?_
   rotate_left
   ·simp only [Act.put, Qp1, Qp2, Qp3, i64_w, i32_w]
    rfl
   refine pure_ (i := 25) (N := some 32) (v := undef) (a' := ?_) (Qbz 32 67108863) rfl rfl (by kernel_rfl) (fun _ _ _ h => h) (Or.inr ⟨by rfl, rfl⟩) ?_ ?_
   rotate_left
   ·simp only [Act.put, Qp1, Qp2, Qp3, i64_w, i32_w]
    rfl
   refine pure_ (i := 26) (N := some 33) (v := undef) (a' := ?_) (Qbz 32 134217727) rfl rfl (by kernel_rfl) (fun _ _ _ h => h) (Or.inr ⟨by rfl, rfl⟩) ?_ ?_
   rotate_left
   ·simp only [Act.put, Qp1, Qp2, Qp3, i64_w, i32_w]
    rfl
   refine pure_ (i := 27) (N := some 34) (v := undef) (a' := ?_) (Qbz 32 268435455) rfl rfl (by kernel_rfl) (fun _ _ _ h => h) (Or.inr ⟨by rfl, rfl⟩) ?_ ?_
   rotate_left
   ·simp only [Act.put, Qp1, Qp2, Qp3, i64_w, i32_w]
    rfl
   refine pure_ (i := 28) (N := some 35) (v := undef) (a' := ?_) (Qbz 32 536870911) rfl rfl (by kernel_rfl) (fun _ _ _ h => h) (Or.inr ⟨by rfl, rfl⟩) ?_ ?_
   rotate_left
   ·simp only [Act.put, Qp1, Qp2, Qp3, i64_w, i32_w]
    rfl
   refine pure_ (i := 29) (N := some 36) (v := undef) (a' := ?_) (Qbz 32 1073741823) rfl rfl (by kernel_rfl) (fun _ _ _ h => h) (Or.inr ⟨by rfl, rfl⟩) ?_ ?_
   rotate_left
   ·simp only [Act.put, Qp1, Qp2, Qp3, i64_w, i32_w]
    rfl
   refine pure_ (i := 30) (N := some 37) (v := ?_) (a' := ?_) (Qbz 32 2147483647) rfl rfl (by kernel_rfl) (fun _ _ _ h => h) (Or.inl ⟨by rfl, ?_⟩) ?_ ?_
   rotate_left
   ·intro w'
    go_simp
    with_reducible rfl
   rotate_left
   ·simp only [Act.put, Qp1, Qp2, Qp3, i64_w, i32_w]
    rfl
   refine pure_ (i := 31) (N := some 6) (v := ?_) (a' := ?_) (Qbz 32 4294967295) rfl rfl (by kernel_rfl) (fun _ _ _ h => h) (Or.inl ⟨by rfl, ?_⟩) ?_ ?_
   rotate_left
   ·intro w'
    go_simp
    with_reducible rfl
   rotate_left
   ·simp only [Act.put, Qp1, Qp2, Qp3, i64_w, i32_w]
    rfl
   refine done_ (by kernel_rfl) ?_
   go_wp2
   go_ret
   exact ⟨rfl, by assumption⟩
 ·have t1 : ((o : Int) == (P : Int)) = false := by simp; omega
  obtain rfl : false = R := by
   rw [← hR]
   simp [c1]
  clear c1 hR
  go_enter Tryd.func74, Tryd.ntmps74
  go_wp2_with (fail)
  refine start_ (n := 32) (S := fun w' => w'.cell? ⟨f, 0, none⟩ = some (.slice A0 G.length c0) ∧ w'.cell? ⟨f, 1, none⟩ = some (.int .i64 (k : Int)) ∧ Below w.heap.size w w') (ds := []) (Qbz 32 0) (by kernel_rfl) rfl rfl ⟨h0d, h1d, HB0⟩ (fun hHeld => ?_)
  refine pure_ (i := 0) (N := some 7) (v := ?_) (a' := ?_) (Qbz 32 1) rfl rfl (by kernel_rfl) (fun _ _ _ h => h) (Or.inl ⟨by rfl, ?_⟩) ?_ ?_
  rotate_left
  ·intro w'
   go_simp
   with_reducible rfl
  rotate_left
  ·simp only [Act.put, Qp1, Qp2, Qp3, i64_w, i32_w]
   rfl
  refine pure_ (i := 1) (N := some 8) (v := ?_) (a' := ?_) (Qbz 32 3) rfl rfl (by kernel_rfl) (fun _ _ _ h => h) (Or.inl ⟨by rfl, ?_⟩) ?_ ?_
  rotate_left
  ·intro w'
   go_simp
   with_reducible rfl
  rotate_left
  ·simp only [Act.put, Qp1, Qp2, Qp3, i64_w, i32_w]
   rfl
  refine pure_ (i := 2) (N := some 9) (v := ?_) (a' := ?_) (Qbz 32 7) rfl rfl (by kernel_rfl) (fun _ _ _ h => h) (Or.inl ⟨by rfl, ?_⟩) ?_ ?_
  rotate_left
  ·intro w'
   go_simp
   with_reducible rfl
  rotate_left
  ·simp only [Act.put, Qp1, Qp2, Qp3, i64_w, i32_w]
   rfl
  refine pure_ (i := 3) (N := some 10) (v := ?_) (a' := ?_) (Qbz 32 15) rfl rfl (by kernel_rfl) (fun _ _ _ h => h) (Or.inl ⟨by rfl, ?_⟩) ?_ ?_
  rotate_left
  ·intro w'
   go_simp
   with_reducible rfl
  rotate_left
  ·simp only [Act.put, Qp1, Qp2, Qp3, i64_w, i32_w]
   rfl
  refine pure_ (i := 4) (N := some 11) (v := ?_) (a' := ?_) (Qbz 32 31) rfl rfl (by kernel_rfl) (fun _ _ _ h => h) (Or.inl ⟨by rfl, ?_⟩) ?_ ?_
  rotate_left
  ·intro w'
   go_simp
   with_reducible rfl
  rotate_left
  ·simp only [Act.put, Qp1, Qp2, Qp3, i64_w, i32_w]
   rfl
  refine pure_ (i := 5) (N := some 12) (v := ?_) (a' := ?_) (Qbz 32 63) rfl rfl (by kernel_rfl) (fun _ _ _ h => h) (Or.inl ⟨by rfl, ?_⟩) ?_ ?_
  rotate_left
  ·intro w'
   go_simp
   with_reducible rfl
  rotate_left
  ·simp only [Act.put, Qp1, Qp2, Qp3, i64_w, i32_w]
   rfl
  refine take_ (i := 6) (N := some 13) (v := ?_) (a' := ?_) (Qbz 32 127) rfl rfl (by kernel_rfl) (fun _ _ _ h => h) (Or.inl ⟨by rfl, ?_⟩) hHeld ?_ ?_
  rotate_left
  ·rintro w' ⟨s0, s1, s2⟩
   go_simp
   with_reducible rfl
  rotate_left
  ·simp only [Act.put, Qp1, Qp2, Qp3, i64_w, i32_w]
   rfl
  refine one_ (i := 7) (N := some 14) (Qbz 32 255) rfl rfl (by kernel_rfl) (by decide) (fun K hK => ?_)
  refine goes_ Tryd.func61 (by kernel_rfl) rfl #[.slice A0 G.length c0] (by rfl) rfl rfl (by simp only [List.map_toArray, List.map_cons, List.map_nil]; rfl) ?_
  with_reducible refine (CALL.out _ hHeld.2.2).mono ?_
  rintro e w3 ⟨rfl, f0', f1', fb'⟩
  refine ⟨_, rfl, ?_⟩
  refine hK.out _ _ ⟨f0', f1', fb'⟩ (fun hHeld => ?_)
  clear hK K
  refine norm_ (a' := ?_) ?_ ?_
  rotate_left
  ·show Act.put _ (some 14) _ = _
   simp only [Act.put, Qp1, Qp2, Qp3, i64_w, i32_w]
   rfl
  refine pure_ (i := 8) (N := some 15) (v := ?_) (a' := ?_) (Qbz 32 511) rfl rfl (by kernel_rfl) (fun _ _ _ h => h) (Or.inl ⟨by rfl, ?_⟩) ?_ ?_
  rotate_left
  ·intro w'
   go_simp
   with_reducible rfl
  rotate_left
  ·simp only [Act.put, Qp1, Qp2, Qp3, i64_w, i32_w]
   rfl
  refine pure_ (i := 9) (N := some 16) (v := ?_) (a' := ?_) (Qbz 32 1023) rfl rfl (by kernel_rfl) (fun _ _ _ h => h) (Or.inl ⟨by rfl, ?_⟩) ?_ ?_
  rotate_left
  ·intro w'
   go_simp
   with_reducible rfl
  rotate_left
  ·simp only [Act.put, Qp1, Qp2, Qp3, i64_w, i32_w]
   rfl
  refine pure_ (i := 10) (N := some 17) (v := undef) (a' := ?_) (Qbz 32 2047) rfl rfl (by kernel_rfl) (fun _ _ _ h => h) (Or.inr ⟨by rfl, rfl⟩) ?_ ?_
  rotate_left
  ·simp only [Act.put, Qp1, Qp2, Qp3, i64_w, i32_w]
   rfl
  refine pure_ (i := 11) (N := some 18) (v := undef) (a' := ?_) (Qbz 32 4095) rfl rfl (by kernel_rfl) (fun _ _ _ h => h) (Or.inr ⟨by rfl, rfl⟩) ?_ ?_
  rotate_left
  ·simp only [Act.put, Qp1, Qp2, Qp3, i64_w, i32_w]
   rfl
  refine pure_ (i := 12) (N := some 19) (v := undef) (a' := ?_) (Qbz 32 8191) rfl rfl (by kernel_rfl) (fun _ _ _ h => h) (Or.inr ⟨by rfl, rfl⟩) ?_ ?_
  rotate_left
  ·simp only [Act.put, Qp1, Qp2, Qp3, i64_w, i32_w]
   rfl
  refine pure_ (i := 13) (N := some 20) (v := undef) (a' := ?_) (Qbz 32 16383) rfl rfl (by kernel_rfl) (fun _ _ _ h => h) (Or.inr ⟨by rfl, rfl⟩) ?_ ?_
  rotate_left
  ·simp only [Act.put, Qp1, Qp2, Qp3, i64_w, i32_w]
   rfl
  refine pure_ (i := 14) (N := some 21) (v := undef) (a' := ?_) (Qbz 32 32767) rfl rfl (by kernel_rfl) (fun _ _ _ h => h) (Or.inr ⟨by rfl, rfl⟩) ?_ ?_
  rotate_left
  ·simp only [Act.put, Qp1, Qp2, Qp3, i64_w, i32_w]
   rfl
  refine pure_ (i := 15) (N := some 22) (v := undef) (a' := ?_) (Qbz 32 65535) rfl rfl (by kernel_rfl) (fun _ _ _ h => h) (Or.inr ⟨by rfl, rfl⟩) ?_ ?_
  rotate_left
  ·simp only [Act.put, Qp1, Qp2, Qp3, i64_w, i32_w]
   rfl
  refine pure_ (i := 16) (N := some 23) (v := undef) (a' := ?_) (Qbz 32 131071) rfl rfl (by kernel_rfl) (fun _ _ _ h => h) (Or.inr ⟨by rfl, rfl⟩) ?_ ?_
  rotate_left
  ·simp only [Act.put, Qp1, Qp2, Qp3, i64_w, i32_w]
   rfl
  refine pure_ (i := 17) (N := some 24) (v := undef) (a' := ?_) (Qbz 32 262143) rfl rfl (by kernel_rfl) (fun _ _ _ h => h) (Or.inr ⟨by rfl, rfl⟩) ?_ ?_
  rotate_left
  ·simp only [Act.put, Qp1, Qp2, Qp3, i64_w, i32_w]
   rfl
  refine pure_ (i := 18) (N := some 25) (v := undef) (a' := ?_) (Qbz 32 524287) rfl rfl (by kernel_rfl) (fun _ _ _ h => h) (Or.inr ⟨by rfl, rfl⟩) ?_ ?_
  rotate_left
  ·simp only [Act.put, Qp1, Qp2, Qp3, i64_w, i32_w]
   rfl
  refine pure_ (i := 19) (N := some 26) (v := ?_) (a' := ?_) (Qbz 32 1048575) rfl rfl (by kernel_rfl) (fun _ _ _ h => h) (Or.inl ⟨by rfl, ?_⟩) ?_ ?_
  rotate_left
  ·intro w'
   go_simp
   with_reducible rfl
  rotate_left
  ·simp only [Act.put, Qp1, Qp2, Qp3, i64_w, i32_w]
   rfl
  refine pure_ (i := 20) (N := some 27) (v := ?_) (a' := ?_) (Qbz 32 2097151) rfl rfl (by kernel_rfl) (fun _ _ _ h => h) (Or.inl ⟨by rfl, ?_⟩) ?_ ?_
  rotate_left
  ·intro w'
   go_simp
   with_reducible rfl
  rotate_left
  ·simp only [Act.put, Qp1, Qp2, Qp3, i64_w, i32_w]
   rfl
  refine pure_ (i := 21) (N := some 28) (v := undef) (a' := ?_) (Qbz 32 4194303) rfl rfl (by kernel_rfl) (fun _ _ _ h => h) (Or.inr ⟨by rfl, rfl⟩) ?_ ?_
  rotate_left
  ·simp only [Act.put, Qp1, Qp2, Qp3, i64_w, i32_w]
   rfl
  refine pure_ (i := 22) (N := some 29) (v := undef) (a' := ?_) (Qbz 32 8388607) rfl rfl (by kernel_rfl) (fun _ _ _ h => h) (Or.inr ⟨by rfl, rfl⟩) ?_ ?_
  rotate_left
  ·simp only [Act.put, Qp1, Qp2, Qp3, i64_w, i32_w]
   rfl
  refine pure_ (i := 23) (N := some 30) (v := undef) (a' := ?_) (Qbz 32 16777215) rfl rfl (by kernel_rfl) (fun _ _ _ h => h) (Or.inr ⟨by rfl, rfl⟩) ?_ ?_
  rotate_left
  ·simp only [Act.put, Qp1, Qp2, Qp3, i64_w, i32_w]
   rfl
  refine pure_ (i := 24) (N := some 31) (v := undef) (a' := ?_) (Qbz 32 33554431) rfl rfl (by kernel_rfl) (fun _ _ _ h => h) (Or.inr ⟨by rfl, rfl⟩) ?_ ?_
  rotate_left
  ·simp only [Act.put, Qp1, Qp2, Qp3, i64_w, i32_w]
   rfl
  refine pure_ (i := 25) (N := some 32) (v := undef) (a' := ?_) (Qbz 32 67108863) rfl rfl (by kernel_rfl) (fun _ _ _ h => h) (Or.inr ⟨by rfl, rfl⟩) ?_ ?_
  rotate_left
  ·simp only [Act.put, Qp1, Qp2, Qp3, i64_w, i32_w]
   rfl
  refine pure_ (i := 26) (N := some 33) (v := undef) (a' := ?_) (Qbz 32 134217727) rfl rfl (by kernel_rfl) (fun _ _ _ h => h) (Or.inr ⟨by rfl, rfl⟩) ?_ ?_
  rotate_left
  ·simp only [Act.put, Qp1, Qp2, Qp3, i64_w, i32_w]
   rfl
  refine pure_ (i := 27) (N := some 34) (v := undef) (a' := ?_) (Qbz 32 268435455) rfl rfl (by kernel_rfl) (fun _ _ _ h => h) (Or.inr ⟨by rfl, rfl⟩) ?_ ?_
  rotate_left
  ·simp only [Act.put, Qp1, Qp2, Qp3, i64_w, i32_w]
   rfl
  refine pure_ (i := 28) (N := some 35) (v := undef) (a' := ?_) (Qbz 32 536870911) rfl rfl (by kernel_rfl) (fun _ _ _ h => h) (Or.inr ⟨by rfl, rfl⟩) ?_ ?_
  rotate_left
  ·simp only [Act.put, Qp1, Qp2, Qp3, i64_w, i32_w]
   rfl
  refine pure_ (i := 29) (N := some 36) (v := undef) (a' := ?_) (Qbz 32 1073741823) rfl rfl (by kernel_rfl) (fun _ _ _ h => h) (Or.inr ⟨by rfl, rfl⟩) ?_ ?_
  rotate_left
  ·simp only [Act.put, Qp1, Qp2, Qp3, i64_w, i32_w]
   rfl
  refine pure_ (i := 30) (N := some 37) (v := ?_) (a' := ?_) (Qbz 32 2147483647) rfl rfl (by kernel_rfl) (fun _ _ _ h => h) (Or.inl ⟨by rfl, ?_⟩) ?_ ?_
  rotate_left
  ·intro w'
   go_simp
   with_reducible rfl
  rotate_left
  ·simp only [Act.put, Qp1, Qp2, Qp3, i64_w, i32_w]
   rfl
  refine pure_ (i := 31) (N := some 6) (v := ?_) (a' := ?_) (Qbz 32 4294967295) rfl rfl (by kernel_rfl) (fun _ _ _ h => h) (Or.inl ⟨by rfl, ?_⟩) ?_ ?_
  rotate_left
  ·intro w'
   go_simp
   with_reducible rfl
  rotate_left
  ·simp only [Act.put, Qp1, Qp2, Qp3, i64_w, i32_w]
   rfl
  refine done_ (by kernel_rfl) ?_
  go_wp2
  go_ret
  exact ⟨rfl, by assumption⟩
theorem own_ne_blk {W : World} {base g : Nat} {e t : TypeId} {size : Nat} {v : Value} {k : Nat} {xs : List Value} {cs : Array Value} (h : W.ownsRow base e size v k xs) (hb : W.heap[g]? = some (.cells cs t (0, 0))) (hne : e ≠ t) : v.ownBlock ≠ some g := by
 rcases h.2 with ⟨rfl, _⟩ | ⟨g2, cap, cur, rfl, _, hg, _⟩
 ·simp [Value.ownBlock]
 ·intro e2
  obtain rfl : g2 = g := by simpa [Value.ownBlock] using e2
  rw [hg] at hb
  injection hb with hb
  injection hb with _ h2
  exact hne h2
structure FamI (w W : World) (gf H : Nat) (A0 : Option Addr) (c0 n k : Nat) (v2 v3 : Value) (bs : List Bool) (Ls : List (List Int)) : Prop where
 blk : W.heap[gf]? = some (.cells #[.slice A0 n c0, .int .i64 (k : Int), v2, v3] 96 (0, 0))
 ge : w.heap.size ≤ gf
 lt : gf < H
 own2 : W.ownsRow w.heap.size 4 1 v2 bs.length (bs.map Value.bool)
 lt2 : ∀ b, v2.ownBlock = some b → b < H
 own3 : ∃ rows, W.ownsRow w.heap.size 22 1 v3 Ls.length rows ∧ Rows w.heap.size W rows Ls ∧ ∀ v ∈ rows, ∀ b, v.ownBlock = some b → b < H
 lt3 : ∀ b, v3.ownBlock = some b → b < H
 below : Below w.heap.size w W
 top : H ≤ W.heap.size
theorem FamI.kept {w W V : World} {gf H : Nat} {A0 : Option Addr} {c0 n k : Nat} {v2 v3 : Value} {bs : List Bool} {Ls : List (List Int)} {row : Option Nat} (h : FamI w W gf H A0 c0 n k v2 v3 bs Ls) (hg : W.grownBy V row) (hr : ∀ r, row = some r → H ≤ r) : FamI w V gf H A0 c0 n k v2 v3 bs Ls := by
 have ne : ∀ b, b < H → some b ≠ row := fun b hb e => by have := hr b e.symm; omega
 have hlt := h.lt
 have hge := h.ge
 obtain ⟨rows, r1, r2, r3⟩ := h.own3
 refine ⟨blk_grown h.blk hg (ne _ hlt), hge, hlt, own_kept h.own2 hg (fun b hb => ne b (h.lt2 b hb)), h.lt2, ⟨rows, own_kept r1 hg (fun b hb => ne b (h.lt3 b hb)), ⟨r2.1, fun i L hL => ?_⟩, r3⟩, h.lt3, h.below.grown hg h.below.size (fun j e => by have := hr j e; omega), Nat.le_trans h.top hg.size⟩
 obtain ⟨v, q1, q2⟩ := r2.2 i L hL
 exact ⟨v, q1, own_kept q2 hg (fun b hb => ne b (r3 v (List.mem_of_getElem? q1) b hb))⟩
theorem FamI.low {w W V : World} {gf H : Nat} {A0 : Option Addr} {c0 n k : Nat} {v2 v3 : Value} {bs : List Bool} {Ls : List (List Int)} (h : FamI w W gf H A0 c0 n k v2 v3 bs Ls) (hb : Below W.heap.size W V) : FamI w V gf H A0 c0 n k v2 v3 bs Ls := h.kept (grown_of_below hb none) (fun r e => by cases e)
theorem FamI.up {w W : World} {gf H H2 : Nat} {A0 : Option Addr} {c0 n k : Nat} {v2 v3 : Value} {bs : List Bool} {Ls : List (List Int)} (h : FamI w W gf H A0 c0 n k v2 v3 bs Ls) (h1 : H ≤ H2) (h2 : H2 ≤ W.heap.size) : FamI w W gf H2 A0 c0 n k v2 v3 bs Ls := by
 obtain ⟨rows, r1, r2, r3⟩ := h.own3
 exact ⟨h.blk, h.ge, Nat.lt_of_lt_of_le h.lt h1, h.own2, fun b hb => Nat.lt_of_lt_of_le (h.lt2 b hb) h1, ⟨rows, r1, r2, fun v hv b hb => Nat.lt_of_lt_of_le (r3 v hv b hb) h1⟩, fun b hb => Nat.lt_of_lt_of_le (h.lt3 b hb) h1, h.below, h2⟩
theorem FamI.small {w W V : World} {gf H : Nat} {A0 : Option Addr} {c0 n k : Nat} {v2 v3 v2' : Value} {bs : List Bool} {Ls : List (List Int)} {b : Bool} {o : Obj} (h : FamI w W gf H A0 c0 n k v2 v3 bs Ls) (hg : (W.alloc o).grownBy V v2.ownBlock) (hown : V.ownsRow w.heap.size 4 1 v2' (bs.length + 1) (bs.map Value.bool ++ [.bool b])) :
  FamI w (V.setCell ⟨gf, 2, none⟩ v2') gf V.heap.size A0 c0 n k v2' v3 (bs ++ [b]) Ls := by
 have hge := h.ge
 have hlt := h.lt
 have htop := h.top
 have hgs := hg.size
 simp only [World.size_alloc] at hgs
 have hsz : (V.setCell ⟨gf, 2, none⟩ v2').heap.size = V.heap.size := World.size_setCell _ _ _
 obtain ⟨rows, r1, r2, r3⟩ := h.own3
 have hb1 : V.heap[gf]? = some (.cells #[.slice A0 n c0, .int .i64 (k : Int), v2, v3] 96 (0, 0)) := blk_grown (blk_alloc h.blk o) hg (fun e => own_ne_blk (h.own2.alloc o) (blk_alloc h.blk o) (by decide) e.symm)
 have hnb := own_ne_blk hown hb1 (by decide)
 have set_kept : ∀ {base : Nat} {e : TypeId} {v : Value} {m : Nat} {xs : List Value}, V.ownsRow base e 1 v m xs → e ≠ 96 → (V.setCell ⟨gf, 2, none⟩ v2').ownsRow base e 1 v m xs := fun ho he =>
  own_kept ho (grownBy_set V _ _) (fun b hb e2 => own_ne_blk ho hb1 he (by rw [hb]; exact e2))
 refine ⟨by simpa using blk_set hb1 2 v2', hge, by omega, ?_, fun b hb => own_lt hown b hb, ⟨rows, ?_, ?_, fun v hv b hb => ?_⟩, fun b hb => ?_, ?_, by omega⟩
 ·rw [List.length_append, List.map_append]
  exact set_kept hown (by decide)
 ·exact set_kept (ownsRow_other (r1.alloc o) (h.own2.alloc o) (by decide) hg) (by decide)
 ·exact r2.imp fun v L hv => set_kept (ownsRow_other (hv.alloc o) (h.own2.alloc o) (by decide) hg) (by decide)
 ·have := r3 v hv b hb; omega
 ·have := h.lt3 b hb; omega
 ·exact below_set ((below_alloc h.below o).grown hg (by have := h.below.size; simp; omega) (fun j e => by
   rcases (h.own2.alloc o).2 with ⟨e1, _⟩ | ⟨g2, cap, cur, e1, hb2, _⟩
   ·rw [e1] at e; simp [Value.ownBlock] at e
   ·rw [e1] at e
    obtain rfl : g2 = j := by simpa [Value.ownBlock] using e
    exact hb2)) hge
theorem FamI.other {w W V : World} {gf H HH : Nat} {A0 : Option Addr} {c0 n k : Nat} {v2 v3 v3' v7 : Value} {bs : List Bool} {Ls : List (List Int)} {rows : List Value} {L : List Int} {o : Obj} (h : FamI w W gf H A0 c0 n k v2 v3 bs Ls) (hHH : w.heap.size ≤ HH) (h7 : W.ownsRow HH 3 1 v7 L.length (L.map (Value.int .i64))) (r1 : W.ownsRow w.heap.size 22 1 v3 Ls.length rows) (r2 : Rows w.heap.size W rows Ls) (r3 : ∀ v ∈ rows, ∀ b, v.ownBlock = some b → b < H)
  (hg : (W.alloc o).grownBy V v3.ownBlock) (hown : V.ownsRow w.heap.size 22 1 v3' (Ls.length + 1) (rows ++ [v7])) :
  FamI w (V.setCell ⟨gf, 3, none⟩ v3') gf V.heap.size A0 c0 n k v2 v3' bs (Ls ++ [L]) := by
 have hge := h.ge
 have hlt := h.lt
 have htop := h.top
 have hgs := hg.size
 simp only [World.size_alloc] at hgs
 have hsz : (V.setCell ⟨gf, 3, none⟩ v3').heap.size = V.heap.size := World.size_setCell _ _ _
 have hb1 : V.heap[gf]? = some (.cells #[.slice A0 n c0, .int .i64 (k : Int), v2, v3] 96 (0, 0)) := blk_grown (blk_alloc h.blk o) hg (fun e => own_ne_blk (r1.alloc o) (blk_alloc h.blk o) (by decide) e.symm)
 have set_kept : ∀ {base : Nat} {e : TypeId} {v : Value} {m : Nat} {xs : List Value}, V.ownsRow base e 1 v m xs → e ≠ 96 → (V.setCell ⟨gf, 3, none⟩ v3').ownsRow base e 1 v m xs := fun ho he =>
  own_kept ho (grownBy_set V _ _) (fun b hb e2 => own_ne_blk ho hb1 he (by rw [hb]; exact e2))
 refine ⟨by simpa using blk_set hb1 3 v3', hge, by omega, ?_, fun b hb => ?_, ⟨rows ++ [v7], ?_, ?_, fun v hv b hb => ?_⟩, fun b hb => own_lt hown b hb, ?_, by omega⟩
 ·exact set_kept (ownsRow_other (h.own2.alloc o) (r1.alloc o) (by decide) hg) (by decide)
 ·have := h.lt2 b hb; omega
 ·rw [List.length_append]
  exact set_kept hown (by decide)
 ·have q1 : Rows w.heap.size (V.setCell ⟨gf, 3, none⟩ v3') rows Ls := r2.imp fun v L hv => set_kept (ownsRow_other (hv.alloc o) (r1.alloc o) (by decide) hg) (by decide)
  refine q1.append ⟨rfl, fun i L2 hL => ?_⟩
  cases i with
  | zero =>
   obtain rfl : L = L2 := by simpa using hL
   exact ⟨v7, rfl, set_kept (ownsRow_other ((ownsRow_mono h7 hHH).alloc o) (r1.alloc o) (by decide) hg) (by decide)⟩
  | succ i => simp at hL
 ·rcases List.mem_append.1 hv with h1 | h1
  ·have := r3 v h1 b hb; omega
  ·rw [List.mem_singleton.1 h1] at hb
   have := own_lt h7 b hb; omega
 ·exact below_set ((below_alloc h.below o).grown hg (by have := h.below.size; simp; omega) (fun j e => by
   rcases (r1.alloc o).2 with ⟨e1, _⟩ | ⟨g2, cap, cur, e1, hb2, _⟩
   ·rw [e1] at e; simp [Value.ownBlock] at e
   ·rw [e1] at e
    obtain rfl : g2 = j := by simpa [Value.ownBlock] using e
    exact hb2)) hge
def othTo (G : List Nat) (k x : Nat) : Nat → Nat → List Int
 | 0, _ => []
 | d + 1, y => if sidesB G k x y then (y : Int) :: othTo G k x d (y + 1) else othTo G k x d (y + 1)
def smTo (G : List Nat) (k : Nat) : Nat → Nat → List Bool
 | 0, _ => []
 | d + 1, x => decide (pc (bo G x) 9 ≤ k) :: smTo G k d (x + 1)
def otTo (G : List Nat) (k : Nat) : Nat → Nat → List (List Int)
 | 0, _ => []
 | d + 1, x => othTo G k x (2 ^ G.length) 0 :: otTo G k d (x + 1)
theorem othTo_len (G : List Nat) (k x : Nat) : ∀ d y, (othTo G k x d y).length ≤ d
 | 0, _ => Nat.le_refl _
 | d + 1, y => by
  have := othTo_len G k x d (y + 1)
  simp only [othTo]
  split <;> simp <;> omega
set_option maxHeartbeats 8000000 in
set_option maxRecDepth 100000 in
theorem family_calls (A0 : Option Addr) (c0 : Nat) (G : List Nat) (hG : Gr 7 G) (hc0 : G.length ≤ c0) (k : Nat) (hk : k ≤ 7) (w : World) (hGL : GL w) (hr0 : Kd.C (Kd.int .i64) w A0 (gi G).length (gi G)) :
  Calls Tryd.prog 60 #[.slice A0 G.length c0, .int .i64 (k : Int)] w fun e w' => ∃ gf H v2 v3, e = .returned (.pointer (some ⟨gf, 0, none⟩)) ∧ FamI w w' gf H A0 c0 G.length k v2 v3 (smTo G k (2 ^ G.length) 0) (otTo G k (2 ^ G.length) 0) := by
 have hn := hG.most
 have HP7 := Aside0.mk (p7 hn)
 have HG := Aside0.mk hG
 have HGL := Aside0.mk hGL
 have HR := Aside0.mk hr0
 have HC0 := Aside0.mk hc0
 have HL := Aside0.mk (gi_length G)
 obtain ⟨i4, hi4, hp0, hp1, hp2⟩ := info_parts info4
 obtain ⟨i3, hi3, hq0, hq1, hq2⟩ := info_parts info3
 obtain ⟨i22, hi22, hs0, hs1, hs2⟩ := info_parts info22
 obtain ⟨J, ⟨hS1, hS2, hS3⟩, hS4⟩ := shJ G.length (by omega)
 have HS1 := Aside0.mk hS1
 have HS2 := Aside0.mk hS2
 have HJ := Aside0.mk hS4
 clear hG hGL hr0 hc0 hS1 hS2 hS3 hS4
 obtain ⟨N, hN⟩ : ∃ N, 2 ^ G.length = N := ⟨_, rfl⟩
 have HN := Aside0.mk hN
 have hN7 : N ≤ 128 := by rw [← hN]; exact HP7.out
 rw [hN] at HJ
 rw [hN]
 obtain ⟨BS, hBS⟩ : ∃ b, smTo G k N 0 = b := ⟨_, rfl⟩
 obtain ⟨LS, hLS⟩ : ∃ b, otTo G k N 0 = b := ⟨_, rfl⟩
 rw [hBS, hLS]
 have HBS := Aside0.mk hBS
 have HLS := Aside0.mk hLS
 clear hBS hLS hN
 have hS1 := HS1.out
 have hS2 := HS2.out
 go_enter Tryd.func60, Tryd.ntmps60
 go_wp2
 rw [HS1.out]
 clear hS1 hS2
 have HRC : Aside0 (∀ W gf H v2 v3 bs Ls, FamI w W gf H A0 c0 G.length k v2 v3 bs Ls → ∀ x : Nat, x < 2 ^ G.length → Calls Tryd.prog 73 #[.slice A0 G.length c0, .int .i64 (x : Int)] W fun e w' => e = .returned (.int .i64 ((bo G x : Nat) : Int)) ∧ w'.cell? ⟨gf, 2, none⟩ = some v2 ∧ FamI w w' gf H A0 c0 G.length k v2 v3 bs Ls) := ⟨fun W gf H v2 v3 bs Ls h x hx => by
  have := sweep_town_border.calls A0 c0 (gi G) (x : Int) _ W (GL_below HGL.out h.below) (Kd.C_below HR.out h.below) (by rw [HL.out]; exact HC0.out) (bo_f HG.out hx)
  rw [HL.out] at this
  exact this.mono fun e w' ⟨h1, hb⟩ => ⟨h1, (blk_cell (h.low hb).blk 2).trans rfl, h.low hb⟩⟩
 have HCC : Aside0 (∀ W gf H v2 v3 bs Ls, FamI w W gf H A0 c0 G.length k v2 v3 bs Ls → ∀ b : Nat, b < 128 → Calls Tryd.prog 63 #[.int .i64 (b : Int)] W fun e w' => e = .returned (.int .i64 ((pc b 9 : Nat) : Int)) ∧ w'.cell? ⟨gf, 2, none⟩ = some v2 ∧ FamI w w' gf H A0 c0 G.length k v2 v3 bs Ls) := ⟨fun W gf H v2 v3 bs Ls h b hb => 
by
  have hq := count_eq b (Nat.lt_of_lt_of_le hb (by decide))
  refine (sweep_count.calls (b : Int) _ W hq).mono ?_
  rintro e w' ⟨h1, m, rfl⟩
  exact ⟨h1, (blk_cell h.blk 2).trans rfl, h.low (pw_below_drewN (Below.refl _ _) m)⟩⟩
 have start : FamI w (w.alloc (.cells #[.slice A0 G.length c0, .int .i64 (k : Int), .slice none 0 0, .slice none 0 0] 96)) w.heap.size (w.heap.size + 1) A0 c0 G.length k (.slice none 0 0) (.slice none 0 0) [] [] :=
  ⟨heap_alloc_new w _, Nat.le_refl _, by omega, World.ownsRow_nil _ _ _ _, (fun b hb => by simp [Value.ownBlock] at hb), ⟨[], World.ownsRow_nil _ _ _ _, ⟨rfl, fun i L h => by simp at h⟩, fun v hv => by simp at hv⟩, (fun b hb => by simp [Value.ownBlock] at hb), below_alloc (Below.refl _ _) _, by simp⟩
 have START := Aside0.mk start
 clear start
 go_loopg [16] N (fun kq v16 w' => ∃ (x H : Nat) (v2 v3 : Value) (bs : List Bool) (Ls : List (List Int)), v16 = .int .i64 (x : Int) ∧ x + kq = N ∧ Aside0 (bs.length = x ∧ Ls.length = x ∧ bs ++ smTo G k kq x = BS ∧ Ls ++ otTo G k kq x = LS) ∧ Aside0 (FamI w w' w.heap.size H A0 c0 G.length k v2 v3 bs Ls))
 case atStart => exact ⟨0, w.heap.size + 1, _, _, [], [], rfl, by omega, ⟨rfl, rfl, HBS.out, HLS.out⟩, START⟩
 case round =>
  clear START HBS HLS
  obtain ⟨x, H, v2, v3, bs, Ls, rfl, hx, HX, HF⟩ := hrel
  by_cases hxn : x < N
  ·have hj2 : decide ((x : Int) < J) = true := decide_eq_true (by have := HJ.out; omega)
   have hj1 : ((x : Int) < J) = True := eq_true (by have := HJ.out; omega)
   cases gk with
   | zero => omega
   | succ gx =>
   obtain ⟨hx1, hx2, hx3, hx4⟩ := HX.out
   simp only [smTo, otTo] at hx3 hx4
   have HX3 := Aside0.mk hx3
   have HX4 := Aside0.mk hx4
   have HX1 := Aside0.mk hx1
   have HX2 := Aside0.mk hx2
   have hb1 : bs.length ≤ x := by omega
   have hl1 : Ls.length ≤ x := by omega
   clear hx1 hx2
   have hxP : x < 2 ^ G.length := by rw [HN.out]; exact hxn
   have hbl : bo G x < 128 := Nat.lt_of_lt_of_le (bo_lt HG.out hxP) HP7.out
   have hcell : wr.drew.cell? ⟨w.heap.size, 2, none⟩ = some v2 := (blk_cell HF.out.blk 2).trans rfl
   have HFD : FamI w wr.drew w.heap.size H A0 c0 G.length k v2 v3 bs Ls := HF.out.low (below_drew (Below.refl _ _))
   clear hx3 hx4 HX HF
   go_wp2_with (fail)
   refine start_ (n := 16) (S := fun w' => w'.cell? ⟨w.heap.size, 2, none⟩ = some v2 ∧ FamI w w' w.heap.size H A0 c0 G.length k v2 v3 bs Ls) (ds := [12, 15]) (Qbz 16 0) (by kernel_rfl) rfl rfl ⟨hcell, HFD⟩ (fun hHeld => ?_)
   refine pure_ (i := 0) (N := some 19) (v := ?_) (a' := ?_) (Qbz 16 1) rfl rfl (by kernel_rfl) (fun _ _ _ h => h) (Or.inl ⟨by rfl, ?_⟩) ?_ ?_
   rotate_left
   ·intro w'
    go_simp
    with_reducible rfl
   rotate_left
   ·simp only [Act.put, Qp1, Qp2, Qp3, i64_w, i32_w]
    rfl
   refine pure_ (i := 1) (N := some 20) (v := ?_) (a' := ?_) (Qbz 16 3) rfl rfl (by kernel_rfl) (fun _ _ _ h => h) (Or.inl ⟨by rfl, ?_⟩) ?_ ?_
   rotate_left
   ·intro w'
    go_simp
    with_reducible rfl
   rotate_left
   ·simp only [Act.put, Qp1, Qp2, Qp3, i64_w, i32_w]
    rfl
   refine pure_ (i := 2) (N := some 21) (v := ?_) (a' := ?_) (Qbz 16 7) rfl rfl (by kernel_rfl) (fun _ _ _ h => h) (Or.inl ⟨by rfl, ?_⟩) ?_ ?_
   rotate_left
   ·intro w'
    go_simp
    with_reducible rfl
   rotate_left
   ·simp only [Act.put, Qp1, Qp2, Qp3, i64_w, i32_w]
    rfl
   refine pure_ (i := 3) (N := some 22) (v := ?_) (a' := ?_) (Qbz 16 15) rfl rfl (by kernel_rfl) (fun _ _ _ h => h) (Or.inl ⟨by rfl, ?_⟩) ?_ ?_
   rotate_left
   ·intro w'
    go_simp
    with_reducible rfl
   rotate_left
   ·simp only [Act.put, Qp1, Qp2, Qp3, i64_w, i32_w]
    rfl
   refine pure_ (i := 5) (N := some 24) (v := ?_) (a' := ?_) (Qbz 16 47) rfl rfl (by kernel_rfl) (fun _ _ _ h => h) (Or.inl ⟨by rfl, ?_⟩) ?_ ?_
   rotate_left
   ·intro w'
    go_simp
    with_reducible rfl
   rotate_left
   ·simp only [Act.put, Qp1, Qp2, Qp3, i64_w, i32_w]
    rfl
   refine pure_ (i := 6) (N := some 25) (v := ?_) (a' := ?_) (Qbz 16 111) rfl rfl (by kernel_rfl) (fun _ _ _ h => h) (Or.inl ⟨by rfl, ?_⟩) ?_ ?_
   rotate_left
   ·intro w'
    go_simp
    with_reducible rfl
   rotate_left
   ·simp only [Act.put, Qp1, Qp2, Qp3, i64_w, i32_w]
    rfl
   refine pure_ (i := 9) (N := some 28) (v := ?_) (a' := ?_) (Qbz 16 623) rfl rfl (by kernel_rfl) (fun _ _ _ h => h) (Or.inl ⟨by rfl, ?_⟩) ?_ ?_
   rotate_left
   ·intro w'
    go_simp
    with_reducible rfl
   rotate_left
   ·simp only [Act.put, Qp1, Qp2, Qp3, i64_w, i32_w]
    rfl
   refine take_ (i := 4) (N := some 23) (v := ?_) (a' := ?_) (Qbz 16 639) rfl rfl (by kernel_rfl) (fun _ _ _ h => h) (Or.inl ⟨by rfl, ?_⟩) hHeld ?_ ?_
   rotate_left
   ·rintro w' ⟨s0, s1⟩
    go_simp
    with_reducible rfl
   rotate_left
   ·simp only [Act.put, Qp1, Qp2, Qp3, i64_w, i32_w]
    rfl
   refine one_ (i := 7) (N := some 26) (Qbz 16 767) rfl rfl (by kernel_rfl) (by decide) (fun K hK => ?_)
   refine goes_ Tryd.func73 (by kernel_rfl) rfl #[.slice A0 G.length c0, .int .i64 (x : Int)] (by rfl) rfl rfl (by simp only [List.map_toArray, List.map_cons, List.map_nil]; rfl) ?_
   with_reducible refine (HRC.out _ _ _ _ _ _ _ hHeld.2 x hxP).mono ?_
   rintro e w3 ⟨rfl, hc', hf'⟩
   refine ⟨_, rfl, ?_⟩
   refine hK.out _ _ ⟨hc', hf'⟩ (fun hHeld => ?_)
   clear hK K
   refine norm_ (a' := ?_) ?_ ?_
   rotate_left
   ·show Act.put _ (some 26) _ = _
    simp only [Act.put, Qp1, Qp2, Qp3, i64_w, i32_w]
    rfl
   refine one_ (i := 8) (N := some 27) (Qbz 16 1023) rfl rfl (by kernel_rfl) (by decide) (fun K hK => ?_)
   refine goes_ Tryd.func63 (by kernel_rfl) rfl #[.int .i64 ((bo G x : Nat) : Int)] (by rfl) rfl rfl (by simp only [List.map_toArray, List.map_cons, List.map_nil]; rfl) ?_
   with_reducible refine (HCC.out _ _ _ _ _ _ _ hHeld.2 _ hbl).mono ?_
   rintro e w4 ⟨rfl, hc', hf'⟩
   refine ⟨_, rfl, ?_⟩
   refine hK.out _ _ ⟨hc', hf'⟩ (fun hHeld => ?_)
   clear hK K
   refine norm_ (a' := ?_) ?_ ?_
   rotate_left
   ·show Act.put _ (some 27) _ = _
    simp only [Act.put, Qp1, Qp2, Qp3, i64_w, i32_w]
    rfl
   refine pure_ (i := 10) (N := some 29) (v := ?_) (a' := ?_) (Qbz 16 2047) rfl rfl (by kernel_rfl) (fun _ _ _ h => h) (Or.inl ⟨by rfl, ?_⟩) ?_ ?_
   rotate_left
   ·intro w'
    go_simp
    with_reducible rfl
   rotate_left
   ·simp only [Act.put, Qp1, Qp2, Qp3, i64_w, i32_w]
    rfl
   refine one_ (i := 11) (N := some 30) (Qbz 16 4095) rfl rfl (by kernel_rfl) (by decide) (fun K hK => ?_)
   refine value_ (w1 := ?_) (v := ?_) (by rfl) rfl ?_ ?_
   rotate_left 2
   ·go_simp
    constructor
    ·rfl
    ·rfl
   refine hK.out _ _ ⟨(blk_cell (hHeld.2.kept (World.grownBy_alloc _ _ none) (fun r e => by cases e)).blk 2).trans rfl, hHeld.2.kept (World.grownBy_alloc _ _ none) (fun r e => by cases e)⟩ (fun hHeld => ?_)
   clear hK K
   refine norm_ (a' := ?_) ?_ ?_
   rotate_left
   ·show Act.put _ (some 30) _ = _
    simp only [Act.put, Qp1, Qp2, Qp3, i64_w, i32_w]
    rfl
   refine last_ (i := 12) (N := some 31) (Qbz 16 8191) rfl rfl (by kernel_rfl) (by decide) (fun K hK => ?_)
   refine step_append_lies _ (by rfl) _ _ 93 (by rfl) w.heap.size 4 i4 (.bool false) 1 1 Tryd.underlying93 hi4 hp0 hp1 hp2 rfl (by decide) v2 bs.length (bs.map Value.bool) rfl hHeld.2.own2 ⟨w4.heap.size, 0, none⟩ 1 1 [.bool (decide (pc (bo G x) 9 ≤ k))] rfl rfl (by intro j u hu; exact cell_one_new _ _ _ j u hu) (by simp [Value.oneCell']) (by omega) (by unfold maxLen; omega) (by omega) (by have := hHeld.2.below.size; simpa using this) (w4.heap.size + 1) (by simp) ?_
   intro g2 cap2 w5 hown5 hgrow5 hat5 hlt5
   have hb5 := blk_grown hHeld.2.blk hgrow5 (fun e => own_ne_blk hHeld.2.own2 hHeld.2.blk (by decide) e.symm)
   have hc5 : w5.cell? ⟨w.heap.size, 2, none⟩ = some v2 := (blk_cell hb5 2).trans rfl
   have hfr5 := blk_frozen hb5 2
   refine hK.out _ _ ?_
   clear hK K
   refine norm_ (a' := ?_) ?_ ?_
   rotate_left
   ·show Act.put _ (some 31) _ = _
    simp only [Act.put, Qp1, Qp2, Qp3, i64_w, i32_w]
    rfl
   refine pure_ (i := 13) (N := some 32) (v := ?_) (a' := ?_) (Qbz 16 16383) rfl rfl (by kernel_rfl) (fun _ _ _ h => h) (Or.inl ⟨by rfl, ?_⟩) ?_ ?_
   rotate_left
   ·intro w'
    go_simp
    with_reducible rfl
   rotate_left
   ·simp only [Act.put, Qp1, Qp2, Qp3, i64_w, i32_w]
    rfl
   refine pure_ (i := 14) (N := some 33) (v := ?_) (a' := ?_) (Qbz 16 32767) rfl rfl (by kernel_rfl) (fun _ _ _ h => h) (Or.inl ⟨by rfl, ?_⟩) ?_ ?_
   rotate_left
   ·intro w'
    go_simp
    with_reducible rfl
   rotate_left
   ·simp only [Act.put, Qp1, Qp2, Qp3, i64_w, i32_w]
    rfl
   refine last_ (i := 15) (N := none) (Qbz 16 65535) rfl rfl (by kernel_rfl) (by decide) (fun K hK => ?_)
   refine skip_ (w1 := ?_) (by rfl) rfl ?_ ?_
   rotate_left
   ·go_simp
    rfl
   refine hK.out _ _ ?_
   clear hK K
   refine done_ (by kernel_rfl) ?_
   have hF6 : FamI w (w5.setCell ⟨w.heap.size, 2, none⟩ (.slice (some ⟨g2, 0, none⟩) (bs.length + 1) cap2)) w.heap.size w5.heap.size A0 c0 G.length k (.slice (some ⟨g2, 0, none⟩) (bs.length + 1) cap2) v3 (bs ++ [decide (pc (bo G x) 9 ≤ k)]) Ls := FamI.small hf' hgrow5 hown5
   have hz6 : (w5.setCell ⟨w.heap.size, 2, none⟩ (.slice (some ⟨g2, 0, none⟩) (bs.length + 1) cap2)).heap.size = w5.heap.size := World.size_setCell _ _ _
   rw [← hz6] at hF6
   clear hz6
   generalize w5.setCell ⟨w.heap.size, 2, none⟩ (.slice (some ⟨g2, 0, none⟩) (bs.length + 1) cap2) = w6 at *
   have HF6 := Aside0.mk hF6
   clear hf' hc' hgrow5 hown5 hb5 hc5 hfr5 hat5 hlt5 hF6
   have hS1 := HS1.out
   have hS2 := HS2.out
   go_wp2
   rw [HS1.out]
   clear hS1 hS2
   obtain ⟨LX, hLX⟩ : ∃ L, othTo G k x N 0 = L := ⟨_, rfl⟩
   have HLX := Aside0.mk hLX
   rw [HN.out, hLX] at HX4
   clear hLX
   obtain ⟨HH, hHH⟩ : ∃ H, w6.heap.size = H := ⟨_, rfl⟩
   rw [hHH] at HF6
   have hwH : w.heap.size ≤ HH := by rw [← hHH]; exact HF6.out.below.size
   clear hHH
   go_loopg [7, 37] N (fun kq v7 v37 w' => ∃ (y : Nat) (ys : List Int), v37 = .int .i64 (y : Int) ∧ y + kq = N ∧ Aside0 (ys ++ othTo G k x kq y = LX ∧ ys.length ≤ y) ∧ Aside0 (FamI w w' w.heap.size HH A0 c0 G.length k (.slice (some ⟨g2, 0, none⟩) (bs.length + 1) cap2) v3 (bs ++ [decide (pc (bo G x) 9 ≤ k)]) Ls) ∧ Aside0 (w'.ownsRow HH 3 1 v7 ys.length (ys.map (Value.int .i64))))
   case atStart => exact ⟨0, [], rfl, by omega, ⟨HLX.out, Nat.le_refl _⟩, HF6, ⟨World.ownsRow_nil _ _ _ _⟩⟩
   case round =>
    clear HLX HF6
    obtain ⟨y, ys, rfl, hy, HY, HFY, HO⟩ := hrel
    have hyl := HY.out.2
    by_cases hyn : y < N
    ·have hk2 : decide ((y : Int) < J) = true := decide_eq_true (by have := HJ.out; omega)
     have hk1 : ((y : Int) < J) = True := eq_true (by have := HJ.out; omega)
     cases gk with
     | zero => omega
     | succ gy =>
     have hy1 := HY.out.1
     simp only [othTo] at hy1
     obtain ⟨R, hR⟩ : ∃ R, sidesB G k x y = R := ⟨_, rfl⟩
     rw [hR] at hy1
     have HY1 := Aside0.mk hy1
     have hyP : y < 2 ^ G.length := by rw [HN.out]; exact hyn
     have HSD := Aside0.mk (sides_calls A0 c0 G HG.out HC0.out w.heap.size k x y wr (GL_below HGL.out HFY.out.below) (Kd.C_below HR.out HFY.out.below) ((blk_cell HFY.out.blk 0).trans rfl) ((blk_cell HFY.out.blk 1).trans rfl) hxP hyP R hR)
     clear hR hy1 hyP HY
     cases R
     ·go_wp2_with (go_at_call 74; refine HSD.out.mono ?_; rintro e w7 ⟨rfl, hb7⟩)
      go_roundg gy
      case measure => omega
      case rel => exact ⟨y + 1, ys, by go_num, by omega, ⟨by simpa using HY1.out, by omega⟩, ⟨HFY.out.low hb7⟩, ⟨ownsRow_below HO.out hb7⟩⟩
     ·go_wp2_with (first
       | (go_at_call 74; refine HSD.out.mono ?_; rintro e w7 ⟨rfl, hb7⟩; have hF7 := Aside0.mk (HFY.out.low hb7); have hO7 := Aside0.mk (ownsRow_below HO.out hb7); clear hb7)
       | (at_builtin; refine wpList_append_own_at _ rfl _ _ 22 rfl HH 3 i3 (.int .i64 0) 1 8 Tryd.underlying22 hi3 hq0 hq1 hq2 rfl (by decide) u7 ys.length (ys.map (Value.int .i64)) rfl (hO7.out.alloc _) ⟨w7.heap.size, 0, none⟩ 1 1 [.int .i64 (y : Int)] rfl rfl (cell_one_new _ _ _) (by simp [Value.oneCell']) (by unfold maxLen; omega) (by omega) (by have := hF7.out.top; simp; omega) ?_; intro v8 w8 hown8 hg8 _ _))
      go_roundg gy
      case measure => omega
      case rel =>
       refine ⟨y + 1, ys ++ [(y : Int)], by go_num, by omega, ⟨by simpa using HY1.out, by simp; omega⟩, ⟨(hF7.out.kept (World.grownBy_alloc _ _ none) (fun r e => by cases e)).kept hg8 (fun r e => own_base hO7.out r e)⟩, ⟨?_⟩⟩
       rw [List.length_append, List.map_append]
       exact hown8
    ·have hk2 : decide ((y : Int) < J) = false := decide_eq_false (by have := HJ.out; omega)
     have hk1 : ((y : Int) < J) = False := eq_false (by have := HJ.out; omega)
     obtain rfl : gk = 0 := by omega
     have hy1 := HY.out.1
     simp only [othTo, List.append_nil] at hy1
     obtain rfl : ys = LX := hy1
     obtain ⟨rows, r1, r2, r3⟩ := HFY.out.own3
     have R1 := Aside0.mk r1
     have R2 := Aside0.mk r2
     have R3 := Aside0.mk r3
     have hc3 : wr.cell? ⟨w.heap.size, 3, none⟩ = some v3 := (blk_cell HFY.out.blk 3).trans rfl
     obtain ⟨A7, cp7, rfl⟩ := ownsRow_form HO.out
     have hm9 : Ls.length + 1 ≤ maxLen := by unfold maxLen; omega
     have hn9 : (Ls.length + 1) * 24 ≤ 140737488355328 := by omega
     have ho9 : w.heap.size ≤ (wr.alloc (.cells #[.slice A7 ys.length cp7] 22)).heap.size := by have := HFY.out.below.size; simp; omega
     have HM9 := Aside0.mk hm9
     have HN9 := Aside0.mk hn9
     have HO9 := Aside0.mk ho9
     clear hm9 hn9 ho9
     clear HY r1 r2 r3 hxP hbl
     go_wp2_with (at_builtin; (refine wpList_append_own_at _ rfl _ _ 88 rfl w.heap.size 22 i22 (.slice none 0 0) 1 24 Tryd.underlying88 hi22 hs0 hs1 hs2 rfl (by decide) v3 Ls.length rows rfl (R1.out.alloc (.cells #[.slice A7 ys.length cp7] 22)) ⟨wr.heap.size, 0, none⟩ 1 1 [.slice A7 ys.length cp7] rfl rfl (cell_one_new _ _ _) (by simp [Value.oneCell']) HM9.out HN9.out HO9.out ?_; intro v9 w9 hown9 hg9 _ _; obtain ⟨g9, cap9, rfl⟩ := ownsRow_succ hown9; have hb9 := blk_grown (blk_alloc HFY.out.blk (.cells #[.slice A7 ys.length cp7] 22)) hg9 (fun e => own_ne_blk (R1.out.alloc (.cells #[.slice A7 ys.length cp7] 22)) (blk_alloc HFY.out.blk (.cells #[.slice A7 ys.length cp7] 22)) (by decide) e.symm); have hc9 : w9.cell? ⟨w.heap.size, 3, none⟩ = some v3 := (blk_cell hb9 3).trans rfl; have hf9 := blk_frozen hb9 3))
     have hF9 := FamI.other HFY.out hwH HO.out R1.out R2.out R3.out hg9 hown9
     go_roundg gx
     case measure => omega
     case rel => exact ⟨x + 1, _, _, _, _, _, by go_num, by omega, ⟨by have := HX1.out; simp; omega, by have := HX2.out; simp; omega, by simpa using HX3.out, by simpa using HX4.out⟩, ⟨hF9⟩⟩
  ·have hj2 : decide ((x : Int) < J) = false := decide_eq_false (by have := HJ.out; omega)
   have hj1 : ((x : Int) < J) = False := eq_false (by have := HJ.out; omega)
   obtain rfl : gk = 0 := by omega
   obtain ⟨hx1, hx2, hx3, hx4⟩ := HX.out
   simp only [smTo, otTo, List.append_nil] at hx3 hx4
   subst hx3 hx4
   clear HX hx1 hx2
   go_wp2
   go_ret
   exact ⟨_, _, _, _, rfl, HF.out⟩
end Go.Proofs.YtijfddobandcdaaDoor.X
end
section
namespace Go.Proofs.YtijfddobandcdaaDoor.X
open Go.RowKit YtijfddobandcdaaDoorW.PrintWords YtijfddobandcdaaDoorW.PrintLast YtijfddobandcdaaDoorW.PrintMore
attribute [local go_sem] max2_int min2_int max_two min_two max_three min_three max_four min_four
def IsS96 (w0 W : World) (g : Nat) (f0 : List Int) (f1 : Int) (f2 : List Bool) (f3 : List (List Int)) : Prop := ∃ A0 c0, ∃ A2 c2, ∃ A3 c3, W.heap[g]? = some (.cells #[.slice A0 f0.length c0, .int .i64 f1, .slice A2 f2.length c2, .slice A3 f3.length c3] 96 (0, 0)) ∧ True ∧ Kd.C (Kd.int .i64) w0 A0 f0.length f0 ∧ Kd.C Kd.bool w0 A2 f2.length f2 ∧ Kd.C (Kd.slice 3 (Kd.int .i64)) w0 A3 f3.length f3
theorem IsS96.grown {w0 W : World} {g : Nat} {f0 : List Int} {f1 : Int} {f2 : List Bool} {f3 : List (List Int)} {W1 : World} {row : Option Nat} (h : IsS96 w0 W g f0 f1 f2 f3) (hw : W.grownBy W1 row) (hne : some g ≠ row) : IsS96 w0 W1 g f0 f1 f2 f3 := by
 obtain ⟨A0, c0, A2, c2, A3, c3, hb, hg, hr0, hr2, hr3⟩ := h
 exact ⟨A0, c0, A2, c2, A3, c3, blk_grown hb hw hne, hg, hr0, hr2, hr3⟩
theorem IsS96.kept {w0 W : World} {g : Nat} {f0 : List Int} {f1 : Int} {f2 : List Bool} {f3 : List (List Int)} {W1 : World} {S : Nat → Prop} (h : IsS96 w0 W g f0 f1 f2 f3) (hk : Kept W W1 S) (hne : ¬ S g) : IsS96 w0 W1 g f0 f1 f2 f3 := by
 obtain ⟨A0, c0, A2, c2, A3, c3, hb, hg, hr0, hr2, hr3⟩ := h
 exact ⟨A0, c0, A2, c2, A3, c3, blk_kept hb hk hne, hg, hr0, hr2, hr3⟩
theorem IsS96.below {w0 W : World} {g : Nat} {f0 : List Int} {f1 : Int} {f2 : List Bool} {f3 : List (List Int)} {W1 : World} (h : IsS96 w0 W g f0 f1 f2 f3) (hw : Below W.heap.size W W1) : IsS96 w0 W1 g f0 f1 f2 f3 := h.grown (grown_of_below hw none) (by simp)
theorem IsS96.alloc {w0 W : World} {g : Nat} {f0 : List Int} {f1 : Int} {f2 : List Bool} {f3 : List (List Int)} (h : IsS96 w0 W g f0 f1 f2 f3) (o : Obj) : IsS96 w0 (W.alloc o) g f0 f1 f2 f3 := h.below (below_alloc (Below.refl _ _) o)
theorem IsS96.drewN {w0 W : World} {g : Nat} {f0 : List Int} {f1 : Int} {f2 : List Bool} {f3 : List (List Int)} (h : IsS96 w0 W g f0 f1 f2 f3) (m : Nat) : IsS96 w0 (W.drewN m) g f0 f1 f2 f3 := h
theorem IsS96.drew {w0 W : World} {g : Nat} {f0 : List Int} {f1 : Int} {f2 : List Bool} {f3 : List (List Int)} (h : IsS96 w0 W g f0 f1 f2 f3) : IsS96 w0 W.drew g f0 f1 f2 f3 := h
theorem IsS96.apart {w0 W : World} {g : Nat} {f0 : List Int} {f1 : Int} {f2 : List Bool} {f3 : List (List Int)} {α : Type} {d : Kd α} {e : Nat} {base : Nat} {ok : Nat → Prop} {v : Value} {xs : List α} (h : IsS96 w0 W g f0 f1 f2 f3) (ho : d.R e W base ok v xs) (ht : ∀ q, q ∈ e :: d.E → q ≠ 96) : d.R e W base (fun k => ok k ∧ k ≠ g) v xs := by
 obtain ⟨A0, c0, A2, c2, A3, c3, hb, hg, hr0, hr2, hr3⟩ := h
 exact Kd.R_types ho hb ht
theorem IsS96.own_ne {w0 W : World} {g : Nat} {f0 : List Int} {f1 : Int} {f2 : List Bool} {f3 : List (List Int)} {α : Type} {d : Kd α} {e : Nat} {base : Nat} {ok : Nat → Prop} {v : Value} {xs : List α} (h : IsS96 w0 W g f0 f1 f2 f3) (ho : d.R e W base ok v xs) (ht : e ≠ 96) : some g ≠ v.ownBlock := by
 obtain ⟨A0, c0, A2, c2, A3, c3, hb, hg, hr0, hr2, hr3⟩ := h
 exact Kd.R_ne ho hb ht
theorem IsS96.lt {w0 W : World} {g : Nat} {f0 : List Int} {f1 : Int} {f2 : List Bool} {f3 : List (List Int)} (h : IsS96 w0 W g f0 f1 f2 f3) : g < W.heap.size := by
 obtain ⟨A0, c0, A2, c2, A3, c3, hb, hg, hr0, hr2, hr3⟩ := h
 exact blk_lt hb
theorem cellS96_0 {W : World} {g : Nat} {A0 : Option Addr} {c0 : Nat} {A2 : Option Addr} {c2 : Nat} {A3 : Option Addr} {c3 : Nat} {f0 : List Int} {f1 : Int} {f2 : List Bool} {f3 : List (List Int)} (h : W.heap[g]? = some (.cells #[.slice A0 f0.length c0, .int .i64 f1, .slice A2 f2.length c2, .slice A3 f3.length c3] 96 (0, 0))) : W.cell? ⟨g, 0, none⟩ = some (.slice A0 f0.length c0) := (blk_cell h 0).trans rfl
theorem cellS96_1 {W : World} {g : Nat} {A0 : Option Addr} {c0 : Nat} {A2 : Option Addr} {c2 : Nat} {A3 : Option Addr} {c3 : Nat} {f0 : List Int} {f1 : Int} {f2 : List Bool} {f3 : List (List Int)} (h : W.heap[g]? = some (.cells #[.slice A0 f0.length c0, .int .i64 f1, .slice A2 f2.length c2, .slice A3 f3.length c3] 96 (0, 0))) : W.cell? ⟨g, 1, none⟩ = some (.int .i64 f1) := (blk_cell h 1).trans rfl
theorem IsS96.set_1 {w0 W : World} {g : Nat} {f0 : List Int} {f1 : Int} {f2 : List Bool} {f3 : List (List Int)} (h : IsS96 w0 W g f0 f1 f2 f3) (x : Int) : IsS96 w0 (W.setCell ⟨g, 1, none⟩ (.int .i64 x)) g f0 x f2 f3 := by
 obtain ⟨A0, c0, A2, c2, A3, c3, hb, hg, hr0, hr2, hr3⟩ := h
 exact ⟨A0, c0, A2, c2, A3, c3, by simpa using blk_set hb 1 (.int .i64 x), hg, hr0, hr2, hr3⟩
theorem cellS96_2 {W : World} {g : Nat} {A0 : Option Addr} {c0 : Nat} {A2 : Option Addr} {c2 : Nat} {A3 : Option Addr} {c3 : Nat} {f0 : List Int} {f1 : Int} {f2 : List Bool} {f3 : List (List Int)} (h : W.heap[g]? = some (.cells #[.slice A0 f0.length c0, .int .i64 f1, .slice A2 f2.length c2, .slice A3 f3.length c3] 96 (0, 0))) : W.cell? ⟨g, 2, none⟩ = some (.slice A2 f2.length c2) := (blk_cell h 2).trans rfl
theorem cellS96_3 {W : World} {g : Nat} {A0 : Option Addr} {c0 : Nat} {A2 : Option Addr} {c2 : Nat} {A3 : Option Addr} {c3 : Nat} {f0 : List Int} {f1 : Int} {f2 : List Bool} {f3 : List (List Int)} (h : W.heap[g]? = some (.cells #[.slice A0 f0.length c0, .int .i64 f1, .slice A2 f2.length c2, .slice A3 f3.length c3] 96 (0, 0))) : W.cell? ⟨g, 3, none⟩ = some (.slice A3 f3.length c3) := (blk_cell h 3).trans rfl
theorem IsS96.new (w0 W : World) (A0 : Option Addr) (c0 : Nat) (A2 : Option Addr) (c2 : Nat) (A3 : Option Addr) (c3 : Nat) (f0 : List Int) (f1 : Int) (f2 : List Bool) (f3 : List (List Int)) (hB : Below w0.heap.size w0 W) (hr0 : Kd.C (Kd.int .i64) w0 A0 f0.length f0) (hr2 : Kd.C Kd.bool w0 A2 f2.length f2) (hr3 : Kd.C (Kd.slice 3 (Kd.int .i64)) w0 A3 f3.length f3) : IsS96 w0 (W.alloc (.cells #[.slice A0 f0.length c0, .int .i64 f1, .slice A2 f2.length c2, .slice A3 f3.length c3] 96)) W.heap.size f0 f1 f2 f3 := ⟨A0, c0, A2, c2, A3, c3, by simpa using heap_alloc_new W _, trivial, hr0, hr2, hr3⟩
/-! ### sweep_family_decide: function 82 -/
mutual
def sweep_family_decide.l0 : Nat → List Int → Int → Int → List Bool → Int → Int → List Int → Int → List Bool → List (List Int) → Option (Bool × Int × List Int)
 | 0, _, _, _, _, _, _, _, _, _, _ => none
 | k + 1, x1, x2, x3, x32, x33, x34, x1000, x1001, x1002, x1003 => if x34 < x33 then (if 0 ≤ x34 then (if x34 < (x32.length : Int) then (if x3 = 1 then (if (Go.bits .andNot .i64 x34 x2) = 0 then (if rdOf false x32 x34 = true then ((sweep_family_decide.f k x1000 x1001 x1002 x1003 x1 x34 x3).bind fun bt432 => (if bt432.1 = true then (sweep_family_decide.l0 k bt432.2.2 x2 x3 x32 x33 (wrap64 (x34 + 1)) x1000 bt432.2.1 x1002 x1003) else (some (false, bt432.2.1, bt432.2.2)))) else (sweep_family_decide.l0 k x1 x2 x3 x32 x33 (wrap64 (x34 + 1)) x1000 x1001 x1002 x1003)) else (if x3 = 2 then (if rdOf false x32 x34 = true then (if (Go.bits .andNot .i64 x2 x34) = 0 then ((sweep_family_decide.f k x1000 x1001 x1002 x1003 x1 x34 x3).bind fun bt435 => (if bt435.1 = true then (sweep_family_decide.l0 k bt435.2.2 x2 x3 x32 x33 (wrap64 (x34 + 1)) x1000 bt435.2.1 x1002 x1003) else (some (false, bt435.2.1, bt435.2.2)))) else (sweep_family_decide.l0 k x1 x2 x3 x32 x33 (wrap64 (x34 + 1)) x1000 x1001 x1002 x1003)) else (sweep_family_decide.l0 k x1 x2 x3 x32 x33 (wrap64 (x34 + 1)) x1000 x1001 x1002 x1003)) else (if rdOf false x32 x34 = true then (sweep_family_decide.l0 k x1 x2 x3 x32 x33 (wrap64 (x34 + 1)) x1000 x1001 x1002 x1003) else (sweep_family_decide.l0 k x1 x2 x3 x32 x33 (wrap64 (x34 + 1)) x1000 x1001 x1002 x1003)))) else (if x3 = 2 then (if rdOf false x32 x34 = true then (if (Go.bits .andNot .i64 x2 x34) = 0 then ((sweep_family_decide.f k x1000 x1001 x1002 x1003 x1 x34 x3).bind fun bt438 => (if bt438.1 = true then (sweep_family_decide.l0 k bt438.2.2 x2 x3 x32 x33 (wrap64 (x34 + 1)) x1000 bt438.2.1 x1002 x1003) else (some (false, bt438.2.1, bt438.2.2)))) else (sweep_family_decide.l0 k x1 x2 x3 x32 x33 (wrap64 (x34 + 1)) x1000 x1001 x1002 x1003)) else (sweep_family_decide.l0 k x1 x2 x3 x32 x33 (wrap64 (x34 + 1)) x1000 x1001 x1002 x1003)) else (if rdOf false x32 x34 = true then (sweep_family_decide.l0 k x1 x2 x3 x32 x33 (wrap64 (x34 + 1)) x1000 x1001 x1002 x1003) else (sweep_family_decide.l0 k x1 x2 x3 x32 x33 (wrap64 (x34 + 1)) x1000 x1001 x1002 x1003)))) else (none)) else (none)) else (if 0 ≤ x2 then (if x2 < (x1003.length : Int) then (sweep_family_decide.l1 k x1 x3 (rd_L4 x1003 x2) ((rd_L4 x1003 x2).length : Int) 0 x1000 x1001 x1002 x1003) else (none)) else (none))
def sweep_family_decide.l1 : Nat → List Int → Int → List Int → Int → Int → List Int → Int → List Bool → List (List Int) → Option (Bool × Int × List Int)
 | 0, _, _, _, _, _, _, _, _, _ => none
 | k + 1, x1, x3, x76, x77, x78, x1000, x1001, x1002, x1003 => if x78 < x77 then (if 0 ≤ x78 then (if x78 < (x76.length : Int) then ((sweep_family_decide.f k x1000 x1001 x1002 x1003 x1 (rd x76 x78) (IntKind.i8.wrap (3 - x3))).bind fun bt443 => (if bt443.1 = true then (sweep_family_decide.l1 k bt443.2.2 x3 x76 x77 (wrap64 (x78 + 1)) x1000 bt443.2.1 x1002 x1003) else (some (false, bt443.2.1, bt443.2.2)))) else (none)) else (none)) else (some (true, x1001, x1))
def sweep_family_decide.f : Nat → List Int → Int → List Bool → List (List Int) → List Int → Int → Int → Option (Bool × Int × List Int)
 | 0, _, _, _, _, _, _, _ => none
 | k + 1, s0_0, s0_1, s0_2, s0_3, l1, a2, a3 => if 0 ≤ a2 then (if a2 < (l1.length : Int) then (if (rd l1 a2) = 0 then (sweep_family_decide.l0 k (l1.set (a2 : Int).toNat a3) a2 a3 s0_2 (s0_2.length : Int) 0 s0_0 s0_1 s0_2 s0_3) else (some (((rd l1 a2) == a3), s0_1, l1))) else (none)) else (none)
end
theorem sweep_family_decide.mono_l : ∀ k, (∀ y0 y1 y2 y3 y4 y5 y6, LeO (sweep_family_decide.f k y0 y1 y2 y3 y4 y5 y6) (sweep_family_decide.f (k + 1) y0 y1 y2 y3 y4 y5 y6)) ∧ (∀ y0 y1 y2 y3 y4 y5 y6 y7 y8 y9, LeO (sweep_family_decide.l0 k y0 y1 y2 y3 y4 y5 y6 y7 y8 y9) (sweep_family_decide.l0 (k + 1) y0 y1 y2 y3 y4 y5 y6 y7 y8 y9)) ∧ (∀ y0 y1 y2 y3 y4 y5 y6 y7 y8, LeO (sweep_family_decide.l1 k y0 y1 y2 y3 y4 y5 y6 y7 y8) (sweep_family_decide.l1 (k + 1) y0 y1 y2 y3 y4 y5 y6 y7 y8))
 | 0 => ⟨fun _ _ _ _ _ _ _ r h => by simp [sweep_family_decide.f] at h, fun _ _ _ _ _ _ _ _ _ _ r h => by simp [sweep_family_decide.l0] at h, fun _ _ _ _ _ _ _ _ _ r h => by simp [sweep_family_decide.l1] at h⟩
 | k + 1 => by
  obtain ⟨ih0, ih1, ih2⟩ := sweep_family_decide.mono_l k
  refine ⟨?_, ?_, ?_⟩
  ·intro y0 y1 y2 y3 y4 y5 y6
   unfold sweep_family_decide.f
   repeat' first
   | (with_reducible exact ih0 _ _ _ _ _ _ _)
   | (with_reducible exact ih1 _ _ _ _ _ _ _ _ _ _)
   | (with_reducible exact ih2 _ _ _ _ _ _ _ _ _)
   | (with_reducible exact LeO.refl _)
   | (with_reducible exact LeO.none _)
   | (with_reducible refine LeO.ite ?_ ?_)
   | (with_reducible refine LeO.bind ?_ (fun _ => ?_))
   | exact ih0 _ _ _ _ _ _ _
   | exact ih1 _ _ _ _ _ _ _ _ _ _
   | exact ih2 _ _ _ _ _ _ _ _ _
   | exact LeO.none _
   | refine LeO.ite ?_ ?_
   | refine LeO.bind ?_ (fun _ => ?_)
  ·intro y0 y1 y2 y3 y4 y5 y6 y7 y8 y9
   unfold sweep_family_decide.l0
   repeat' first
   | (with_reducible exact ih0 _ _ _ _ _ _ _)
   | (with_reducible exact ih1 _ _ _ _ _ _ _ _ _ _)
   | (with_reducible exact ih2 _ _ _ _ _ _ _ _ _)
   | (with_reducible exact LeO.refl _)
   | (with_reducible exact LeO.none _)
   | (with_reducible refine LeO.ite ?_ ?_)
   | (with_reducible refine LeO.bind ?_ (fun _ => ?_))
   | exact ih0 _ _ _ _ _ _ _
   | exact ih1 _ _ _ _ _ _ _ _ _ _
   | exact ih2 _ _ _ _ _ _ _ _ _
   | exact LeO.none _
   | refine LeO.ite ?_ ?_
   | refine LeO.bind ?_ (fun _ => ?_)
  ·intro y0 y1 y2 y3 y4 y5 y6 y7 y8
   unfold sweep_family_decide.l1
   repeat' first
   | (with_reducible exact ih0 _ _ _ _ _ _ _)
   | (with_reducible exact ih1 _ _ _ _ _ _ _ _ _ _)
   | (with_reducible exact ih2 _ _ _ _ _ _ _ _ _)
   | (with_reducible exact LeO.refl _)
   | (with_reducible exact LeO.none _)
   | (with_reducible refine LeO.ite ?_ ?_)
   | (with_reducible refine LeO.bind ?_ (fun _ => ?_))
   | exact ih0 _ _ _ _ _ _ _
   | exact ih1 _ _ _ _ _ _ _ _ _ _
   | exact ih2 _ _ _ _ _ _ _ _ _
   | exact LeO.none _
   | refine LeO.ite ?_ ?_
   | refine LeO.bind ?_ (fun _ => ?_)
theorem sweep_family_decide.mono : ∀ a0 a1 a2 a3 a4 a5 a6 k, LeO (sweep_family_decide.f k a0 a1 a2 a3 a4 a5 a6) (sweep_family_decide.f (k + 1) a0 a1 a2 a3 a4 a5 a6) := by
 intro a0 a1 a2 a3 a4 a5 a6 k
 obtain ⟨ih0, ih1, ih2⟩ := sweep_family_decide.mono_l k
 exact ih0 a0 a1 a2 a3 a4 a5 a6
set_option maxHeartbeats 8000000 in
set_option maxRecDepth 100000 in
theorem sweep_family_decide.calls (k : Nat) : ∀ (g : Nat) (s0_0 : List Int) (s0_1 : Int) (s0_2 : List Bool) (s0_3 : List (List Int)) (P1_ : Nat → Prop) (u9000_ : Value) (l1 : List Int) (a2 : Int) (a3 : Int) (r1 : Bool) (r2 : Int) (r3 : List Int) (w0 w : World) (hI : IsS96 w0 w g s0_0 s0_1 s0_2 s0_3) (hB : Below w0.heap.size w0 w) (ho1 : Kd.R (Kd.int .i8) 107 w w0.heap.size P1_ u9000_ l1) (h : sweep_family_decide.f k s0_0 s0_1 s0_2 s0_3 l1 a2 a3 = some (r1, r2, r3)),
  Calls Tryd.prog 82 #[.pointer (some ⟨g, 0, none⟩), u9000_, .int .i64 a2, .int .i8 a3] w fun e w' => e = .returned (.bool r1) ∧ IsS96 w0 w' g s0_0 r2 s0_2 s0_3 ∧ Kd.R (Kd.int .i8) 107 w' w0.heap.size (fun k_ => (P1_ k_ ∨ w.heap.size ≤ k_)) u9000_ r3 ∧ Below w0.heap.size w0 w' ∧ Kept w w' (fun k_ => (P1_ k_) ∨ k_ = g) := by
 induction k using Nat.strongRecOn with
 | _ k ih =>
 intro g s0_0 s0_1 s0_2 s0_3 P1_ u9000_ l1 a2 a3 r1 r2 r3 w0 w hI hB ho1 h
 cases k with
 | zero => exact absurd h (by simp [sweep_family_decide.f])
 | succ k =>
 simp only [sweep_family_decide.f] at h
 have HO1 := Aside0.mk (show Kd.R (Kd.int .i8) 107 w w0.heap.size (fun k_ => (P1_ k_ ∨ w.heap.size ≤ k_)) u9000_ l1 from Kd.R_mono ho1 (fun k_ hk => (.inl hk)))
 have HI0 := Aside0.mk hI
 have HL := Aside0.mk hB.size
 clear hI
 have HK := Aside0.mk (Kept.refl w (fun k_ => (P1_ k_) ∨ k_ = g))
 have HW0 := Aside0.mk hB.size
 have HB := Aside0.mk hB
 clear hB
 have H : (if 0 ≤ a2 then (if a2 < (l1.length : Int) then (if (rd l1 a2) = 0 then (sweep_family_decide.l0 k (l1.set (a2 : Int).toNat a3) a2 a3 s0_2 (s0_2.length : Int) 0 s0_0 s0_1 s0_2 s0_3) else (some (((rd l1 a2) == a3), s0_1, l1))) else (none)) else (none)) = some (r1, r2, r3) := h
 clear h
 by_cases c5 : 0 ≤ a2
 ·rw [if_pos c5] at H
  have c5b0 : decide (0 ≤ a2) = true := decide_eq_true c5
  clear c5
  by_cases c6 : a2 < (l1.length : Int)
  ·rw [if_pos c6] at H
   have c6b0 : decide (a2 < (l1.length : Int)) = true := decide_eq_true c6
   clear c6
   by_cases c7 : (rd l1 a2) = 0
   ·rw [if_pos c7] at H
    have c7b0 : ((rd l1 a2) == 0) = true := beq_iff_eq.mpr c7
    have c7b1 : ((rd l1 a2) != 0) = false := bne_eq_false_iff_eq.mpr c7
    clear c7
    obtain ⟨y430, hy430⟩ : ∃ y_ : List Int, y_ = (l1.set (a2 : Int).toNat a3) := ⟨_, rfl⟩
    replace H : (sweep_family_decide.l0 k y430 a2 a3 s0_2 (s0_2.length : Int) 0 s0_0 s0_1 s0_2 s0_3) = some (r1, r2, r3) := by first | (rw [hy430]; with_reducible exact H) | (have H2_ := (Option.bind_some _ _).symm.trans H; rw [hy430]; with_reducible exact H2_) | (have H2_ := (Option.bind_some _ _).symm.trans H; with_reducible exact H2_) | with_reducible exact H | (rw [hy430]; exact H) | exact H
    have Ny430 := Aside0.mk hy430
    clear hy430
    have H' := Aside0.mk H
    clear H
    obtain ⟨Ao9, co9, eo9⟩ := Kd.R_slice HO1.out
    subst eo9
    have p428 : 0 ≤ (a2 : Int) := of_decide_eq_true (by first | (with_reducible assumption) | assumption)
    have q428 : a2 < (l1.length : Int) := of_decide_eq_true (by first | (with_reducible assumption) | assumption)
    obtain ⟨ad428, e428, hx428_0⟩ := Kd.at_int (Kd.R_reads' HO1.out).2.2 a2 p428 q428
    cases e428
    replace p428 := eq_true p428
    replace q428 := eq_true q428
    have p8 : 0 ≤ (a2 : Int) := of_decide_eq_true (by first | (with_reducible assumption) | assumption)
    have q8 : (a2 : Int) < ((l1.length : Int) : Int) := of_decide_eq_true (by first | (with_reducible assumption) | assumption)
    obtain ⟨go8, co8, eo8, gb8, gl8, cl8, HG8⟩ := Kd.R_form HO1.out (by omega)
    (first | cases eo8 | (injection eo8 with ea_ en_ ec_; (first | subst ea_ | (injection ea_ with ea_; subst ea_)); subst ec_; clear en_))
    have GB8 := Aside0.mk gb8
    have GG8 := Aside0.mk HG8
    clear gb8 gl8 HG8
    have HMgo8 := Aside0.mk (show (P1_ go8 ∨ w.heap.size ≤ go8) from (HO1.out.1 _ rfl))
    (first | simp only [add_plain] at hx428_0 | skip)
    obtain ⟨hx8_0, hf8_0⟩ := Kd.R_celln 0 HO1.out (a2 : Int) p8 q8
    replace p8 := eq_true p8
    replace q8 := eq_true q8
    have HP10 := Kd.R_putg HO1.out (a2 : Int) a3
    go_enter Tryd.func82, Tryd.ntmps82
    go_wp2_with (first | ((with_reducible refine gate_store (t := 107) (p := 28) rfl ?_); refine store_event (t := 107) (p := 28) (v := ?vo_w11) (w1 := (w.setCell ⟨go8, (a2 : Int).toNat, none⟩ (.int .i8 a3))) ?hg ?ho ?hn ?hr ?_; (case ho => rfl); (case hg => rfl); (case hn => rfl); (case hr => first | (go_simp; done) | (go_simp; rfl)); intro w11 hw; have hg : w.grownBy w11 (some go8) := (by rw [hw]; exact HP10.2); have hp_ : Kd.R (Kd.int .i8) 107 w11 w0.heap.size (fun k_ => (P1_ k_ ∨ w.heap.size ≤ k_)) (.slice (some ⟨go8, 0, none⟩) l1.length co9) y430 := (by rw [hw, Ny430.out]; exact HP10.1); clear HP10; have n0_ := Aside0.mk (IsS96.grown (by repeat (first | (with_reducible first | exact HI0.out | apply IsS96.alloc | apply IsS96.drewN | apply IsS96.drew | apply IsS96.set_1) | exact HI0.out)) hg (IsS96.own_ne HI0.out HO1.out (by decide))); have n1_ := Aside0.mk (hp_); have n2_ := Aside0.mk ((by rw [hw]; exact below_set (HB.out) GB8.out : Below w0.heap.size w0 w11)); have n3_ := Aside0.mk (Kept.of_grown (S := (fun k_ => (P1_ k_) ∨ k_ = g)) hg (by repeat (first | (with_reducible first | exact HK.out | apply Kept.alloc | apply Kept.drewN | apply Kept.drew | refine Kept.setCell ?_ (.inl (.inr rfl)) _) | exact HK.out)) (fun k_ e_ => Or.imp_left Or.inl ((HO1.out.1 k_ e_)))); clear HI0; clear HO1; clear HB; clear HK; have HI0 := n0_; have HO1 := n1_; have HB := n2_; have HK := n3_; clear n0_ n1_ n2_ n3_; clear hg hw hp_; obtain ⟨ASz12_0, cSz12_0, ASz12_2, cSz12_2, ASz12_3, cSz12_3, HGz12, hgz12, HSz12_0, HSz12_2, HSz12_3⟩ := HI0.out; have hcz12_0 := cellS96_0 HGz12; have hcz12_1 := cellS96_1 HGz12; have hcz12_2 := cellS96_2 HGz12; have hcz12_3 := cellS96_3 HGz12; have hfz12_1 := blk_frozen HGz12 1; clear HGz12 hgz12))
    go_loopg [34] k (fun kq v34 w' => ∃ (x1_1 : List Int) (x34_1 : Int) (x1001_1 : Int), v34 = .int .i64 x34_1 ∧ Aside0 (sweep_family_decide.l0 kq x1_1 a2 a3 s0_2 (s0_2.length : Int) x34_1 s0_0 x1001_1 s0_2 s0_3 = some (r1, r2, r3)) ∧ Aside0 (kq ≤ k) ∧ Aside0 (Kd.R (Kd.int .i8) 107 w' w0.heap.size (fun k_ => (P1_ k_ ∨ w.heap.size ≤ k_)) (.slice (some ⟨go8, 0, none⟩) l1.length co9) x1_1) ∧ Aside0 (IsS96 w0 w' g s0_0 x1001_1 s0_2 s0_3) ∧ Aside0 (Kept w w' (fun k_ => (P1_ k_) ∨ k_ = g)) ∧ Aside0 (Below w0.heap.size w0 w'))
    case atStart => exact ⟨(y430), (0), (s0_1), (by first | rfl | (simp; done) | (simp [*]; done)), H', ⟨Nat.le_refl _⟩, ⟨by (with_reducible repeat (first | apply Kd.R_alloc | apply Kd.R_drewN | apply Kd.R_drew)); exact HO1.out⟩, ⟨by repeat (first | (with_reducible first | exact HI0.out | apply IsS96.alloc | apply IsS96.drewN | apply IsS96.drew | apply IsS96.set_1) | exact HI0.out)⟩, ⟨by repeat (first | (with_reducible first | exact HK.out | apply Kept.alloc | apply Kept.drewN | apply Kept.drew | refine Kept.setCell ?_ (.inl (.inr rfl)) _) | exact HK.out)⟩, ⟨by repeat (first | (with_reducible first | exact HB.out | apply below_alloc | apply pw_below_drewN | apply below_drew1 | refine below_set ?_ (IsS96.ge HI0.out)) | exact HB.out)⟩⟩
    case round =>
     clear H'
     try clear p2
     try clear p4
     try clear q4
     try clear hx4
     try clear c5
     try clear c5b0
     try clear c6
     try clear c6b0
     try clear c7
     try clear c7b0
     try clear c7b1
     try clear c8
     try clear p8
     try clear q8
     try clear hx8
     try clear hf8
     try clear hcz12_0
     try clear hcz12_1
     try clear hcz12_2
     try clear hcz12_3
     try clear hfz12_1
     try clear hx428_0
     try clear hx8_0
     try clear p428
     try clear p8
     try clear q428
     try clear q8
     obtain ⟨x1_1, x34_1, x1001_1, rfl, HA, HK1, HO_1, HI0, HK, HB⟩ := hrel
     have hl1_1 := (Kd.R_reads' HO_1.out).1
     rw [hl1_1] at HO_1
     (try simp only [hl1_1])
     cases gk with
     | zero => exact absurd HA.out (by simp [sweep_family_decide.l0])
     | succ k1 =>
      have H := HA.out
      clear HA
      simp only [sweep_family_decide.l0] at H
      by_cases c13 : x34_1 < (s0_2.length : Int)
      ·rw [if_pos c13] at H
       have c13b0 : decide (x34_1 < (s0_2.length : Int)) = true := decide_eq_true c13
       clear c13
       by_cases c14 : 0 ≤ x34_1
       ·rw [if_pos c14] at H
        have c14b0 : decide (0 ≤ x34_1) = true := decide_eq_true c14
        clear c14
        by_cases c15 : x34_1 < (s0_2.length : Int)
        ·rw [if_pos c15] at H
         have c15b0 : decide (x34_1 < (s0_2.length : Int)) = true := decide_eq_true c15
         clear c15
         by_cases c16 : a3 = 1
         ·rw [if_pos c16] at H
          have c16b0 : (a3 == 1) = true := beq_iff_eq.mpr c16
          have c16b1 : (a3 != 1) = false := bne_eq_false_iff_eq.mpr c16
          clear c16
          by_cases c17 : (Go.bits .andNot .i64 x34_1 a2) = 0
          ·rw [if_pos c17] at H
           have c17b0 : ((Go.bits .andNot .i64 x34_1 a2) == 0) = true := beq_iff_eq.mpr c17
           have c17b1 : ((Go.bits .andNot .i64 x34_1 a2) != 0) = false := bne_eq_false_iff_eq.mpr c17
           clear c17
           obtain ⟨bq18, hbq18⟩ : ∃ b_ : Bool, b_ = (rdOf false s0_2 x34_1) := ⟨_, rfl⟩
           replace H : (if bq18 = true then ((sweep_family_decide.f k1 s0_0 x1001_1 s0_2 s0_3 x1_1 x34_1 a3).bind fun bt432 => (if bt432.1 = true then (sweep_family_decide.l0 k1 bt432.2.2 a2 a3 s0_2 (s0_2.length : Int) (wrap64 (x34_1 + 1)) s0_0 bt432.2.1 s0_2 s0_3) else (some (false, bt432.2.1, bt432.2.2)))) else (sweep_family_decide.l0 k1 x1_1 a2 a3 s0_2 (s0_2.length : Int) (wrap64 (x34_1 + 1)) s0_0 x1001_1 s0_2 s0_3)) = some (r1, r2, r3) := by rw [← hbq18] at H; exact H
           have Nbq18 := Aside0.mk hbq18
           clear hbq18
           by_cases c19 : bq18 = true
           ·subst c19
            have H1 : ((sweep_family_decide.f k1 s0_0 x1001_1 s0_2 s0_3 x1_1 x34_1 a3).bind fun bt432 => (if bt432.1 = true then (sweep_family_decide.l0 k1 bt432.2.2 a2 a3 s0_2 (s0_2.length : Int) (wrap64 (x34_1 + 1)) s0_0 bt432.2.1 s0_2 s0_3) else (some (false, bt432.2.1, bt432.2.2)))) = some (r1, r2, r3) := by rw [if_pos rfl] at H; exact H
            clear H
            have H := H1
            clear H1
            replace H := Option.bind_eq_some_iff.mp H
            obtain ⟨⟨t432, t433, t434⟩, A200, H⟩ := H
            replace H : (if t432 = true then (sweep_family_decide.l0 k1 t434 a2 a3 s0_2 (s0_2.length : Int) (wrap64 (x34_1 + 1)) s0_0 t433 s0_2 s0_3) else (some (false, t433, t434))) = some (r1, r2, r3) := H
            have A20 := Aside0.mk A200
            clear A200
            by_cases c21 : t432 = true
            ·subst c21
             have H1 : (sweep_family_decide.l0 k1 t434 a2 a3 s0_2 (s0_2.length : Int) (wrap64 (x34_1 + 1)) s0_0 t433 s0_2 s0_3) = some (r1, r2, r3) := by rw [if_pos rfl] at H; exact H
             clear H
             have H := H1
             clear H1
             have H' := Aside0.mk H
             clear H
             obtain ⟨ASz22_0, cSz22_0, ASz22_2, cSz22_2, ASz22_3, cSz22_3, HGz22, hgz22, HSz22_0, HSz22_2, HSz22_3⟩ := HI0.out
             have hcz22_0 := cellS96_0 HGz22
             have hcz22_1 := cellS96_1 HGz22
             have hcz22_2 := cellS96_2 HGz22
             have hcz22_3 := cellS96_3 HGz22
             have hfz22_1 := blk_frozen HGz22 1
             clear HGz22 hgz22
             have p431 : 0 ≤ (x34_1 : Int) := of_decide_eq_true (by first | (with_reducible assumption) | assumption)
             have q431 : x34_1 < (s0_2.length : Int) := of_decide_eq_true (by first | (with_reducible assumption) | assumption)
             obtain ⟨ad431, e431, hx431_0⟩ := Kd.at_bool HSz12_2 x34_1 p431 q431
             (try rw [← Nbq18.out] at hx431_0)
             cases e431
             replace hx431_0 := pw_cell_below HB.out hx431_0
             replace p431 := eq_true p431
             replace q431 := eq_true q431
             go_wp2_with (first | (go_at_call 82; (with_reducible refine (ih k1 (by have := HK1.out; omega) g s0_0 x1001_1 s0_2 s0_3 (fun k_ => some k_ = (.slice (some ⟨go8, 0, none⟩) x1_1.length co9 : Value).ownBlock) (.slice (some ⟨go8, 0, none⟩) x1_1.length co9) x1_1 x34_1 a3 true t433 t434 w0 _ ?side1 ?side2 ?side3 A20.out).mono ?_); (case side1 => repeat (first | (with_reducible first | exact HI0.out | apply IsS96.alloc | apply IsS96.drewN | apply IsS96.drew | apply IsS96.set_1) | exact HI0.out)); (case side2 => repeat (first | (with_reducible first | exact HB.out | apply below_alloc | apply pw_below_drewN | apply below_drew1 | refine below_set ?_ (IsS96.ge HI0.out)) | exact HB.out)); (case side3 => exact Kd.R_tight rfl HO_1.out); rintro e w23 ⟨rfl, hi, hy0, hb, hkp⟩; have n0_ := Aside0.mk (Kd.R_reok rfl hy0 (fun k_ e_ => HO_1.out.1 k_ e_)); have n1_ := Aside0.mk (hi); have n2_ := Aside0.mk (Kept.then_ (S := (fun k_ => (P1_ k_) ∨ k_ = g)) (by repeat (first | (with_reducible first | exact HK.out | apply Kept.alloc | apply Kept.drewN | apply Kept.drew | refine Kept.setCell ?_ (.inl (.inr rfl)) _) | exact HK.out)) hkp (fun k_ hs_ => Or.elim hs_ (fun hs_ => (fun e_ => Or.imp_left Or.inl ((HO_1.out.1 k_ e_.symm))) hs_) (fun e_ => .inl (.inr e_)))); have n3_ := Aside0.mk (hb); clear HO_1; clear HI0; clear HK; clear HB; have HO_1 := n0_; have HI0 := n1_; have HK := n2_; have HB := n3_; clear n0_ n1_ n2_ n3_; (try clear hb); (try clear hkp); (try clear hy0)))
             (try simp only [← hl1_1])
             go_roundg k1
             case measure => have := HK1.out; omega
             case rel => exact ⟨(t434), (wrap64 (x34_1 + 1)), (t433), (by first | rfl | (simp; done) | (simp [*]; done)), H', ⟨by have := HK1.out; omega⟩, ⟨by (try simp only [hl1_1]); (with_reducible repeat (first | apply Kd.R_alloc | apply Kd.R_drewN | apply Kd.R_drew)); exact HO_1.out⟩, ⟨by repeat (first | (with_reducible first | exact HI0.out | apply IsS96.alloc | apply IsS96.drewN | apply IsS96.drew | apply IsS96.set_1) | exact HI0.out)⟩, ⟨by repeat (first | (with_reducible first | exact HK.out | apply Kept.alloc | apply Kept.drewN | apply Kept.drew | refine Kept.setCell ?_ (.inl (.inr rfl)) _) | exact HK.out)⟩, ⟨by repeat (first | (with_reducible first | exact HB.out | apply below_alloc | apply pw_below_drewN | apply below_drew1 | refine below_set ?_ (IsS96.ge HI0.out)) | exact HB.out)⟩⟩
            ·replace c21 := Bool.eq_false_iff.mpr c21
             subst c21
             have H1 : (some (false, t433, t434)) = some (r1, r2, r3) := by rw [if_neg (show ¬ (false = true) by decide)] at H; exact H
             clear H
             have H := H1
             clear H1
             simp only [Option.some.injEq, Prod.mk.injEq] at H
             obtain ⟨rfl, rfl, rfl⟩ := H
             obtain ⟨ASz24_0, cSz24_0, ASz24_2, cSz24_2, ASz24_3, cSz24_3, HGz24, hgz24, HSz24_0, HSz24_2, HSz24_3⟩ := HI0.out
             have hcz24_0 := cellS96_0 HGz24
             have hcz24_1 := cellS96_1 HGz24
             have hcz24_2 := cellS96_2 HGz24
             have hcz24_3 := cellS96_3 HGz24
             have hfz24_1 := blk_frozen HGz24 1
             clear HGz24 hgz24
             have p431 : 0 ≤ (x34_1 : Int) := of_decide_eq_true (by first | (with_reducible assumption) | assumption)
             have q431 : x34_1 < (s0_2.length : Int) := of_decide_eq_true (by first | (with_reducible assumption) | assumption)
             obtain ⟨ad431, e431, hx431_0⟩ := Kd.at_bool HSz12_2 x34_1 p431 q431
             (try rw [← Nbq18.out] at hx431_0)
             cases e431
             replace hx431_0 := pw_cell_below HB.out hx431_0
             replace p431 := eq_true p431
             replace q431 := eq_true q431
             go_wp2_with (first | (go_at_call 82; (with_reducible refine (ih k1 (by have := HK1.out; omega) g s0_0 x1001_1 s0_2 s0_3 (fun k_ => some k_ = (.slice (some ⟨go8, 0, none⟩) x1_1.length co9 : Value).ownBlock) (.slice (some ⟨go8, 0, none⟩) x1_1.length co9) x1_1 x34_1 a3 false t433 t434 w0 _ ?side1 ?side2 ?side3 A20.out).mono ?_); (case side1 => repeat (first | (with_reducible first | exact HI0.out | apply IsS96.alloc | apply IsS96.drewN | apply IsS96.drew | apply IsS96.set_1) | exact HI0.out)); (case side2 => repeat (first | (with_reducible first | exact HB.out | apply below_alloc | apply pw_below_drewN | apply below_drew1 | refine below_set ?_ (IsS96.ge HI0.out)) | exact HB.out)); (case side3 => exact Kd.R_tight rfl HO_1.out); rintro e w25 ⟨rfl, hi, hy0, hb, hkp⟩; have n0_ := Aside0.mk (Kd.R_reok rfl hy0 (fun k_ e_ => HO_1.out.1 k_ e_)); have n1_ := Aside0.mk (hi); have n2_ := Aside0.mk (Kept.then_ (S := (fun k_ => (P1_ k_) ∨ k_ = g)) (by repeat (first | (with_reducible first | exact HK.out | apply Kept.alloc | apply Kept.drewN | apply Kept.drew | refine Kept.setCell ?_ (.inl (.inr rfl)) _) | exact HK.out)) hkp (fun k_ hs_ => Or.elim hs_ (fun hs_ => (fun e_ => Or.imp_left Or.inl ((HO_1.out.1 k_ e_.symm))) hs_) (fun e_ => .inl (.inr e_)))); have n3_ := Aside0.mk (hb); clear HO_1; clear HI0; clear HK; clear HB; have HO_1 := n0_; have HI0 := n1_; have HK := n2_; have HB := n3_; clear n0_ n1_ n2_ n3_; (try clear hb); (try clear hkp); (try clear hy0)))
             go_ret
             exact ⟨by first | rfl | (simp [errW_none, errW_some] <;> rfl) | (simp [*, errW_none, errW_some] <;> rfl), by repeat (first | (with_reducible first | exact HI0.out | apply IsS96.alloc | apply IsS96.drewN | apply IsS96.drew | apply IsS96.set_1) | exact HI0.out), (by first | exact (Qro HO_1.out) | (simp only [hl1_1]; exact (Qro HO_1.out))), by repeat (first | (with_reducible first | exact HB.out | apply below_alloc | apply pw_below_drewN | apply below_drew1 | refine below_set ?_ (IsS96.ge HI0.out)) | exact HB.out), by repeat (first | (with_reducible first | exact HK.out | apply Kept.alloc | apply Kept.drewN | apply Kept.drew | refine Kept.setCell ?_ (.inl (.inr rfl)) _) | exact HK.out)⟩
           ·replace c19 := Bool.eq_false_iff.mpr c19
            subst c19
            have H1 : (sweep_family_decide.l0 k1 x1_1 a2 a3 s0_2 (s0_2.length : Int) (wrap64 (x34_1 + 1)) s0_0 x1001_1 s0_2 s0_3) = some (r1, r2, r3) := by rw [if_neg (show ¬ (false = true) by decide)] at H; exact H
            clear H
            have H := H1
            clear H1
            have H' := Aside0.mk H
            clear H
            obtain ⟨ASz26_0, cSz26_0, ASz26_2, cSz26_2, ASz26_3, cSz26_3, HGz26, hgz26, HSz26_0, HSz26_2, HSz26_3⟩ := HI0.out
            have hcz26_0 := cellS96_0 HGz26
            have hcz26_1 := cellS96_1 HGz26
            have hcz26_2 := cellS96_2 HGz26
            have hcz26_3 := cellS96_3 HGz26
            have hfz26_1 := blk_frozen HGz26 1
            clear HGz26 hgz26
            have p431 : 0 ≤ (x34_1 : Int) := of_decide_eq_true (by first | (with_reducible assumption) | assumption)
            have q431 : x34_1 < (s0_2.length : Int) := of_decide_eq_true (by first | (with_reducible assumption) | assumption)
            obtain ⟨ad431, e431, hx431_0⟩ := Kd.at_bool HSz12_2 x34_1 p431 q431
            (try rw [← Nbq18.out] at hx431_0)
            cases e431
            replace hx431_0 := pw_cell_below HB.out hx431_0
            replace p431 := eq_true p431
            replace q431 := eq_true q431
            go_wp2
            (try simp only [← hl1_1])
            go_roundg k1
            case measure => have := HK1.out; omega
            case rel => exact ⟨(x1_1), (wrap64 (x34_1 + 1)), (x1001_1), (by first | rfl | (simp; done) | (simp [*]; done)), H', ⟨by have := HK1.out; omega⟩, ⟨by (try simp only [hl1_1]); (with_reducible repeat (first | apply Kd.R_alloc | apply Kd.R_drewN | apply Kd.R_drew)); exact HO_1.out⟩, ⟨by repeat (first | (with_reducible first | exact HI0.out | apply IsS96.alloc | apply IsS96.drewN | apply IsS96.drew | apply IsS96.set_1) | exact HI0.out)⟩, ⟨by repeat (first | (with_reducible first | exact HK.out | apply Kept.alloc | apply Kept.drewN | apply Kept.drew | refine Kept.setCell ?_ (.inl (.inr rfl)) _) | exact HK.out)⟩, ⟨by repeat (first | (with_reducible first | exact HB.out | apply below_alloc | apply pw_below_drewN | apply below_drew1 | refine below_set ?_ (IsS96.ge HI0.out)) | exact HB.out)⟩⟩
          ·rw [if_neg c17] at H
           have c17b0 : ((Go.bits .andNot .i64 x34_1 a2) == 0) = false := beq_eq_false_iff_ne.mpr c17
           have c17b1 : ((Go.bits .andNot .i64 x34_1 a2) != 0) = true := bne_iff_ne.mpr c17
           by_cases c27 : a3 = 2
           ·rw [if_pos c27] at H
            have c27b0 : (a3 == 2) = true := beq_iff_eq.mpr c27
            have c27b1 : (a3 != 2) = false := bne_eq_false_iff_eq.mpr c27
            clear c27
            obtain ⟨bq28, hbq28⟩ : ∃ b_ : Bool, b_ = (rdOf false s0_2 x34_1) := ⟨_, rfl⟩
            replace H : (if bq28 = true then (if (Go.bits .andNot .i64 a2 x34_1) = 0 then ((sweep_family_decide.f k1 s0_0 x1001_1 s0_2 s0_3 x1_1 x34_1 a3).bind fun bt435 => (if bt435.1 = true then (sweep_family_decide.l0 k1 bt435.2.2 a2 a3 s0_2 (s0_2.length : Int) (wrap64 (x34_1 + 1)) s0_0 bt435.2.1 s0_2 s0_3) else (some (false, bt435.2.1, bt435.2.2)))) else (sweep_family_decide.l0 k1 x1_1 a2 a3 s0_2 (s0_2.length : Int) (wrap64 (x34_1 + 1)) s0_0 x1001_1 s0_2 s0_3)) else (sweep_family_decide.l0 k1 x1_1 a2 a3 s0_2 (s0_2.length : Int) (wrap64 (x34_1 + 1)) s0_0 x1001_1 s0_2 s0_3)) = some (r1, r2, r3) := by rw [← hbq28] at H; exact H
            have Nbq28 := Aside0.mk hbq28
            clear hbq28
            by_cases c29 : bq28 = true
            ·subst c29
             have H1 : (if (Go.bits .andNot .i64 a2 x34_1) = 0 then ((sweep_family_decide.f k1 s0_0 x1001_1 s0_2 s0_3 x1_1 x34_1 a3).bind fun bt435 => (if bt435.1 = true then (sweep_family_decide.l0 k1 bt435.2.2 a2 a3 s0_2 (s0_2.length : Int) (wrap64 (x34_1 + 1)) s0_0 bt435.2.1 s0_2 s0_3) else (some (false, bt435.2.1, bt435.2.2)))) else (sweep_family_decide.l0 k1 x1_1 a2 a3 s0_2 (s0_2.length : Int) (wrap64 (x34_1 + 1)) s0_0 x1001_1 s0_2 s0_3)) = some (r1, r2, r3) := by rw [if_pos rfl] at H; exact H
             clear H
             have H := H1
             clear H1
             by_cases c30 : (Go.bits .andNot .i64 a2 x34_1) = 0
             ·rw [if_pos c30] at H
              have c30b0 : ((Go.bits .andNot .i64 a2 x34_1) == 0) = true := beq_iff_eq.mpr c30
              have c30b1 : ((Go.bits .andNot .i64 a2 x34_1) != 0) = false := bne_eq_false_iff_eq.mpr c30
              clear c30
              replace H := Option.bind_eq_some_iff.mp H
              obtain ⟨⟨t435, t436, t437⟩, A310, H⟩ := H
              replace H : (if t435 = true then (sweep_family_decide.l0 k1 t437 a2 a3 s0_2 (s0_2.length : Int) (wrap64 (x34_1 + 1)) s0_0 t436 s0_2 s0_3) else (some (false, t436, t437))) = some (r1, r2, r3) := H
              have A31 := Aside0.mk A310
              clear A310
              by_cases c32 : t435 = true
              ·subst c32
               have H1 : (sweep_family_decide.l0 k1 t437 a2 a3 s0_2 (s0_2.length : Int) (wrap64 (x34_1 + 1)) s0_0 t436 s0_2 s0_3) = some (r1, r2, r3) := by rw [if_pos rfl] at H; exact H
               clear H
               have H := H1
               clear H1
               have H' := Aside0.mk H
               clear H
               obtain ⟨ASz33_0, cSz33_0, ASz33_2, cSz33_2, ASz33_3, cSz33_3, HGz33, hgz33, HSz33_0, HSz33_2, HSz33_3⟩ := HI0.out
               have hcz33_0 := cellS96_0 HGz33
               have hcz33_1 := cellS96_1 HGz33
               have hcz33_2 := cellS96_2 HGz33
               have hcz33_3 := cellS96_3 HGz33
               have hfz33_1 := blk_frozen HGz33 1
               clear HGz33 hgz33
               have p431 : 0 ≤ (x34_1 : Int) := of_decide_eq_true (by first | (with_reducible assumption) | assumption)
               have q431 : x34_1 < (s0_2.length : Int) := of_decide_eq_true (by first | (with_reducible assumption) | assumption)
               obtain ⟨ad431, e431, hx431_0⟩ := Kd.at_bool HSz12_2 x34_1 p431 q431
               (try rw [← Nbq28.out] at hx431_0)
               cases e431
               replace hx431_0 := pw_cell_below HB.out hx431_0
               replace p431 := eq_true p431
               replace q431 := eq_true q431
               go_wp2_with (first | (go_at_call 82; (with_reducible refine (ih k1 (by have := HK1.out; omega) g s0_0 x1001_1 s0_2 s0_3 (fun k_ => some k_ = (.slice (some ⟨go8, 0, none⟩) x1_1.length co9 : Value).ownBlock) (.slice (some ⟨go8, 0, none⟩) x1_1.length co9) x1_1 x34_1 a3 true t436 t437 w0 _ ?side1 ?side2 ?side3 A31.out).mono ?_); (case side1 => repeat (first | (with_reducible first | exact HI0.out | apply IsS96.alloc | apply IsS96.drewN | apply IsS96.drew | apply IsS96.set_1) | exact HI0.out)); (case side2 => repeat (first | (with_reducible first | exact HB.out | apply below_alloc | apply pw_below_drewN | apply below_drew1 | refine below_set ?_ (IsS96.ge HI0.out)) | exact HB.out)); (case side3 => exact Kd.R_tight rfl HO_1.out); rintro e w34 ⟨rfl, hi, hy0, hb, hkp⟩; have n0_ := Aside0.mk (Kd.R_reok rfl hy0 (fun k_ e_ => HO_1.out.1 k_ e_)); have n1_ := Aside0.mk (hi); have n2_ := Aside0.mk (Kept.then_ (S := (fun k_ => (P1_ k_) ∨ k_ = g)) (by repeat (first | (with_reducible first | exact HK.out | apply Kept.alloc | apply Kept.drewN | apply Kept.drew | refine Kept.setCell ?_ (.inl (.inr rfl)) _) | exact HK.out)) hkp (fun k_ hs_ => Or.elim hs_ (fun hs_ => (fun e_ => Or.imp_left Or.inl ((HO_1.out.1 k_ e_.symm))) hs_) (fun e_ => .inl (.inr e_)))); have n3_ := Aside0.mk (hb); clear HO_1; clear HI0; clear HK; clear HB; have HO_1 := n0_; have HI0 := n1_; have HK := n2_; have HB := n3_; clear n0_ n1_ n2_ n3_; (try clear hb); (try clear hkp); (try clear hy0)))
               (try simp only [← hl1_1])
               go_roundg k1
               case measure => have := HK1.out; omega
               case rel => exact ⟨(t437), (wrap64 (x34_1 + 1)), (t436), (by first | rfl | (simp; done) | (simp [*]; done)), H', ⟨by have := HK1.out; omega⟩, ⟨by (try simp only [hl1_1]); (with_reducible repeat (first | apply Kd.R_alloc | apply Kd.R_drewN | apply Kd.R_drew)); exact HO_1.out⟩, ⟨by repeat (first | (with_reducible first | exact HI0.out | apply IsS96.alloc | apply IsS96.drewN | apply IsS96.drew | apply IsS96.set_1) | exact HI0.out)⟩, ⟨by repeat (first | (with_reducible first | exact HK.out | apply Kept.alloc | apply Kept.drewN | apply Kept.drew | refine Kept.setCell ?_ (.inl (.inr rfl)) _) | exact HK.out)⟩, ⟨by repeat (first | (with_reducible first | exact HB.out | apply below_alloc | apply pw_below_drewN | apply below_drew1 | refine below_set ?_ (IsS96.ge HI0.out)) | exact HB.out)⟩⟩
              ·replace c32 := Bool.eq_false_iff.mpr c32
               subst c32
               have H1 : (some (false, t436, t437)) = some (r1, r2, r3) := by rw [if_neg (show ¬ (false = true) by decide)] at H; exact H
               clear H
               have H := H1
               clear H1
               simp only [Option.some.injEq, Prod.mk.injEq] at H
               obtain ⟨rfl, rfl, rfl⟩ := H
               obtain ⟨ASz35_0, cSz35_0, ASz35_2, cSz35_2, ASz35_3, cSz35_3, HGz35, hgz35, HSz35_0, HSz35_2, HSz35_3⟩ := HI0.out
               have hcz35_0 := cellS96_0 HGz35
               have hcz35_1 := cellS96_1 HGz35
               have hcz35_2 := cellS96_2 HGz35
               have hcz35_3 := cellS96_3 HGz35
               have hfz35_1 := blk_frozen HGz35 1
               clear HGz35 hgz35
               have p431 : 0 ≤ (x34_1 : Int) := of_decide_eq_true (by first | (with_reducible assumption) | assumption)
               have q431 : x34_1 < (s0_2.length : Int) := of_decide_eq_true (by first | (with_reducible assumption) | assumption)
               obtain ⟨ad431, e431, hx431_0⟩ := Kd.at_bool HSz12_2 x34_1 p431 q431
               (try rw [← Nbq28.out] at hx431_0)
               cases e431
               replace hx431_0 := pw_cell_below HB.out hx431_0
               replace p431 := eq_true p431
               replace q431 := eq_true q431
               go_wp2_with (first | (go_at_call 82; (with_reducible refine (ih k1 (by have := HK1.out; omega) g s0_0 x1001_1 s0_2 s0_3 (fun k_ => some k_ = (.slice (some ⟨go8, 0, none⟩) x1_1.length co9 : Value).ownBlock) (.slice (some ⟨go8, 0, none⟩) x1_1.length co9) x1_1 x34_1 a3 false t436 t437 w0 _ ?side1 ?side2 ?side3 A31.out).mono ?_); (case side1 => repeat (first | (with_reducible first | exact HI0.out | apply IsS96.alloc | apply IsS96.drewN | apply IsS96.drew | apply IsS96.set_1) | exact HI0.out)); (case side2 => repeat (first | (with_reducible first | exact HB.out | apply below_alloc | apply pw_below_drewN | apply below_drew1 | refine below_set ?_ (IsS96.ge HI0.out)) | exact HB.out)); (case side3 => exact Kd.R_tight rfl HO_1.out); rintro e w36 ⟨rfl, hi, hy0, hb, hkp⟩; have n0_ := Aside0.mk (Kd.R_reok rfl hy0 (fun k_ e_ => HO_1.out.1 k_ e_)); have n1_ := Aside0.mk (hi); have n2_ := Aside0.mk (Kept.then_ (S := (fun k_ => (P1_ k_) ∨ k_ = g)) (by repeat (first | (with_reducible first | exact HK.out | apply Kept.alloc | apply Kept.drewN | apply Kept.drew | refine Kept.setCell ?_ (.inl (.inr rfl)) _) | exact HK.out)) hkp (fun k_ hs_ => Or.elim hs_ (fun hs_ => (fun e_ => Or.imp_left Or.inl ((HO_1.out.1 k_ e_.symm))) hs_) (fun e_ => .inl (.inr e_)))); have n3_ := Aside0.mk (hb); clear HO_1; clear HI0; clear HK; clear HB; have HO_1 := n0_; have HI0 := n1_; have HK := n2_; have HB := n3_; clear n0_ n1_ n2_ n3_; (try clear hb); (try clear hkp); (try clear hy0)))
               go_ret
               exact ⟨by first | rfl | (simp [errW_none, errW_some] <;> rfl) | (simp [*, errW_none, errW_some] <;> rfl), by repeat (first | (with_reducible first | exact HI0.out | apply IsS96.alloc | apply IsS96.drewN | apply IsS96.drew | apply IsS96.set_1) | exact HI0.out), (by first | exact (Qro HO_1.out) | (simp only [hl1_1]; exact (Qro HO_1.out))), by repeat (first | (with_reducible first | exact HB.out | apply below_alloc | apply pw_below_drewN | apply below_drew1 | refine below_set ?_ (IsS96.ge HI0.out)) | exact HB.out), by repeat (first | (with_reducible first | exact HK.out | apply Kept.alloc | apply Kept.drewN | apply Kept.drew | refine Kept.setCell ?_ (.inl (.inr rfl)) _) | exact HK.out)⟩
             ·rw [if_neg c30] at H
              have c30b0 : ((Go.bits .andNot .i64 a2 x34_1) == 0) = false := beq_eq_false_iff_ne.mpr c30
              have c30b1 : ((Go.bits .andNot .i64 a2 x34_1) != 0) = true := bne_iff_ne.mpr c30
              have H' := Aside0.mk H
              clear H
              obtain ⟨ASz37_0, cSz37_0, ASz37_2, cSz37_2, ASz37_3, cSz37_3, HGz37, hgz37, HSz37_0, HSz37_2, HSz37_3⟩ := HI0.out
              have hcz37_0 := cellS96_0 HGz37
              have hcz37_1 := cellS96_1 HGz37
              have hcz37_2 := cellS96_2 HGz37
              have hcz37_3 := cellS96_3 HGz37
              have hfz37_1 := blk_frozen HGz37 1
              clear HGz37 hgz37
              have p431 : 0 ≤ (x34_1 : Int) := of_decide_eq_true (by first | (with_reducible assumption) | assumption)
              have q431 : x34_1 < (s0_2.length : Int) := of_decide_eq_true (by first | (with_reducible assumption) | assumption)
              obtain ⟨ad431, e431, hx431_0⟩ := Kd.at_bool HSz12_2 x34_1 p431 q431
              (try rw [← Nbq28.out] at hx431_0)
              cases e431
              replace hx431_0 := pw_cell_below HB.out hx431_0
              replace p431 := eq_true p431
              replace q431 := eq_true q431
              go_wp2
              (try simp only [← hl1_1])
              go_roundg k1
              case measure => have := HK1.out; omega
              case rel => exact ⟨(x1_1), (wrap64 (x34_1 + 1)), (x1001_1), (by first | rfl | (simp; done) | (simp [*]; done)), H', ⟨by have := HK1.out; omega⟩, ⟨by (try simp only [hl1_1]); (with_reducible repeat (first | apply Kd.R_alloc | apply Kd.R_drewN | apply Kd.R_drew)); exact HO_1.out⟩, ⟨by repeat (first | (with_reducible first | exact HI0.out | apply IsS96.alloc | apply IsS96.drewN | apply IsS96.drew | apply IsS96.set_1) | exact HI0.out)⟩, ⟨by repeat (first | (with_reducible first | exact HK.out | apply Kept.alloc | apply Kept.drewN | apply Kept.drew | refine Kept.setCell ?_ (.inl (.inr rfl)) _) | exact HK.out)⟩, ⟨by repeat (first | (with_reducible first | exact HB.out | apply below_alloc | apply pw_below_drewN | apply below_drew1 | refine below_set ?_ (IsS96.ge HI0.out)) | exact HB.out)⟩⟩
            ·replace c29 := Bool.eq_false_iff.mpr c29
             subst c29
             have H1 : (sweep_family_decide.l0 k1 x1_1 a2 a3 s0_2 (s0_2.length : Int) (wrap64 (x34_1 + 1)) s0_0 x1001_1 s0_2 s0_3) = some (r1, r2, r3) := by rw [if_neg (show ¬ (false = true) by decide)] at H; exact H
             clear H
             have H := H1
             clear H1
             have H' := Aside0.mk H
             clear H
             obtain ⟨ASz38_0, cSz38_0, ASz38_2, cSz38_2, ASz38_3, cSz38_3, HGz38, hgz38, HSz38_0, HSz38_2, HSz38_3⟩ := HI0.out
             have hcz38_0 := cellS96_0 HGz38
             have hcz38_1 := cellS96_1 HGz38
             have hcz38_2 := cellS96_2 HGz38
             have hcz38_3 := cellS96_3 HGz38
             have hfz38_1 := blk_frozen HGz38 1
             clear HGz38 hgz38
             have p431 : 0 ≤ (x34_1 : Int) := of_decide_eq_true (by first | (with_reducible assumption) | assumption)
             have q431 : x34_1 < (s0_2.length : Int) := of_decide_eq_true (by first | (with_reducible assumption) | assumption)
             obtain ⟨ad431, e431, hx431_0⟩ := Kd.at_bool HSz12_2 x34_1 p431 q431
             (try rw [← Nbq28.out] at hx431_0)
             cases e431
             replace hx431_0 := pw_cell_below HB.out hx431_0
             replace p431 := eq_true p431
             replace q431 := eq_true q431
             go_wp2
             (try simp only [← hl1_1])
             go_roundg k1
             case measure => have := HK1.out; omega
             case rel => exact ⟨(x1_1), (wrap64 (x34_1 + 1)), (x1001_1), (by first | rfl | (simp; done) | (simp [*]; done)), H', ⟨by have := HK1.out; omega⟩, ⟨by (try simp only [hl1_1]); (with_reducible repeat (first | apply Kd.R_alloc | apply Kd.R_drewN | apply Kd.R_drew)); exact HO_1.out⟩, ⟨by repeat (first | (with_reducible first | exact HI0.out | apply IsS96.alloc | apply IsS96.drewN | apply IsS96.drew | apply IsS96.set_1) | exact HI0.out)⟩, ⟨by repeat (first | (with_reducible first | exact HK.out | apply Kept.alloc | apply Kept.drewN | apply Kept.drew | refine Kept.setCell ?_ (.inl (.inr rfl)) _) | exact HK.out)⟩, ⟨by repeat (first | (with_reducible first | exact HB.out | apply below_alloc | apply pw_below_drewN | apply below_drew1 | refine below_set ?_ (IsS96.ge HI0.out)) | exact HB.out)⟩⟩
           ·rw [if_neg c27] at H
            have c27b0 : (a3 == 2) = false := beq_eq_false_iff_ne.mpr c27
            have c27b1 : (a3 != 2) = true := bne_iff_ne.mpr c27
            obtain ⟨bq39, hbq39⟩ : ∃ b_ : Bool, b_ = (rdOf false s0_2 x34_1) := ⟨_, rfl⟩
            replace H : (if bq39 = true then (sweep_family_decide.l0 k1 x1_1 a2 a3 s0_2 (s0_2.length : Int) (wrap64 (x34_1 + 1)) s0_0 x1001_1 s0_2 s0_3) else (sweep_family_decide.l0 k1 x1_1 a2 a3 s0_2 (s0_2.length : Int) (wrap64 (x34_1 + 1)) s0_0 x1001_1 s0_2 s0_3)) = some (r1, r2, r3) := by rw [← hbq39] at H; exact H
            have Nbq39 := Aside0.mk hbq39
            clear hbq39
            by_cases c40 : bq39 = true
            ·subst c40
             have H1 : (sweep_family_decide.l0 k1 x1_1 a2 a3 s0_2 (s0_2.length : Int) (wrap64 (x34_1 + 1)) s0_0 x1001_1 s0_2 s0_3) = some (r1, r2, r3) := by rw [if_pos rfl] at H; exact H
             clear H
             have H := H1
             clear H1
             have H' := Aside0.mk H
             clear H
             obtain ⟨ASz41_0, cSz41_0, ASz41_2, cSz41_2, ASz41_3, cSz41_3, HGz41, hgz41, HSz41_0, HSz41_2, HSz41_3⟩ := HI0.out
             have hcz41_0 := cellS96_0 HGz41
             have hcz41_1 := cellS96_1 HGz41
             have hcz41_2 := cellS96_2 HGz41
             have hcz41_3 := cellS96_3 HGz41
             have hfz41_1 := blk_frozen HGz41 1
             clear HGz41 hgz41
             have p431 : 0 ≤ (x34_1 : Int) := of_decide_eq_true (by first | (with_reducible assumption) | assumption)
             have q431 : x34_1 < (s0_2.length : Int) := of_decide_eq_true (by first | (with_reducible assumption) | assumption)
             obtain ⟨ad431, e431, hx431_0⟩ := Kd.at_bool HSz12_2 x34_1 p431 q431
             (try rw [← Nbq39.out] at hx431_0)
             cases e431
             replace hx431_0 := pw_cell_below HB.out hx431_0
             replace p431 := eq_true p431
             replace q431 := eq_true q431
             go_wp2
             (try simp only [← hl1_1])
             go_roundg k1
             case measure => have := HK1.out; omega
             case rel => exact ⟨(x1_1), (wrap64 (x34_1 + 1)), (x1001_1), (by first | rfl | (simp; done) | (simp [*]; done)), H', ⟨by have := HK1.out; omega⟩, ⟨by (try simp only [hl1_1]); (with_reducible repeat (first | apply Kd.R_alloc | apply Kd.R_drewN | apply Kd.R_drew)); exact HO_1.out⟩, ⟨by repeat (first | (with_reducible first | exact HI0.out | apply IsS96.alloc | apply IsS96.drewN | apply IsS96.drew | apply IsS96.set_1) | exact HI0.out)⟩, ⟨by repeat (first | (with_reducible first | exact HK.out | apply Kept.alloc | apply Kept.drewN | apply Kept.drew | refine Kept.setCell ?_ (.inl (.inr rfl)) _) | exact HK.out)⟩, ⟨by repeat (first | (with_reducible first | exact HB.out | apply below_alloc | apply pw_below_drewN | apply below_drew1 | refine below_set ?_ (IsS96.ge HI0.out)) | exact HB.out)⟩⟩
            ·replace c40 := Bool.eq_false_iff.mpr c40
             subst c40
             have H1 : (sweep_family_decide.l0 k1 x1_1 a2 a3 s0_2 (s0_2.length : Int) (wrap64 (x34_1 + 1)) s0_0 x1001_1 s0_2 s0_3) = some (r1, r2, r3) := by rw [if_neg (show ¬ (false = true) by decide)] at H; exact H
             clear H
             have H := H1
             clear H1
             have H' := Aside0.mk H
             clear H
             obtain ⟨ASz42_0, cSz42_0, ASz42_2, cSz42_2, ASz42_3, cSz42_3, HGz42, hgz42, HSz42_0, HSz42_2, HSz42_3⟩ := HI0.out
             have hcz42_0 := cellS96_0 HGz42
             have hcz42_1 := cellS96_1 HGz42
             have hcz42_2 := cellS96_2 HGz42
             have hcz42_3 := cellS96_3 HGz42
             have hfz42_1 := blk_frozen HGz42 1
             clear HGz42 hgz42
             have p431 : 0 ≤ (x34_1 : Int) := of_decide_eq_true (by first | (with_reducible assumption) | assumption)
             have q431 : x34_1 < (s0_2.length : Int) := of_decide_eq_true (by first | (with_reducible assumption) | assumption)
             obtain ⟨ad431, e431, hx431_0⟩ := Kd.at_bool HSz12_2 x34_1 p431 q431
             (try rw [← Nbq39.out] at hx431_0)
             cases e431
             replace hx431_0 := pw_cell_below HB.out hx431_0
             replace p431 := eq_true p431
             replace q431 := eq_true q431
             go_wp2
             (try simp only [← hl1_1])
             go_roundg k1
             case measure => have := HK1.out; omega
             case rel => exact ⟨(x1_1), (wrap64 (x34_1 + 1)), (x1001_1), (by first | rfl | (simp; done) | (simp [*]; done)), H', ⟨by have := HK1.out; omega⟩, ⟨by (try simp only [hl1_1]); (with_reducible repeat (first | apply Kd.R_alloc | apply Kd.R_drewN | apply Kd.R_drew)); exact HO_1.out⟩, ⟨by repeat (first | (with_reducible first | exact HI0.out | apply IsS96.alloc | apply IsS96.drewN | apply IsS96.drew | apply IsS96.set_1) | exact HI0.out)⟩, ⟨by repeat (first | (with_reducible first | exact HK.out | apply Kept.alloc | apply Kept.drewN | apply Kept.drew | refine Kept.setCell ?_ (.inl (.inr rfl)) _) | exact HK.out)⟩, ⟨by repeat (first | (with_reducible first | exact HB.out | apply below_alloc | apply pw_below_drewN | apply below_drew1 | refine below_set ?_ (IsS96.ge HI0.out)) | exact HB.out)⟩⟩
         ·rw [if_neg c16] at H
          have c16b0 : (a3 == 1) = false := beq_eq_false_iff_ne.mpr c16
          have c16b1 : (a3 != 1) = true := bne_iff_ne.mpr c16
          by_cases c43 : a3 = 2
          ·rw [if_pos c43] at H
           have c43b0 : (a3 == 2) = true := beq_iff_eq.mpr c43
           have c43b1 : (a3 != 2) = false := bne_eq_false_iff_eq.mpr c43
           clear c43
           obtain ⟨bq44, hbq44⟩ : ∃ b_ : Bool, b_ = (rdOf false s0_2 x34_1) := ⟨_, rfl⟩
           replace H : (if bq44 = true then (if (Go.bits .andNot .i64 a2 x34_1) = 0 then ((sweep_family_decide.f k1 s0_0 x1001_1 s0_2 s0_3 x1_1 x34_1 a3).bind fun bt438 => (if bt438.1 = true then (sweep_family_decide.l0 k1 bt438.2.2 a2 a3 s0_2 (s0_2.length : Int) (wrap64 (x34_1 + 1)) s0_0 bt438.2.1 s0_2 s0_3) else (some (false, bt438.2.1, bt438.2.2)))) else (sweep_family_decide.l0 k1 x1_1 a2 a3 s0_2 (s0_2.length : Int) (wrap64 (x34_1 + 1)) s0_0 x1001_1 s0_2 s0_3)) else (sweep_family_decide.l0 k1 x1_1 a2 a3 s0_2 (s0_2.length : Int) (wrap64 (x34_1 + 1)) s0_0 x1001_1 s0_2 s0_3)) = some (r1, r2, r3) := by rw [← hbq44] at H; exact H
           have Nbq44 := Aside0.mk hbq44
           clear hbq44
           by_cases c45 : bq44 = true
           ·subst c45
            have H1 : (if (Go.bits .andNot .i64 a2 x34_1) = 0 then ((sweep_family_decide.f k1 s0_0 x1001_1 s0_2 s0_3 x1_1 x34_1 a3).bind fun bt438 => (if bt438.1 = true then (sweep_family_decide.l0 k1 bt438.2.2 a2 a3 s0_2 (s0_2.length : Int) (wrap64 (x34_1 + 1)) s0_0 bt438.2.1 s0_2 s0_3) else (some (false, bt438.2.1, bt438.2.2)))) else (sweep_family_decide.l0 k1 x1_1 a2 a3 s0_2 (s0_2.length : Int) (wrap64 (x34_1 + 1)) s0_0 x1001_1 s0_2 s0_3)) = some (r1, r2, r3) := by rw [if_pos rfl] at H; exact H
            clear H
            have H := H1
            clear H1
            by_cases c46 : (Go.bits .andNot .i64 a2 x34_1) = 0
            ·rw [if_pos c46] at H
             have c46b0 : ((Go.bits .andNot .i64 a2 x34_1) == 0) = true := beq_iff_eq.mpr c46
             have c46b1 : ((Go.bits .andNot .i64 a2 x34_1) != 0) = false := bne_eq_false_iff_eq.mpr c46
             clear c46
             replace H := Option.bind_eq_some_iff.mp H
             obtain ⟨⟨t438, t439, t440⟩, A470, H⟩ := H
             replace H : (if t438 = true then (sweep_family_decide.l0 k1 t440 a2 a3 s0_2 (s0_2.length : Int) (wrap64 (x34_1 + 1)) s0_0 t439 s0_2 s0_3) else (some (false, t439, t440))) = some (r1, r2, r3) := H
             have A47 := Aside0.mk A470
             clear A470
             by_cases c48 : t438 = true
             ·subst c48
              have H1 : (sweep_family_decide.l0 k1 t440 a2 a3 s0_2 (s0_2.length : Int) (wrap64 (x34_1 + 1)) s0_0 t439 s0_2 s0_3) = some (r1, r2, r3) := by rw [if_pos rfl] at H; exact H
              clear H
              have H := H1
              clear H1
              have H' := Aside0.mk H
              clear H
              obtain ⟨ASz49_0, cSz49_0, ASz49_2, cSz49_2, ASz49_3, cSz49_3, HGz49, hgz49, HSz49_0, HSz49_2, HSz49_3⟩ := HI0.out
              have hcz49_0 := cellS96_0 HGz49
              have hcz49_1 := cellS96_1 HGz49
              have hcz49_2 := cellS96_2 HGz49
              have hcz49_3 := cellS96_3 HGz49
              have hfz49_1 := blk_frozen HGz49 1
              clear HGz49 hgz49
              have p431 : 0 ≤ (x34_1 : Int) := of_decide_eq_true (by first | (with_reducible assumption) | assumption)
              have q431 : x34_1 < (s0_2.length : Int) := of_decide_eq_true (by first | (with_reducible assumption) | assumption)
              obtain ⟨ad431, e431, hx431_0⟩ := Kd.at_bool HSz12_2 x34_1 p431 q431
              (try rw [← Nbq44.out] at hx431_0)
              cases e431
              replace hx431_0 := pw_cell_below HB.out hx431_0
              replace p431 := eq_true p431
              replace q431 := eq_true q431
              go_wp2_with (first | (go_at_call 82; (with_reducible refine (ih k1 (by have := HK1.out; omega) g s0_0 x1001_1 s0_2 s0_3 (fun k_ => some k_ = (.slice (some ⟨go8, 0, none⟩) x1_1.length co9 : Value).ownBlock) (.slice (some ⟨go8, 0, none⟩) x1_1.length co9) x1_1 x34_1 a3 true t439 t440 w0 _ ?side1 ?side2 ?side3 A47.out).mono ?_); (case side1 => repeat (first | (with_reducible first | exact HI0.out | apply IsS96.alloc | apply IsS96.drewN | apply IsS96.drew | apply IsS96.set_1) | exact HI0.out)); (case side2 => repeat (first | (with_reducible first | exact HB.out | apply below_alloc | apply pw_below_drewN | apply below_drew1 | refine below_set ?_ (IsS96.ge HI0.out)) | exact HB.out)); (case side3 => exact Kd.R_tight rfl HO_1.out); rintro e w50 ⟨rfl, hi, hy0, hb, hkp⟩; have n0_ := Aside0.mk (Kd.R_reok rfl hy0 (fun k_ e_ => HO_1.out.1 k_ e_)); have n1_ := Aside0.mk (hi); have n2_ := Aside0.mk (Kept.then_ (S := (fun k_ => (P1_ k_) ∨ k_ = g)) (by repeat (first | (with_reducible first | exact HK.out | apply Kept.alloc | apply Kept.drewN | apply Kept.drew | refine Kept.setCell ?_ (.inl (.inr rfl)) _) | exact HK.out)) hkp (fun k_ hs_ => Or.elim hs_ (fun hs_ => (fun e_ => Or.imp_left Or.inl ((HO_1.out.1 k_ e_.symm))) hs_) (fun e_ => .inl (.inr e_)))); have n3_ := Aside0.mk (hb); clear HO_1; clear HI0; clear HK; clear HB; have HO_1 := n0_; have HI0 := n1_; have HK := n2_; have HB := n3_; clear n0_ n1_ n2_ n3_; (try clear hb); (try clear hkp); (try clear hy0)))
              (try simp only [← hl1_1])
              go_roundg k1
              case measure => have := HK1.out; omega
              case rel => exact ⟨(t440), (wrap64 (x34_1 + 1)), (t439), (by first | rfl | (simp; done) | (simp [*]; done)), H', ⟨by have := HK1.out; omega⟩, ⟨by (try simp only [hl1_1]); (with_reducible repeat (first | apply Kd.R_alloc | apply Kd.R_drewN | apply Kd.R_drew)); exact HO_1.out⟩, ⟨by repeat (first | (with_reducible first | exact HI0.out | apply IsS96.alloc | apply IsS96.drewN | apply IsS96.drew | apply IsS96.set_1) | exact HI0.out)⟩, ⟨by repeat (first | (with_reducible first | exact HK.out | apply Kept.alloc | apply Kept.drewN | apply Kept.drew | refine Kept.setCell ?_ (.inl (.inr rfl)) _) | exact HK.out)⟩, ⟨by repeat (first | (with_reducible first | exact HB.out | apply below_alloc | apply pw_below_drewN | apply below_drew1 | refine below_set ?_ (IsS96.ge HI0.out)) | exact HB.out)⟩⟩
             ·replace c48 := Bool.eq_false_iff.mpr c48
              subst c48
              have H1 : (some (false, t439, t440)) = some (r1, r2, r3) := by rw [if_neg (show ¬ (false = true) by decide)] at H; exact H
              clear H
              have H := H1
              clear H1
              simp only [Option.some.injEq, Prod.mk.injEq] at H
              obtain ⟨rfl, rfl, rfl⟩ := H
              obtain ⟨ASz51_0, cSz51_0, ASz51_2, cSz51_2, ASz51_3, cSz51_3, HGz51, hgz51, HSz51_0, HSz51_2, HSz51_3⟩ := HI0.out
              have hcz51_0 := cellS96_0 HGz51
              have hcz51_1 := cellS96_1 HGz51
              have hcz51_2 := cellS96_2 HGz51
              have hcz51_3 := cellS96_3 HGz51
              have hfz51_1 := blk_frozen HGz51 1
              clear HGz51 hgz51
              have p431 : 0 ≤ (x34_1 : Int) := of_decide_eq_true (by first | (with_reducible assumption) | assumption)
              have q431 : x34_1 < (s0_2.length : Int) := of_decide_eq_true (by first | (with_reducible assumption) | assumption)
              obtain ⟨ad431, e431, hx431_0⟩ := Kd.at_bool HSz12_2 x34_1 p431 q431
              (try rw [← Nbq44.out] at hx431_0)
              cases e431
              replace hx431_0 := pw_cell_below HB.out hx431_0
              replace p431 := eq_true p431
              replace q431 := eq_true q431
              go_wp2_with (first | (go_at_call 82; (with_reducible refine (ih k1 (by have := HK1.out; omega) g s0_0 x1001_1 s0_2 s0_3 (fun k_ => some k_ = (.slice (some ⟨go8, 0, none⟩) x1_1.length co9 : Value).ownBlock) (.slice (some ⟨go8, 0, none⟩) x1_1.length co9) x1_1 x34_1 a3 false t439 t440 w0 _ ?side1 ?side2 ?side3 A47.out).mono ?_); (case side1 => repeat (first | (with_reducible first | exact HI0.out | apply IsS96.alloc | apply IsS96.drewN | apply IsS96.drew | apply IsS96.set_1) | exact HI0.out)); (case side2 => repeat (first | (with_reducible first | exact HB.out | apply below_alloc | apply pw_below_drewN | apply below_drew1 | refine below_set ?_ (IsS96.ge HI0.out)) | exact HB.out)); (case side3 => exact Kd.R_tight rfl HO_1.out); rintro e w52 ⟨rfl, hi, hy0, hb, hkp⟩; have n0_ := Aside0.mk (Kd.R_reok rfl hy0 (fun k_ e_ => HO_1.out.1 k_ e_)); have n1_ := Aside0.mk (hi); have n2_ := Aside0.mk (Kept.then_ (S := (fun k_ => (P1_ k_) ∨ k_ = g)) (by repeat (first | (with_reducible first | exact HK.out | apply Kept.alloc | apply Kept.drewN | apply Kept.drew | refine Kept.setCell ?_ (.inl (.inr rfl)) _) | exact HK.out)) hkp (fun k_ hs_ => Or.elim hs_ (fun hs_ => (fun e_ => Or.imp_left Or.inl ((HO_1.out.1 k_ e_.symm))) hs_) (fun e_ => .inl (.inr e_)))); have n3_ := Aside0.mk (hb); clear HO_1; clear HI0; clear HK; clear HB; have HO_1 := n0_; have HI0 := n1_; have HK := n2_; have HB := n3_; clear n0_ n1_ n2_ n3_; (try clear hb); (try clear hkp); (try clear hy0)))
              go_ret
              exact ⟨by first | rfl | (simp [errW_none, errW_some] <;> rfl) | (simp [*, errW_none, errW_some] <;> rfl), by repeat (first | (with_reducible first | exact HI0.out | apply IsS96.alloc | apply IsS96.drewN | apply IsS96.drew | apply IsS96.set_1) | exact HI0.out), (by first | exact (Qro HO_1.out) | (simp only [hl1_1]; exact (Qro HO_1.out))), by repeat (first | (with_reducible first | exact HB.out | apply below_alloc | apply pw_below_drewN | apply below_drew1 | refine below_set ?_ (IsS96.ge HI0.out)) | exact HB.out), by repeat (first | (with_reducible first | exact HK.out | apply Kept.alloc | apply Kept.drewN | apply Kept.drew | refine Kept.setCell ?_ (.inl (.inr rfl)) _) | exact HK.out)⟩
            ·rw [if_neg c46] at H
             have c46b0 : ((Go.bits .andNot .i64 a2 x34_1) == 0) = false := beq_eq_false_iff_ne.mpr c46
             have c46b1 : ((Go.bits .andNot .i64 a2 x34_1) != 0) = true := bne_iff_ne.mpr c46
             have H' := Aside0.mk H
             clear H
             obtain ⟨ASz53_0, cSz53_0, ASz53_2, cSz53_2, ASz53_3, cSz53_3, HGz53, hgz53, HSz53_0, HSz53_2, HSz53_3⟩ := HI0.out
             have hcz53_0 := cellS96_0 HGz53
             have hcz53_1 := cellS96_1 HGz53
             have hcz53_2 := cellS96_2 HGz53
             have hcz53_3 := cellS96_3 HGz53
             have hfz53_1 := blk_frozen HGz53 1
             clear HGz53 hgz53
             have p431 : 0 ≤ (x34_1 : Int) := of_decide_eq_true (by first | (with_reducible assumption) | assumption)
             have q431 : x34_1 < (s0_2.length : Int) := of_decide_eq_true (by first | (with_reducible assumption) | assumption)
             obtain ⟨ad431, e431, hx431_0⟩ := Kd.at_bool HSz12_2 x34_1 p431 q431
             (try rw [← Nbq44.out] at hx431_0)
             cases e431
             replace hx431_0 := pw_cell_below HB.out hx431_0
             replace p431 := eq_true p431
             replace q431 := eq_true q431
             go_wp2
             (try simp only [← hl1_1])
             go_roundg k1
             case measure => have := HK1.out; omega
             case rel => exact ⟨(x1_1), (wrap64 (x34_1 + 1)), (x1001_1), (by first | rfl | (simp; done) | (simp [*]; done)), H', ⟨by have := HK1.out; omega⟩, ⟨by (try simp only [hl1_1]); (with_reducible repeat (first | apply Kd.R_alloc | apply Kd.R_drewN | apply Kd.R_drew)); exact HO_1.out⟩, ⟨by repeat (first | (with_reducible first | exact HI0.out | apply IsS96.alloc | apply IsS96.drewN | apply IsS96.drew | apply IsS96.set_1) | exact HI0.out)⟩, ⟨by repeat (first | (with_reducible first | exact HK.out | apply Kept.alloc | apply Kept.drewN | apply Kept.drew | refine Kept.setCell ?_ (.inl (.inr rfl)) _) | exact HK.out)⟩, ⟨by repeat (first | (with_reducible first | exact HB.out | apply below_alloc | apply pw_below_drewN | apply below_drew1 | refine below_set ?_ (IsS96.ge HI0.out)) | exact HB.out)⟩⟩
           ·replace c45 := Bool.eq_false_iff.mpr c45
            subst c45
            have H1 : (sweep_family_decide.l0 k1 x1_1 a2 a3 s0_2 (s0_2.length : Int) (wrap64 (x34_1 + 1)) s0_0 x1001_1 s0_2 s0_3) = some (r1, r2, r3) := by rw [if_neg (show ¬ (false = true) by decide)] at H; exact H
            clear H
            have H := H1
            clear H1
            have H' := Aside0.mk H
            clear H
            obtain ⟨ASz54_0, cSz54_0, ASz54_2, cSz54_2, ASz54_3, cSz54_3, HGz54, hgz54, HSz54_0, HSz54_2, HSz54_3⟩ := HI0.out
            have hcz54_0 := cellS96_0 HGz54
            have hcz54_1 := cellS96_1 HGz54
            have hcz54_2 := cellS96_2 HGz54
            have hcz54_3 := cellS96_3 HGz54
            have hfz54_1 := blk_frozen HGz54 1
            clear HGz54 hgz54
            have p431 : 0 ≤ (x34_1 : Int) := of_decide_eq_true (by first | (with_reducible assumption) | assumption)
            have q431 : x34_1 < (s0_2.length : Int) := of_decide_eq_true (by first | (with_reducible assumption) | assumption)
            obtain ⟨ad431, e431, hx431_0⟩ := Kd.at_bool HSz12_2 x34_1 p431 q431
            (try rw [← Nbq44.out] at hx431_0)
            cases e431
            replace hx431_0 := pw_cell_below HB.out hx431_0
            replace p431 := eq_true p431
            replace q431 := eq_true q431
            go_wp2
            (try simp only [← hl1_1])
            go_roundg k1
            case measure => have := HK1.out; omega
            case rel => exact ⟨(x1_1), (wrap64 (x34_1 + 1)), (x1001_1), (by first | rfl | (simp; done) | (simp [*]; done)), H', ⟨by have := HK1.out; omega⟩, ⟨by (try simp only [hl1_1]); (with_reducible repeat (first | apply Kd.R_alloc | apply Kd.R_drewN | apply Kd.R_drew)); exact HO_1.out⟩, ⟨by repeat (first | (with_reducible first | exact HI0.out | apply IsS96.alloc | apply IsS96.drewN | apply IsS96.drew | apply IsS96.set_1) | exact HI0.out)⟩, ⟨by repeat (first | (with_reducible first | exact HK.out | apply Kept.alloc | apply Kept.drewN | apply Kept.drew | refine Kept.setCell ?_ (.inl (.inr rfl)) _) | exact HK.out)⟩, ⟨by repeat (first | (with_reducible first | exact HB.out | apply below_alloc | apply pw_below_drewN | apply below_drew1 | refine below_set ?_ (IsS96.ge HI0.out)) | exact HB.out)⟩⟩
          ·rw [if_neg c43] at H
           have c43b0 : (a3 == 2) = false := beq_eq_false_iff_ne.mpr c43
           have c43b1 : (a3 != 2) = true := bne_iff_ne.mpr c43
           obtain ⟨bq55, hbq55⟩ : ∃ b_ : Bool, b_ = (rdOf false s0_2 x34_1) := ⟨_, rfl⟩
           replace H : (if bq55 = true then (sweep_family_decide.l0 k1 x1_1 a2 a3 s0_2 (s0_2.length : Int) (wrap64 (x34_1 + 1)) s0_0 x1001_1 s0_2 s0_3) else (sweep_family_decide.l0 k1 x1_1 a2 a3 s0_2 (s0_2.length : Int) (wrap64 (x34_1 + 1)) s0_0 x1001_1 s0_2 s0_3)) = some (r1, r2, r3) := by rw [← hbq55] at H; exact H
           have Nbq55 := Aside0.mk hbq55
           clear hbq55
           by_cases c56 : bq55 = true
           ·subst c56
            have H1 : (sweep_family_decide.l0 k1 x1_1 a2 a3 s0_2 (s0_2.length : Int) (wrap64 (x34_1 + 1)) s0_0 x1001_1 s0_2 s0_3) = some (r1, r2, r3) := by rw [if_pos rfl] at H; exact H
            clear H
            have H := H1
            clear H1
            have H' := Aside0.mk H
            clear H
            obtain ⟨ASz57_0, cSz57_0, ASz57_2, cSz57_2, ASz57_3, cSz57_3, HGz57, hgz57, HSz57_0, HSz57_2, HSz57_3⟩ := HI0.out
            have hcz57_0 := cellS96_0 HGz57
            have hcz57_1 := cellS96_1 HGz57
            have hcz57_2 := cellS96_2 HGz57
            have hcz57_3 := cellS96_3 HGz57
            have hfz57_1 := blk_frozen HGz57 1
            clear HGz57 hgz57
            have p431 : 0 ≤ (x34_1 : Int) := of_decide_eq_true (by first | (with_reducible assumption) | assumption)
            have q431 : x34_1 < (s0_2.length : Int) := of_decide_eq_true (by first | (with_reducible assumption) | assumption)
            obtain ⟨ad431, e431, hx431_0⟩ := Kd.at_bool HSz12_2 x34_1 p431 q431
            (try rw [← Nbq55.out] at hx431_0)
            cases e431
            replace hx431_0 := pw_cell_below HB.out hx431_0
            replace p431 := eq_true p431
            replace q431 := eq_true q431
            go_wp2
            (try simp only [← hl1_1])
            go_roundg k1
            case measure => have := HK1.out; omega
            case rel => exact ⟨(x1_1), (wrap64 (x34_1 + 1)), (x1001_1), (by first | rfl | (simp; done) | (simp [*]; done)), H', ⟨by have := HK1.out; omega⟩, ⟨by (try simp only [hl1_1]); (with_reducible repeat (first | apply Kd.R_alloc | apply Kd.R_drewN | apply Kd.R_drew)); exact HO_1.out⟩, ⟨by repeat (first | (with_reducible first | exact HI0.out | apply IsS96.alloc | apply IsS96.drewN | apply IsS96.drew | apply IsS96.set_1) | exact HI0.out)⟩, ⟨by repeat (first | (with_reducible first | exact HK.out | apply Kept.alloc | apply Kept.drewN | apply Kept.drew | refine Kept.setCell ?_ (.inl (.inr rfl)) _) | exact HK.out)⟩, ⟨by repeat (first | (with_reducible first | exact HB.out | apply below_alloc | apply pw_below_drewN | apply below_drew1 | refine below_set ?_ (IsS96.ge HI0.out)) | exact HB.out)⟩⟩
           ·replace c56 := Bool.eq_false_iff.mpr c56
            subst c56
            have H1 : (sweep_family_decide.l0 k1 x1_1 a2 a3 s0_2 (s0_2.length : Int) (wrap64 (x34_1 + 1)) s0_0 x1001_1 s0_2 s0_3) = some (r1, r2, r3) := by rw [if_neg (show ¬ (false = true) by decide)] at H; exact H
            clear H
            have H := H1
            clear H1
            have H' := Aside0.mk H
            clear H
            obtain ⟨ASz58_0, cSz58_0, ASz58_2, cSz58_2, ASz58_3, cSz58_3, HGz58, hgz58, HSz58_0, HSz58_2, HSz58_3⟩ := HI0.out
            have hcz58_0 := cellS96_0 HGz58
            have hcz58_1 := cellS96_1 HGz58
            have hcz58_2 := cellS96_2 HGz58
            have hcz58_3 := cellS96_3 HGz58
            have hfz58_1 := blk_frozen HGz58 1
            clear HGz58 hgz58
            have p431 : 0 ≤ (x34_1 : Int) := of_decide_eq_true (by first | (with_reducible assumption) | assumption)
            have q431 : x34_1 < (s0_2.length : Int) := of_decide_eq_true (by first | (with_reducible assumption) | assumption)
            obtain ⟨ad431, e431, hx431_0⟩ := Kd.at_bool HSz12_2 x34_1 p431 q431
            (try rw [← Nbq55.out] at hx431_0)
            cases e431
            replace hx431_0 := pw_cell_below HB.out hx431_0
            replace p431 := eq_true p431
            replace q431 := eq_true q431
            go_wp2
            (try simp only [← hl1_1])
            go_roundg k1
            case measure => have := HK1.out; omega
            case rel => exact ⟨(x1_1), (wrap64 (x34_1 + 1)), (x1001_1), (by first | rfl | (simp; done) | (simp [*]; done)), H', ⟨by have := HK1.out; omega⟩, ⟨by (try simp only [hl1_1]); (with_reducible repeat (first | apply Kd.R_alloc | apply Kd.R_drewN | apply Kd.R_drew)); exact HO_1.out⟩, ⟨by repeat (first | (with_reducible first | exact HI0.out | apply IsS96.alloc | apply IsS96.drewN | apply IsS96.drew | apply IsS96.set_1) | exact HI0.out)⟩, ⟨by repeat (first | (with_reducible first | exact HK.out | apply Kept.alloc | apply Kept.drewN | apply Kept.drew | refine Kept.setCell ?_ (.inl (.inr rfl)) _) | exact HK.out)⟩, ⟨by repeat (first | (with_reducible first | exact HB.out | apply below_alloc | apply pw_below_drewN | apply below_drew1 | refine below_set ?_ (IsS96.ge HI0.out)) | exact HB.out)⟩⟩
        ·rw [if_neg c15] at H
         exact absurd H (by simp)
       ·rw [if_neg c14] at H
        exact absurd H (by simp)
      ·rw [if_neg c13] at H
       have c13b0 : decide (x34_1 < (s0_2.length : Int)) = false := decide_eq_false c13
       clear c13
       by_cases c59 : 0 ≤ a2
       ·rw [if_pos c59] at H
        have c59b0 : decide (0 ≤ a2) = true := decide_eq_true c59
        clear c59
        by_cases c60 : a2 < (s0_3.length : Int)
        ·rw [if_pos c60] at H
         have c60b0 : decide (a2 < (s0_3.length : Int)) = true := decide_eq_true c60
         clear c60
         have H' := Aside0.mk H
         clear H
         obtain ⟨ASz61_0, cSz61_0, ASz61_2, cSz61_2, ASz61_3, cSz61_3, HGz61, hgz61, HSz61_0, HSz61_2, HSz61_3⟩ := HI0.out
         have hcz61_0 := cellS96_0 HGz61
         have hcz61_1 := cellS96_1 HGz61
         have hcz61_2 := cellS96_2 HGz61
         have hcz61_3 := cellS96_3 HGz61
         have hfz61_1 := blk_frozen HGz61 1
         clear HGz61 hgz61
         have p441 : 0 ≤ (a2 : Int) := of_decide_eq_true (by first | (with_reducible assumption) | assumption)
         have q441 : a2 < (s0_3.length : Int) := of_decide_eq_true (by first | (with_reducible assumption) | assumption)
         obtain ⟨ad441, A441_0, c441_0, e441, hx441_0, hl441_0, hi441_0⟩ := at_L4 HSz61_3 a2 p441 q441
         cases e441
         replace hx441_0 := pw_cell_below HB.out hx441_0
         have HR441_0 := Aside0.mk hi441_0
         have HC441_0 := Aside0.mk hl441_0
         clear hi441_0 hl441_0
         replace p441 := eq_true p441
         replace q441 := eq_true q441
         go_wp2
         go_loopg [78] k1 (fun kq v78 w' => ∃ (x1_2 : List Int) (x78_2 : Int) (x1001_2 : Int), v78 = .int .i64 x78_2 ∧ Aside0 (sweep_family_decide.l1 kq x1_2 a3 (rd_L4 s0_3 a2) ((rd_L4 s0_3 a2).length : Int) x78_2 s0_0 x1001_2 s0_2 s0_3 = some (r1, r2, r3)) ∧ Aside0 (kq ≤ k1) ∧ Aside0 (Kd.R (Kd.int .i8) 107 w' w0.heap.size (fun k_ => (P1_ k_ ∨ w.heap.size ≤ k_)) (.slice (some ⟨go8, 0, none⟩) x1_1.length co9) x1_2) ∧ Aside0 (IsS96 w0 w' g s0_0 x1001_2 s0_2 s0_3) ∧ Aside0 (Kept w w' (fun k_ => (P1_ k_) ∨ k_ = g)) ∧ Aside0 (Below w0.heap.size w0 w'))
         case atStart => exact ⟨(x1_1), (0), (x1001_1), (by first | rfl | (simp; done) | (simp [*]; done)), H', ⟨Nat.le_refl _⟩, ⟨by (try simp only [hl1_1]); (with_reducible repeat (first | apply Kd.R_alloc | apply Kd.R_drewN | apply Kd.R_drew)); exact HO_1.out⟩, ⟨by repeat (first | (with_reducible first | exact HI0.out | apply IsS96.alloc | apply IsS96.drewN | apply IsS96.drew | apply IsS96.set_1) | exact HI0.out)⟩, ⟨by repeat (first | (with_reducible first | exact HK.out | apply Kept.alloc | apply Kept.drewN | apply Kept.drew | refine Kept.setCell ?_ (.inl (.inr rfl)) _) | exact HK.out)⟩, ⟨by repeat (first | (with_reducible first | exact HB.out | apply below_alloc | apply pw_below_drewN | apply below_drew1 | refine below_set ?_ (IsS96.ge HI0.out)) | exact HB.out)⟩⟩
         case round =>
          clear H'
          try clear c1
          try clear q1
          try clear c2
          try clear p2
          try clear q2
          try clear c3
          try clear q3
          try clear c4
          try clear p4
          try clear q4
          try clear hx4
          try clear c5
          try clear c5b0
          try clear q5
          try clear c6
          try clear c6b0
          try clear p6
          try clear c7
          try clear c7b0
          try clear c7b1
          try clear c8
          try clear p8
          try clear q8
          try clear hx8
          try clear hf8
          try clear c13
          try clear c13b0
          try clear c14
          try clear c14b0
          try clear c15
          try clear c15b0
          try clear c16
          try clear c16b0
          try clear c16b1
          try clear c17
          try clear c17b0
          try clear c17b1
          try clear q18
          try clear c19
          try clear c21
          try clear c27
          try clear c27b0
          try clear c27b1
          try clear q28
          try clear c29
          try clear c30
          try clear c30b0
          try clear c30b1
          try clear c32
          try clear q39
          try clear c40
          try clear p42
          try clear q42
          try clear hx42
          try clear c43
          try clear c43b0
          try clear c43b1
          try clear p43
          try clear q43
          try clear hx43
          try clear c44
          try clear p44
          try clear q44
          try clear hx44
          try clear c45
          try clear c46
          try clear c46b0
          try clear c46b1
          try clear c48
          try clear q55
          try clear c56
          try clear c59
          try clear c59b0
          try clear c60
          try clear c60b0
          try clear hcz12_0
          try clear hcz12_1
          try clear hcz12_2
          try clear hcz12_3
          try clear hcz22_0
          try clear hcz22_1
          try clear hcz22_2
          try clear hcz22_3
          try clear hcz24_0
          try clear hcz24_1
          try clear hcz24_2
          try clear hcz24_3
          try clear hcz26_0
          try clear hcz26_1
          try clear hcz26_2
          try clear hcz26_3
          try clear hcz33_0
          try clear hcz33_1
          try clear hcz33_2
          try clear hcz33_3
          try clear hcz35_0
          try clear hcz35_1
          try clear hcz35_2
          try clear hcz35_3
          try clear hcz37_0
          try clear hcz37_1
          try clear hcz37_2
          try clear hcz37_3
          try clear hcz38_0
          try clear hcz38_1
          try clear hcz38_2
          try clear hcz38_3
          try clear hcz41_0
          try clear hcz41_1
          try clear hcz41_2
          try clear hcz41_3
          try clear hcz42_0
          try clear hcz42_1
          try clear hcz42_2
          try clear hcz42_3
          try clear hcz49_0
          try clear hcz49_1
          try clear hcz49_2
          try clear hcz49_3
          try clear hcz51_0
          try clear hcz51_1
          try clear hcz51_2
          try clear hcz51_3
          try clear hcz53_0
          try clear hcz53_1
          try clear hcz53_2
          try clear hcz53_3
          try clear hcz54_0
          try clear hcz54_1
          try clear hcz54_2
          try clear hcz54_3
          try clear hcz57_0
          try clear hcz57_1
          try clear hcz57_2
          try clear hcz57_3
          try clear hcz58_0
          try clear hcz58_1
          try clear hcz58_2
          try clear hcz58_3
          try clear hcz61_0
          try clear hcz61_1
          try clear hcz61_2
          try clear hcz61_3
          try clear hfz12_1
          try clear hfz22_1
          try clear hfz24_1
          try clear hfz26_1
          try clear hfz33_1
          try clear hfz35_1
          try clear hfz37_1
          try clear hfz38_1
          try clear hfz41_1
          try clear hfz42_1
          try clear hfz49_1
          try clear hfz51_1
          try clear hfz53_1
          try clear hfz54_1
          try clear hfz57_1
          try clear hfz58_1
          try clear hfz61_1
          try clear hx428_0
          try clear hx431_0
          try clear hx441_0
          try clear hx8_0
          try clear p2
          try clear p4
          try clear p428
          try clear p431
          try clear p441
          try clear p8
          try clear q4
          try clear q428
          try clear q431
          try clear q441
          try clear q8
          obtain ⟨x1_2, x78_2, x1001_2, rfl, HA, HK2, HO_1, HI0, HK, HB⟩ := hrel
          have hl1_2 := (Kd.R_reads' HO_1.out).1
          rw [hl1_2] at HO_1
          (try simp only [hl1_2])
          cases gk with
          | zero => exact absurd HA.out (by simp [sweep_family_decide.l1])
          | succ k2 =>
           have H := HA.out
           clear HA
           simp only [sweep_family_decide.l1] at H
           by_cases c62 : x78_2 < ((rd_L4 s0_3 a2).length : Int)
           ·rw [if_pos c62] at H
            have c62b0 : decide (x78_2 < ((rd_L4 s0_3 a2).length : Int)) = true := decide_eq_true c62
            clear c62
            by_cases c63 : 0 ≤ x78_2
            ·rw [if_pos c63] at H
             have c63b0 : decide (0 ≤ x78_2) = true := decide_eq_true c63
             clear c63
             by_cases c64 : x78_2 < ((rd_L4 s0_3 a2).length : Int)
             ·rw [if_pos c64] at H
              have c64b0 : decide (x78_2 < ((rd_L4 s0_3 a2).length : Int)) = true := decide_eq_true c64
              clear c64
              replace H := Option.bind_eq_some_iff.mp H
              obtain ⟨⟨t443, t444, t445⟩, A650, H⟩ := H
              replace H : (if t443 = true then (sweep_family_decide.l1 k2 t445 a3 (rd_L4 s0_3 a2) ((rd_L4 s0_3 a2).length : Int) (wrap64 (x78_2 + 1)) s0_0 t444 s0_2 s0_3) else (some (false, t444, t445))) = some (r1, r2, r3) := H
              have A65 := Aside0.mk A650
              clear A650
              by_cases c66 : t443 = true
              ·subst c66
               have H1 : (sweep_family_decide.l1 k2 t445 a3 (rd_L4 s0_3 a2) ((rd_L4 s0_3 a2).length : Int) (wrap64 (x78_2 + 1)) s0_0 t444 s0_2 s0_3) = some (r1, r2, r3) := by rw [if_pos rfl] at H; exact H
               clear H
               have H := H1
               clear H1
               have H' := Aside0.mk H
               clear H
               have p442 : 0 ≤ (x78_2 : Int) := of_decide_eq_true (by first | (with_reducible assumption) | assumption)
               have q442 : x78_2 < ((rd_L4 s0_3 a2).length : Int) := of_decide_eq_true (by first | (with_reducible assumption) | assumption)
               obtain ⟨ad442, e442, hx442_0⟩ := Kd.at_int HR441_0.out x78_2 p442 q442
               cases e442
               replace hx442_0 := pw_cell_below HB.out hx442_0
               replace p442 := eq_true p442
               replace q442 := eq_true q442
               go_wp2_with (first | ((with_reducible refine gate_callee (f := 82) rfl ?_); refine goesL_ (some 87) rfl rfl Tryd.func82 (by kernel_rfl) rfl #[.pointer (some ⟨g, 0, none⟩), .slice (some ⟨go8, 0, none⟩) x1_2.length co9, .int .i64 (rd (rd_L4 s0_3 a2) x78_2), .int .i8 (IntKind.i8.wrap (3 - a3))] rfl (Qls) ?_; (with_reducible refine (ih k2 (by have := HK1.out; have := HK2.out; omega) g s0_0 x1001_2 s0_2 s0_3 (fun k_ => some k_ = (.slice (some ⟨go8, 0, none⟩) x1_2.length co9 : Value).ownBlock) (.slice (some ⟨go8, 0, none⟩) x1_2.length co9) x1_2 (rd (rd_L4 s0_3 a2) x78_2) (IntKind.i8.wrap (3 - a3)) true t444 t445 w0 _ ?side1 ?side2 ?side3 A65.out).mono ?_); (case side1 => repeat (first | (with_reducible first | exact HI0.out | apply IsS96.alloc | apply IsS96.drewN | apply IsS96.drew | apply IsS96.set_1) | exact HI0.out)); (case side2 => repeat (first | (with_reducible first | exact HB.out | apply below_alloc | apply pw_below_drewN | apply below_drew1 | refine below_set ?_ (IsS96.ge HI0.out)) | exact HB.out)); (case side3 => exact Kd.R_tight rfl HO_1.out); rintro e w67 ⟨rfl, hi, hy0, hb, hkp⟩; refine ⟨_, rfl, ?_⟩; have n0_ := Aside0.mk (Kd.R_reok rfl hy0 (fun k_ e_ => HO_1.out.1 k_ e_)); have n1_ := Aside0.mk (hi); have n2_ := Aside0.mk (Kept.then_ (S := (fun k_ => (P1_ k_) ∨ k_ = g)) (by repeat (first | (with_reducible first | exact HK.out | apply Kept.alloc | apply Kept.drewN | apply Kept.drew | refine Kept.setCell ?_ (.inl (.inr rfl)) _) | exact HK.out)) hkp (fun k_ hs_ => Or.elim hs_ (fun hs_ => (fun e_ => Or.imp_left Or.inl ((HO_1.out.1 k_ e_.symm))) hs_) (fun e_ => .inl (.inr e_)))); have n3_ := Aside0.mk (hb); clear HO_1; clear HI0; clear HK; clear HB; have HO_1 := n0_; have HI0 := n1_; have HK := n2_; have HB := n3_; clear n0_ n1_ n2_ n3_; (try clear hb); (try clear hkp); (try clear hy0)))
               (try simp only [← hl1_2])
               go_roundg k2
               case measure => have := HK1.out; have := HK2.out; omega
               case rel => exact ⟨(t445), (wrap64 (x78_2 + 1)), (t444), (by first | rfl | (simp; done) | (simp [*]; done)), H', ⟨by have := HK1.out; have := HK2.out; omega⟩, ⟨by (try simp only [hl1_1]); (try simp only [hl1_2]); (with_reducible repeat (first | apply Kd.R_alloc | apply Kd.R_drewN | apply Kd.R_drew)); exact HO_1.out⟩, ⟨by repeat (first | (with_reducible first | exact HI0.out | apply IsS96.alloc | apply IsS96.drewN | apply IsS96.drew | apply IsS96.set_1) | exact HI0.out)⟩, ⟨by repeat (first | (with_reducible first | exact HK.out | apply Kept.alloc | apply Kept.drewN | apply Kept.drew | refine Kept.setCell ?_ (.inl (.inr rfl)) _) | exact HK.out)⟩, ⟨by repeat (first | (with_reducible first | exact HB.out | apply below_alloc | apply pw_below_drewN | apply below_drew1 | refine below_set ?_ (IsS96.ge HI0.out)) | exact HB.out)⟩⟩
              ·replace c66 := Bool.eq_false_iff.mpr c66
               subst c66
               have H1 : (some (false, t444, t445)) = some (r1, r2, r3) := by rw [if_neg (show ¬ (false = true) by decide)] at H; exact H
               clear H
               have H := H1
               clear H1
               simp only [Option.some.injEq, Prod.mk.injEq] at H
               obtain ⟨rfl, rfl, rfl⟩ := H
               have p442 : 0 ≤ (x78_2 : Int) := of_decide_eq_true (by first | (with_reducible assumption) | assumption)
               have q442 : x78_2 < ((rd_L4 s0_3 a2).length : Int) := of_decide_eq_true (by first | (with_reducible assumption) | assumption)
               obtain ⟨ad442, e442, hx442_0⟩ := Kd.at_int HR441_0.out x78_2 p442 q442
               cases e442
               replace hx442_0 := pw_cell_below HB.out hx442_0
               replace p442 := eq_true p442
               replace q442 := eq_true q442
               go_wp2_with (first | ((with_reducible refine gate_callee (f := 82) rfl ?_); refine goesL_ (some 87) rfl rfl Tryd.func82 (by kernel_rfl) rfl #[.pointer (some ⟨g, 0, none⟩), .slice (some ⟨go8, 0, none⟩) x1_2.length co9, .int .i64 (rd (rd_L4 s0_3 a2) x78_2), .int .i8 (IntKind.i8.wrap (3 - a3))] rfl (Qls) ?_; (with_reducible refine (ih k2 (by have := HK1.out; have := HK2.out; omega) g s0_0 x1001_2 s0_2 s0_3 (fun k_ => some k_ = (.slice (some ⟨go8, 0, none⟩) x1_2.length co9 : Value).ownBlock) (.slice (some ⟨go8, 0, none⟩) x1_2.length co9) x1_2 (rd (rd_L4 s0_3 a2) x78_2) (IntKind.i8.wrap (3 - a3)) false t444 t445 w0 _ ?side1 ?side2 ?side3 A65.out).mono ?_); (case side1 => repeat (first | (with_reducible first | exact HI0.out | apply IsS96.alloc | apply IsS96.drewN | apply IsS96.drew | apply IsS96.set_1) | exact HI0.out)); (case side2 => repeat (first | (with_reducible first | exact HB.out | apply below_alloc | apply pw_below_drewN | apply below_drew1 | refine below_set ?_ (IsS96.ge HI0.out)) | exact HB.out)); (case side3 => exact Kd.R_tight rfl HO_1.out); rintro e w68 ⟨rfl, hi, hy0, hb, hkp⟩; refine ⟨_, rfl, ?_⟩; have n0_ := Aside0.mk (Kd.R_reok rfl hy0 (fun k_ e_ => HO_1.out.1 k_ e_)); have n1_ := Aside0.mk (hi); have n2_ := Aside0.mk (Kept.then_ (S := (fun k_ => (P1_ k_) ∨ k_ = g)) (by repeat (first | (with_reducible first | exact HK.out | apply Kept.alloc | apply Kept.drewN | apply Kept.drew | refine Kept.setCell ?_ (.inl (.inr rfl)) _) | exact HK.out)) hkp (fun k_ hs_ => Or.elim hs_ (fun hs_ => (fun e_ => Or.imp_left Or.inl ((HO_1.out.1 k_ e_.symm))) hs_) (fun e_ => .inl (.inr e_)))); have n3_ := Aside0.mk (hb); clear HO_1; clear HI0; clear HK; clear HB; have HO_1 := n0_; have HI0 := n1_; have HK := n2_; have HB := n3_; clear n0_ n1_ n2_ n3_; (try clear hb); (try clear hkp); (try clear hy0)))
               go_ret
               exact ⟨by first | rfl | (simp [errW_none, errW_some] <;> rfl) | (simp [*, errW_none, errW_some] <;> rfl), by repeat (first | (with_reducible first | exact HI0.out | apply IsS96.alloc | apply IsS96.drewN | apply IsS96.drew | apply IsS96.set_1) | exact HI0.out), (by first | exact (Qro HO_1.out) | (simp only [hl1_1, hl1_2]; exact (Qro HO_1.out))), by repeat (first | (with_reducible first | exact HB.out | apply below_alloc | apply pw_below_drewN | apply below_drew1 | refine below_set ?_ (IsS96.ge HI0.out)) | exact HB.out), by repeat (first | (with_reducible first | exact HK.out | apply Kept.alloc | apply Kept.drewN | apply Kept.drew | refine Kept.setCell ?_ (.inl (.inr rfl)) _) | exact HK.out)⟩
             ·rw [if_neg c64] at H
              exact absurd H (by simp)
            ·rw [if_neg c63] at H
             exact absurd H (by simp)
           ·rw [if_neg c62] at H
            have c62b0 : decide (x78_2 < ((rd_L4 s0_3 a2).length : Int)) = false := decide_eq_false c62
            clear c62
            simp only [Option.some.injEq, Prod.mk.injEq] at H
            obtain ⟨rfl, rfl, rfl⟩ := H
            go_wp2
            go_ret
            exact ⟨by first | rfl | (simp [errW_none, errW_some] <;> rfl) | (simp [*, errW_none, errW_some] <;> rfl), by repeat (first | (with_reducible first | exact HI0.out | apply IsS96.alloc | apply IsS96.drewN | apply IsS96.drew | apply IsS96.set_1) | exact HI0.out), (by first | exact (Qro HO_1.out) | (simp only [hl1_1, hl1_2]; exact (Qro HO_1.out))), by repeat (first | (with_reducible first | exact HB.out | apply below_alloc | apply pw_below_drewN | apply below_drew1 | refine below_set ?_ (IsS96.ge HI0.out)) | exact HB.out), by repeat (first | (with_reducible first | exact HK.out | apply Kept.alloc | apply Kept.drewN | apply Kept.drew | refine Kept.setCell ?_ (.inl (.inr rfl)) _) | exact HK.out)⟩
        ·rw [if_neg c60] at H
         exact absurd H (by simp)
       ·rw [if_neg c59] at H
        exact absurd H (by simp)
   ·rw [if_neg c7] at H
    have c7b0 : ((rd l1 a2) == 0) = false := beq_eq_false_iff_ne.mpr c7
    have c7b1 : ((rd l1 a2) != 0) = true := bne_iff_ne.mpr c7
    simp only [Option.some.injEq, Prod.mk.injEq] at H
    obtain ⟨rfl, rfl, rfl⟩ := H
    obtain ⟨Ao69, co69, eo69⟩ := Kd.R_slice HO1.out
    subst eo69
    have p428 : 0 ≤ (a2 : Int) := of_decide_eq_true (by first | (with_reducible assumption) | assumption)
    have q428 : a2 < (l1.length : Int) := of_decide_eq_true (by first | (with_reducible assumption) | assumption)
    obtain ⟨ad428, e428, hx428_0⟩ := Kd.at_int (Kd.R_reads' HO1.out).2.2 a2 p428 q428
    cases e428
    replace p428 := eq_true p428
    replace q428 := eq_true q428
    have p429 : 0 ≤ (a2 : Int) := of_decide_eq_true (by first | (with_reducible assumption) | assumption)
    have q429 : a2 < (l1.length : Int) := of_decide_eq_true (by first | (with_reducible assumption) | assumption)
    obtain ⟨ad429, e429, hx429_0⟩ := Kd.at_int (Kd.R_reads' HO1.out).2.2 a2 p429 q429
    obtain rfl : ad428 = ad429 := (by injection e429)
    replace p429 := eq_true p429
    replace q429 := eq_true q429
    go_enter Tryd.func82, Tryd.ntmps82
    go_wp2
    go_ret
    exact ⟨by first | rfl | (simp [errW_none, errW_some] <;> rfl) | (simp [*, errW_none, errW_some] <;> rfl), by repeat (first | (with_reducible first | exact HI0.out | apply IsS96.alloc | apply IsS96.drewN | apply IsS96.drew | apply IsS96.set_1) | exact HI0.out), by (with_reducible repeat (first | apply Kd.R_alloc | apply Kd.R_drewN | apply Kd.R_drew)); exact HO1.out, by repeat (first | (with_reducible first | exact HB.out | apply below_alloc | apply pw_below_drewN | apply below_drew1 | refine below_set ?_ (IsS96.ge HI0.out)) | exact HB.out), by repeat (first | (with_reducible first | exact HK.out | apply Kept.alloc | apply Kept.drewN | apply Kept.drew | refine Kept.setCell ?_ (.inl (.inr rfl)) _) | exact HK.out)⟩
  ·rw [if_neg c6] at H
   exact absurd H (by simp)
 ·rw [if_neg c5] at H
  exact absurd H (by simp)
end Go.Proofs.YtijfddobandcdaaDoor.X
end
section
namespace Go.Proofs.YtijfddobandcdaaDoor.X
open Go.RowKit YtijfddobandcdaaDoorW.PrintWords YtijfddobandcdaaDoorW.PrintLast YtijfddobandcdaaDoorW.PrintMore
attribute [local go_sem] max2_int min2_int max_two min_two max_three min_three max_four min_four
/-! ### sweep_choice: function 81 -/
def sweep_choice.f (l0 : List Int) : Option (List Int) := (some (([] : List Int) : List Int)).bind fun y422 => (if y422.length + l0.length < 140737488355328 then (some (y422 ++ l0)) else (none))
set_option maxHeartbeats 8000000 in
set_option maxRecDepth 100000 in
theorem sweep_choice.calls_some (a0 : Addr) (c0 : Nat) (l0 : List Int) (r : List Int) (w : World) (hr0 : Kd.C (Kd.int .i8) w (some a0) l0.length l0) (hc0 : l0.length ≤ c0) (h : sweep_choice.f l0 = some r) :
  Calls Tryd.prog 81 #[.slice (some a0) l0.length c0] w fun e w' => ∃ v0_ : Value, e = .returned (v0_) ∧ Kd.R (Kd.int .i8) 107 w' w.heap.size (fun _ => True) v0_ r ∧ Below w.heap.size w w' := by
 have HR0 := Aside0.mk hr0
 have HC0 := Aside0.mk hc0
 clear hr0 hc0
 have HB := Aside0.mk (Below.refl w.heap.size w)
 have H : ((some (([] : List Int) : List Int)).bind fun y422 => (if y422.length + l0.length < 140737488355328 then (some (y422 ++ l0)) else (none))) = some r := h
 clear h
 obtain ⟨y422, hy422⟩ : ∃ y_ : List Int, y_ = (([] : List Int)) := ⟨_, rfl⟩
 replace H : (if y422.length + l0.length < 140737488355328 then (some (y422 ++ l0)) else (none)) = some r := by first | (rw [hy422]; with_reducible exact H) | (have H2_ := (Option.bind_some _ _).symm.trans H; rw [hy422]; with_reducible exact H2_) | (have H2_ := (Option.bind_some _ _).symm.trans H; with_reducible exact H2_) | with_reducible exact H | (rw [hy422]; exact H) | exact H
 have Ny422 := Aside0.mk hy422
 clear hy422
 by_cases c2 : y422.length + l0.length < 140737488355328
 ·rw [if_pos c2] at H
  have LMc2 := Aside0.mk c2
  clear c2
  obtain ⟨y425, hy425⟩ : ∃ y_ : List Int, y_ = (y422 ++ l0) := ⟨_, rfl⟩
  replace H : (some y425) = some r := by first | (rw [hy425]; with_reducible exact H) | (have H2_ := (Option.bind_some _ _).symm.trans H; rw [hy425]; with_reducible exact H2_) | (have H2_ := (Option.bind_some _ _).symm.trans H; with_reducible exact H2_) | with_reducible exact H | (rw [hy425]; exact H) | exact H
  have Ny425 := Aside0.mk hy425
  clear hy425
  obtain rfl := Option.some.inj H
  have heq_ := fun (w : World) => Lib.run_eql_slice_nil (P := Tryd.prog) w 104 107 (some a0) l0.length c0 0 0 Tryd.underlying104
  go_enter Tryd.func81, Tryd.ntmps81
  go_wp2_with (first | ((with_reducible refine gate_dst (N := 5) rfl ?_); refine Kd.R_lit (Kd.int .i8) _ 107 ?hg (N := 5) ?hd (xs := ([] : List Int)) (inner := []) (ok := fun _ => True) (okp := fun _ => True) ?hr ?hp (fun _ hk => hk) trivial (Below.refl _ _) (Nat.le_refl _) (by simp) ?_; (case hd => rfl); (case hg => rfl); (case hr => first | (go_simp; done) | (go_simp; rfl)); (case hp => exact (Reps.none _ _)); intro v423 w3 ho4 hb hg_ hnew_; clear hg_ hnew_; (first | rw [← Ny422.out] at ho4 | (simp only [Int.reduceToNat] at ho4; rw [← Ny422.out] at ho4)); have n0_ := Aside0.mk (Kd.R_lower ho4 (below_size (Qaw))); have n1_ := Aside0.mk (below_step (Qaw) hb); clear HB; have HO424 := n0_; have HB := n1_; clear n0_ n1_; clear hb ho4) | ((with_reducible refine gate_builtin (b := .append) (xs := #[.tmp 5, .tmp 6]) rfl ?_); at_builtin; refine Kd.R_append_rows (Kd.int .i8) (w0 := w) w.heap.size rfl (.tmp 5) (.tmp 6) 104 107 (.int .i8 0) 1 rfl Tryd.underlying104 info107 rfl (by decide) (by omega) v423 y422 l0 _ _ _ (fun _ => True) (fun _ => False) rfl rfl ?aO ?aR (fun _ _ h => h) (fun _ h => h.elim) ?aF ?aB ?aS ?aL ?_; (case aR => exact Qsc (Kd.C_below HR0.out HB.out)); (case aB => exact (Qaw)); (case aF => exact (fun _ _ => trivial)); (case aO => exact (Qro HO424.out)); (case aS => exact (below_size (Qaw))); (case aL => have := LMc2.out; omega); intro v426 w5 ho hb hg hat; rw [← Ny425.out] at ho; have n0_ := Aside0.mk (hb); have n1_ := Aside0.mk (ho); clear HB; clear HO424; have HB := n0_; have HO427 := n1_; clear n0_ n1_; clear ho hb hg hat))
  go_ret
  exact ⟨_, by first | rfl | (simp [errW_none, errW_some] <;> rfl) | (simp [*, errW_none, errW_some] <;> rfl), by (with_reducible repeat (first | apply Kd.R_alloc | apply Kd.R_drewN | apply Kd.R_drew)); exact HO427.out, by repeat (first | (with_reducible first | exact HB.out | apply below_alloc | apply pw_below_drewN | apply below_drew1) | exact HB.out)⟩
 ·rw [if_neg c2] at H
  exact absurd H (by simp)
theorem sweep_choice.calls (A0 : Option Addr) (c0 : Nat) (l0 : List Int) (r : List Int) (w : World) (hr0 : Kd.C (Kd.int .i8) w A0 l0.length l0) (hc0 : l0.length ≤ c0) (h : sweep_choice.f l0 = some r) :
  Calls Tryd.prog 81 #[.slice A0 l0.length c0] w fun e w' => ∃ v0_ : Value, e = .returned (v0_) ∧ Kd.R (Kd.int .i8) 107 w' w.heap.size (fun _ => True) v0_ r ∧ Below w.heap.size w w' := by
 cases A0 with
 | some a0 => exact sweep_choice.calls_some a0 c0 l0 r w hr0 hc0 h
 | none =>
  have hl : l0 = [] := by
   rcases Nat.eq_zero_or_pos l0.length with h0 | h0
   ·exact List.length_eq_zero_iff.mp h0
   ·obtain ⟨ad, he, _⟩ := hr0.2.2 h0
    cases he
  subst hl
  obtain rfl : [] = r := by simpa [sweep_choice.f] using h
  clear h hr0 hc0
  have heq_ := fun (w : World) => Lib.run_eql_slice_nil (P := Tryd.prog) w 104 107 none 0 c0 0 0 Tryd.underlying104
  go_enter Tryd.func81, Tryd.ntmps81
  go_wp2
  go_ret
  exact ⟨_, rfl, Kd.R_nil _ _ _ _ _, Below.refl _ _⟩
end Go.Proofs.YtijfddobandcdaaDoor.X
end
section
/- (family).choose, by hand. -/
namespace Go.Proofs.YtijfddobandcdaaDoor.X
open Go.RowKit YtijfddobandcdaaDoorW.PrintWords YtijfddobandcdaaDoorW.PrintLast YtijfddobandcdaaDoorW.PrintMore YtijfddobandcdaaDoor.T
attribute [local go_sem] max2_int min2_int max_two min_two max_three min_three max_four min_four
def pk (BS : List Bool) (st : List Int) : Nat → Nat → Int → Int
 | 0, _, x => x
 | d + 1, y, x => pk BS st d (y + 1) (if BS.getD y false && (rd st (y : Int) == 0) && (decide (x < 0) || decide (pc y 9 < pc x.toNat 9)) then (y : Int) else x)
def tryC (kd : Nat) (S0 : List Int) (kk : Int) (BS : List Bool) (LS : List (List Int)) (g : List Int → Option (Option (List Int))) (st : List Int) (x c : Int) : Option (Option (List Int)) :=
 (sweep_family_decide.f kd S0 kk BS LS st x c).bind fun r => if r.1 then g r.2.2 else some none
def tailC (g : Int → Option (Option (List Int))) : List Int → Option (Option (List Int))
 | [] => some none
 | c :: cs => (g c).bind fun o => match o with
  | some d => some (some d)
  | none => tailC g cs
def chF (kd : Nat) (S0 : List Int) (kk : Int) (BS : List Bool) (LS : List (List Int)) : Nat → List Int → Option (Option (List Int))
 | 0, _ => none
 | m + 1, st => if pk BS st BS.length 0 (-1) < 0 then some (some st) else tailC (tryC kd S0 kk BS LS (chF kd S0 kk BS LS m) st (pk BS st BS.length 0 (-1))) [1, 2]
def csFrom (j : Nat) : List Int := ([1, 2] : List Int).drop j
theorem csFrom_succ (j : Nat) (h : j < 2) : csFrom j = (if j = 0 then (1 : Int) else 2) :: csFrom (j + 1) := by
 match j, h with
 | 0, _ => rfl
 | 1, _ => rfl
theorem IsS96.raise {w0 V : World} {g : Nat} {f0 : List Int} {f1 : Int} {f2 : List Bool} {f3 : List (List Int)} (h : IsS96 w0 w0 g f0 f1 f2 f3) (hb : Below w0.heap.size w0 V) : IsS96 V V g f0 f1 f2 f3 := by
 obtain ⟨A0, c0, A2, c2, A3, c3, hb1, hg, hr0, hr2, hr3⟩ := h
 exact ⟨A0, c0, A2, c2, A3, c3, blk_below hb1 hb, hg, Kd.C_below hr0 hb, Kd.C_below hr2 hb, Kd.C_below hr3 hb⟩
theorem rdOfB' (H : List Bool) (x : Nat) : rdOf false H (x : Int) = H.getD x false := by unfold rdOf; rw [Int.toNat_natCast]
def Chosen (N : Nat) (w' : World) (v : Value) : Option (List Int) → Prop
 | none => v = .slice none 0 0
 | some d => d.length = N ∧ ∃ A c, v = .slice (some A) N c ∧ N ≤ c ∧ Kd.C (Kd.int .i8) w' (some A) d.length d
theorem pk_lt (BS : List Bool) (st : List Int) : ∀ (d y : Nat) (x : Int), x < ((y + d : Nat) : Int) → -1 ≤ x → pk BS st d y x < ((y + d : Nat) : Int) ∧ -1 ≤ pk BS st d y x
 | 0, y, x, h, h1 => ⟨h, h1⟩
 | d + 1, y, x, h, h1 => by
  simp only [pk]
  have := pk_lt BS st d (y + 1) (if BS.getD y false && (rd st (y : Int) == 0) && (decide (x < 0) || decide (pc y 9 < pc x.toNat 9)) then (y : Int) else x) (by split <;> omega) (by split <;> omega)
  rw [show y + (d + 1) = y + 1 + d by omega]
  exact this
set_option maxHeartbeats 8000000 in
set_option maxRecDepth 100000 in
theorem choose_calls (kd gf N : Nat) (S0 : List Int) (kk : Int) (BS : List Bool) (LS : List (List Int)) (hN : BS.length = N) (hN7 : N ≤ 128) (hN1 : 1 ≤ N) : ∀ (m : Nat) (st : List Int) (A : Option Addr) (c : Nat) (w : World) (r : Option (List Int)), st.length = N → IsS96 w w gf S0 kk BS LS → Kd.C (Kd.int .i8) w A st.length st → st.length ≤ c →
  chF kd S0 kk BS LS m st = some r → Calls Tryd.prog 67 #[.pointer (some ⟨gf, 0, none⟩), .slice A N c] w fun e w' => ∃ v, e = .returned v ∧ Chosen N w' v r ∧ Below w.heap.size w w' := by
 intro m
 induction m with
 | zero => intro st A c w r _ _ _ _ h; cases h
 | succ m ih =>
  intro st A c w r hst hI hC hc h
  simp only [chF] at h
  rw [hN] at h
  have IH := Aside0.mk ih
  have HI := Aside0.mk hI
  have HC := Aside0.mk hC
  have HST := Aside0.mk hst
  obtain ⟨A0, c0, A2, c2, A3, c3, hblk, _, hr0, hr2, hr3⟩ := id hI
  obtain ⟨ad, eA, _⟩ := Kd.at_int hC 0 (by omega) (by omega)
  subst eA
  obtain ⟨ad2, eA2, _⟩ := Kd.at_bool hr2 0 (by omega) (by omega)
  subst eA2
  have HR2 := Aside0.mk hr2
  have HBLK := Aside0.mk hblk
  obtain ⟨X, hX⟩ : ∃ X, pk BS st N 0 (-1) = X := ⟨_, rfl⟩
  rw [hX] at h
  have HX := Aside0.mk hX
  have HH := Aside0.mk h
  have HBN := Aside0.mk hN
  have hfc2 : w.cell? ⟨gf, 2, none⟩ = some (.slice (some ad2) N c2) := by
   have := (blk_cell hblk 2).trans rfl
   rw [← hN]; exact this
  clear ih hI hC hst hr0 hr2 hr3 hblk hX h hN
  go_enter Tryd.func67, Tryd.ntmps67
  go_wp2
  go_loopg [5, 17] N (fun kq v5 v17 w' => ∃ (y : Nat) (x : Int), v5 = .int .i64 x ∧ v17 = .int .i64 (y : Int) ∧ y + kq = N ∧ Aside0 (pk BS st kq y x = X) ∧ Aside0 (-1 ≤ x ∧ x < (N : Int)) ∧ ∃ n, w' = w.drewN n)
  case atStart => exact ⟨0, -1, rfl, rfl, by omega, HX, ⟨by omega, by omega⟩, 0, rfl⟩
  case round =>
   clear HX
   obtain ⟨y, x, rfl, rfl, hy, HX, HXB, n0, rfl⟩ := hrel
   by_cases hyn : y < N
   ·have hj1 : ((y : Int) < (N : Int)) = True := eq_true (by omega)
    have hj2 : decide ((y : Int) < (N : Int)) = true := decide_eq_true (by omega)
    cases gk with
    | zero => omega
    | succ gy =>
    have hx1 := HX.out
    simp only [pk] at hx1
    obtain ⟨ad2', e2, hsc⟩ := Kd.at_bool HR2.out (y : Int) (by omega) (by rw [HBN.out]; omega)
    injection e2 with e2
    subst e2
    obtain ⟨ad', e3, hst⟩ := Kd.at_int HC.out (y : Int) (by omega) (by rw [HST.out]; omega)
    injection e3 with e3
    subst e3
    rw [Int.toNat_natCast] at hsc hst
    rw [rdOfB' BS y] at hsc
    generalize BS.getD y false = sB at *
    generalize rd st (y : Int) = sv at *
    clear HX
    cases sB
    ·have HX1 := Aside0.mk hx1
     clear hx1
     go_wp2
     go_roundg gy
     case measure => omega
     case rel => exact ⟨y + 1, x, rfl, by go_num, by omega, ⟨by simpa using HX1.out⟩, ⟨HXB.out.1, HXB.out.2⟩, _, rfl⟩
    ·by_cases hs0 : sv = 0
     ·have hs1 : (sv == 0) = true := beq_iff_eq.mpr hs0
      rw [hs1] at hx1
      clear hs0
      by_cases hx0 : x < 0
      ·have hx2 : decide (x < 0) = true := decide_eq_true hx0
       rw [hx2] at hx1
       have HX1 := Aside0.mk hx1
       clear hx1 hx0
       go_wp2
       go_roundg gy
       case measure => omega
       case rel => exact ⟨y + 1, (y : Int), rfl, by go_num, by omega, ⟨by simpa using HX1.out⟩, ⟨by omega, by omega⟩, _, rfl⟩
      ·have hx2 : decide (x < 0) = false := decide_eq_false hx0
       rw [hx2] at hx1
       obtain ⟨xn, rfl⟩ := Int.eq_ofNat_of_zero_le (show 0 ≤ x by omega)
       have hxb := HXB.out.2
       rw [Int.toNat_natCast] at hx1
       have HCY := Aside0.mk (count_eq y (by omega))
       have HCX := Aside0.mk (count_eq xn (by omega))
       generalize pc y 9 = py at *
       generalize pc xn 9 = px at *
       clear hx0
       by_cases hlt : py < px
       ·have hl1 : decide (py < px) = true := decide_eq_true hlt
        have hl2 : decide ((py : Int) < (px : Int)) = true := decide_eq_true (by omega)
        rw [hl1] at hx1
        have HX1 := Aside0.mk hx1
        clear hx1 hlt
        go_wp2_with (go_at_call 63; (first | (with_reducible refine (sweep_count.calls (y : Int) _ _ HCY.out).mono ?_) | (with_reducible refine (sweep_count.calls (xn : Int) _ _ HCX.out).mono ?_)); rintro e w' ⟨rfl, m1, rfl⟩)
        go_roundg gy
        case measure => omega
        case rel => exact ⟨y + 1, (y : Int), rfl, by go_num, by omega, ⟨by simpa using HX1.out⟩, ⟨by omega, by omega⟩, _, rfl⟩
       ·have hl1 : decide (py < px) = false := decide_eq_false hlt
        have hl2 : decide ((py : Int) < (px : Int)) = false := decide_eq_false (by omega)
        rw [hl1] at hx1
        have HX1 := Aside0.mk hx1
        clear hx1 hlt
        go_wp2_with (go_at_call 63; (first | (with_reducible refine (sweep_count.calls (y : Int) _ _ HCY.out).mono ?_) | (with_reducible refine (sweep_count.calls (xn : Int) _ _ HCX.out).mono ?_)); rintro e w' ⟨rfl, m1, rfl⟩)
        go_roundg gy
        case measure => omega
        case rel => exact ⟨y + 1, (xn : Int), rfl, by go_num, by omega, ⟨by simpa using HX1.out⟩, ⟨by omega, hxb⟩, _, rfl⟩
     ·have hs1 : (sv == 0) = false := beq_eq_false_iff_ne.mpr hs0
      rw [hs1] at hx1
      have HX1 := Aside0.mk hx1
      clear hx1 hs0
      go_wp2
      go_roundg gy
      case measure => omega
      case rel => exact ⟨y + 1, x, rfl, by go_num, by omega, ⟨by simpa using HX1.out⟩, ⟨HXB.out.1, HXB.out.2⟩, _, rfl⟩
   ·have hj1 : ((y : Int) < (N : Int)) = False := eq_false (by omega)
    have hj2 : decide ((y : Int) < (N : Int)) = false := decide_eq_false (by omega)
    obtain rfl : gk = 0 := by omega
    obtain rfl : x = X := HX.out
    clear HX
    have hxb := HXB.out.2
    by_cases hx0 : x < 0
    ·have hx2 : decide (x < 0) = true := decide_eq_true hx0
     have hh := HH.out
     rw [if_pos hx0] at hh
     have hr := Option.some.inj hh
     have HRR := Aside0.mk hr
     clear hh hr hx0
     go_wp2
     go_ret
     refine ⟨_, rfl, ?_, pw_below_drewN (Below.refl _ _) n0⟩
     rw [← HRR.out]
     exact ⟨HST.out, ad, c, rfl, by have := HST.out; omega, HC.out⟩
    ·have hx2 : decide (x < 0) = false := decide_eq_false hx0
     have hh := HH.out
     rw [if_neg hx0] at hh
     have HT : Aside0 (tailC (tryC kd S0 kk BS LS (chF kd S0 kk BS LS m) st x) (csFrom 0) = some r) := ⟨hh⟩
     clear hh HH hx0 hfc2
     go_wp2
     have HB2 : Aside0 (Below w.heap.size w ((w.drewN n0).alloc (.cells #[.int .i8 1, .int .i8 2] 107))) := ⟨below_alloc (pw_below_drewN (Below.refl _ _) n0) _⟩
     have HK2 : Aside0 (((w.drewN n0).alloc (.cells #[.int .i8 1, .int .i8 2] 107)).heap[w.heap.size]? = some (.cells #[.int .i8 1, .int .i8 2] 107 (0, 0))) := ⟨heap_alloc_new (w.drewN n0) _⟩
     go_loopg [48] 2 (fun kq v48 w' => ∃ (j : Nat), v48 = .int .i64 (j : Int) ∧ j + kq = 2 ∧ Aside0 (tailC (tryC kd S0 kk BS LS (chF kd S0 kk BS LS m) st x) (csFrom j) = some r) ∧ Aside0 (w'.heap[w.heap.size]? = some (.cells #[.int .i8 1, .int .i8 2] 107 (0, 0))) ∧ Aside0 (Below w.heap.size w w'))
     case atStart => exact ⟨0, rfl, by omega, HT, HK2, HB2⟩
     case round =>
      clear HT HB2 HK2
      obtain ⟨j, rfl, hj, HT, HK, HB⟩ := hrel
      by_cases hj2 : j < 2
      ·have hk1 : ((j : Int) < 2) = True := eq_true (by omega)
       have hk2 : decide ((j : Int) < 2) = true := decide_eq_true (by omega)
       cases gk with
       | zero => omega
       | succ gj =>
       have ht := HT.out
       rw [csFrom_succ j hj2] at ht
       have hcl : wr.cell? ⟨w.heap.size, j, none⟩ = some (.int .i8 (if j = 0 then (1 : Int) else 2)) := by
        rw [blk_cell HK.out j]
        match j, hj2 with
        | 0, _ => rfl
        | 1, _ => rfl
       generalize (if j = 0 then (1 : Int) else 2) = cv at *
       simp only [tailC] at ht
       obtain ⟨o, ho, ht⟩ := Option.bind_eq_some_iff.mp ht
       unfold tryC at ho
       obtain ⟨⟨ok, r2, st1⟩, hde, ho⟩ := Option.bind_eq_some_iff.mp ho
       dsimp only at ho
       have HT1 := Aside0.mk ht
       have HO := Aside0.mk ho
       have HDE := Aside0.mk hde
       have hIr := Aside0.mk (HI.out.raise HB.out)
       have hCr := Aside0.mk (Kd.C_below HC.out HB.out)
       have hcho : sweep_choice.f st = some st := by
        unfold sweep_choice.f
        simp only [Option.bind_some, List.length_nil, List.nil_append]
        rw [if_pos (by have := HST.out; omega)]
       have HCL := Aside0.mk (sweep_choice.calls (some ad) c st st wr hCr.out hc hcho)
       rw [HST.out] at HCL
       clear ht ho hde hcho HT
       cases ok
       ·have ht := HT1.out
        have ho := HO.out
        rw [if_neg Bool.false_ne_true] at ho
        cases ho
        have HT2 : Aside0 (tailC (tryC kd S0 kk BS LS (chF kd S0 kk BS LS m) st x) (csFrom (j + 1)) = some r) := ⟨ht⟩
        clear ht HT1 HO
        go_wp2_with (first
         | (go_at_call 81; (with_reducible refine HCL.out.mono ?_); rintro e w1 ⟨u, rfl, hu, hb1⟩; obtain ⟨A1, c1, eu, hc1, hC1⟩ := Kd.R_reads hu; rw [HST.out] at eu hc1; subst eu; have HU := Aside0.mk hu; have HB1 := Aside0.mk hb1; have HCC1 := Aside0.mk hc1; clear hu hb1 hc1 hC1)
         | (go_at_call 82; (with_reducible refine (sweep_family_decide.calls kd gf S0 kk BS LS (fun _ => True) (.slice A1 N c1) st x cv false r2 st1 wr _ ?hI ?hB ?ho1 HDE.out).mono ?_); (case hI => exact (hIr.out.below HB1.out)); (case hB => exact HB1.out); (case ho1 => exact HU.out); rintro e w2 ⟨rfl, _, hu2, hb2, _⟩; obtain ⟨hl2, _, hC2⟩ := Kd.R_reads' hu2; have HC2 := Aside0.mk hC2; have HL2 := Aside0.mk hl2; have HB2 := Aside0.mk hb2; clear hu2 hb2 hC2 hl2))
        go_roundg gj
        case measure => omega
        case rel => exact ⟨j + 1, by go_num, by omega, HT2, ⟨blk_below HK.out HB2.out⟩, ⟨below_step HB.out HB2.out⟩⟩
       ·have ht := HT1.out
        have ho := HO.out
        rw [if_pos rfl] at ho
        have hnil := fun (a : Option Addr) (l c : Nat) (W : World) => run_neq_slice_nil_any (P := Tryd.prog) W 104 107 a l c 0 0 Tryd.underlying104
        cases o with
        | none =>
         have HO1 := Aside0.mk ho
         have HT2 : Aside0 (tailC (tryC kd S0 kk BS LS (chF kd S0 kk BS LS m) st x) (csFrom (j + 1)) = some r) := ⟨ht⟩
         clear ht HO ho HT1
         go_wp2_with (first
          | (go_at_call 81; (with_reducible refine HCL.out.mono ?_); rintro e w1 ⟨u, rfl, hu, hb1⟩; obtain ⟨A1, c1, eu, hc1, hC1⟩ := Kd.R_reads hu; rw [HST.out] at eu hc1; subst eu; have HU := Aside0.mk hu; have HB1 := Aside0.mk hb1; have HCC1 := Aside0.mk hc1; clear hu hb1 hc1 hC1)
          | (go_at_call 82; (with_reducible refine (sweep_family_decide.calls kd gf S0 kk BS LS (fun _ => True) (.slice A1 N c1) st x cv true r2 st1 wr _ ?hI ?hB ?ho1 HDE.out).mono ?_); (case hI => exact (hIr.out.below HB1.out)); (case hB => exact HB1.out); (case ho1 => exact HU.out); rintro e w2 ⟨rfl, _, hu2, hb2, _⟩; obtain ⟨hl2, _, hC2⟩ := Kd.R_reads' hu2; have HC2 := Aside0.mk hC2; have HL2 := Aside0.mk hl2; have HB2 := Aside0.mk hb2; clear hu2 hb2 hC2 hl2)
          | (go_at_call 67; refine (IH.out st1 A1 c1 _ none ?s1 ?s2 ?s3 ?s4 HO1.out).mono ?_; (case s1 => exact HL2.out.symm); (case s2 => exact hIr.out.raise HB2.out); (case s3 => exact HC2.out); (case s4 => (have := HL2.out; have := HCC1.out; omega)); rintro e w3 ⟨v, rfl, hv, hb3⟩; have hv2 : v = .slice none 0 0 := hv; subst hv2; have HB3 := Aside0.mk (below_step HB2.out hb3); clear hb3 hv))
         go_roundg gj
         case measure => omega
         case rel => exact ⟨j + 1, by go_num, by omega, HT2, ⟨blk_below HK.out HB3.out⟩, ⟨below_step HB.out HB3.out⟩⟩
        | some dd =>
         have hr := Option.some.inj ht
         subst hr
         have HO1 := Aside0.mk ho
         clear ht HO ho HT1
         go_wp2_with (first
          | (go_at_call 81; (with_reducible refine HCL.out.mono ?_); rintro e w1 ⟨u, rfl, hu, hb1⟩; obtain ⟨A1, c1, eu, hc1, hC1⟩ := Kd.R_reads hu; rw [HST.out] at eu hc1; subst eu; have HU := Aside0.mk hu; have HB1 := Aside0.mk hb1; have HCC1 := Aside0.mk hc1; clear hu hb1 hc1 hC1)
          | (go_at_call 82; (with_reducible refine (sweep_family_decide.calls kd gf S0 kk BS LS (fun _ => True) (.slice A1 N c1) st x cv true r2 st1 wr _ ?hI ?hB ?ho1 HDE.out).mono ?_); (case hI => exact (hIr.out.below HB1.out)); (case hB => exact HB1.out); (case ho1 => exact HU.out); rintro e w2 ⟨rfl, _, hu2, hb2, _⟩; obtain ⟨hl2, _, hC2⟩ := Kd.R_reads' hu2; have HC2 := Aside0.mk hC2; have HL2 := Aside0.mk hl2; have HB2 := Aside0.mk hb2; clear hu2 hb2 hC2 hl2)
          | (go_at_call 67; refine (IH.out st1 A1 c1 _ (some dd) ?s1 ?s2 ?s3 ?s4 HO1.out).mono ?_; (case s1 => exact HL2.out.symm); (case s2 => exact hIr.out.raise HB2.out); (case s3 => exact HC2.out); (case s4 => (have := HL2.out; have := HCC1.out; omega)); rintro e w3 ⟨v, rfl, hv, hb3⟩; obtain ⟨hd1, A4, c4, rfl, hc4, hC4⟩ := hv; have HD1 := Aside0.mk hd1; have HCC4 := Aside0.mk hc4; have HC4 := Aside0.mk hC4; have HB3 := Aside0.mk (below_step HB2.out hb3); clear hb3 hd1 hc4 hC4))
         go_ret
         exact ⟨_, rfl, ⟨HD1.out, A4, c4, rfl, HCC4.out, HC4.out⟩, below_step HB.out HB3.out⟩
      ·have hk1 : ((j : Int) < 2) = False := eq_false (by omega)
       have hk2 : decide ((j : Int) < 2) = false := decide_eq_false (by omega)
       obtain rfl : gk = 0 := by omega
       obtain rfl : j = 2 := by omega
       have ht := HT.out
       have hr : (none : Option (List Int)) = r := Option.some.inj ht
       subst hr
       clear ht HT
       go_wp2
       go_ret
       exact ⟨_, rfl, rfl, HB.out⟩
end Go.Proofs.YtijfddobandcdaaDoor.X
end
section
/- sweep.CheckBlockage, by hand. -/
namespace Go.Proofs.YtijfddobandcdaaDoor.X
open Go.RowKit YtijfddobandcdaaDoorW.PrintWords YtijfddobandcdaaDoorW.PrintLast YtijfddobandcdaaDoorW.PrintMore YtijfddobandcdaaDoor.T
attribute [local go_sem] max2_int min2_int max_two min_two max_three min_three max_four min_four
theorem read_yes {G : List Nat} (hG : Gr 7 G) (A0 : Option Addr) (c0 : Nat) (w : World) (hr0 : Kd.C (Kd.int .i64) w A0 (gi G).length (gi G)) (hc0 : G.length ≤ c0) :
  Calls Tryd.prog 49 #[.slice A0 G.length c0] w fun e w' => ∃ A1 c1, e = .returned (.tuple #[.slice A1 G.length c1, .bool true]) ∧ G.length ≤ c1 ∧ Kd.C (Kd.int .i64) w' A1 (gi G).length (gi G) ∧ Below w.heap.size w w' := by
 obtain ⟨K, hK⟩ := read_ev (gi G) (by rw [gi_length]; have := hG.most; omega)
 have hk := hK K (Nat.le_refl _)
 rw [(chk_iff 7 (by omega) _).2 ⟨G, rfl, hG⟩] at hk
 have hl := gi_length G
 have := sweep_read.calls K (fun k_ => k_ < w.heap.size) A0 c0 (gi G) (gi G) true w (Kd.V_mk (by rw [hl]; exact hc0) (Kd.F_below (Kd.C_F (Kd.heap_int .i64) hr0) (Below.refl _ _))) hk
 rw [hl] at this
 refine this.mono ?_
 rintro e w' ⟨v, rfl, hv, hb⟩
 obtain ⟨A1, c1, rfl⟩ := Kd.V_slice hv
 have h2 := Kd.V_reads' hv
 rw [hl] at *
 exact ⟨A1, c1, rfl, h2.2.1, h2.2.2, hb⟩
theorem read_no {g : List Int} (hl : g.length < 2 ^ 60) (hg : chk 7 g = false) (A0 : Option Addr) (c0 : Nat) (w : World) (hr0 : Kd.C (Kd.int .i64) w A0 g.length g) (hc0 : g.length ≤ c0) :
  Calls Tryd.prog 49 #[.slice A0 g.length c0] w fun e w' => ∃ v, e = .returned (.tuple #[v, .bool false]) ∧ Below w.heap.size w w' := by
 obtain ⟨K, hK⟩ := read_ev g hl
 have hk := hK K (Nat.le_refl _)
 rw [hg] at hk
 refine (sweep_read.calls K (fun k_ => k_ < w.heap.size) A0 c0 g [] false w (Kd.V_mk hc0 (Kd.F_below (Kd.C_F (Kd.heap_int .i64) hr0) (Below.refl _ _))) hk).mono ?_
 rintro e w' ⟨v, rfl, hv, hb⟩
 exact ⟨v, rfl, hb⟩
def HRow (W : World) (g : Nat) (C : List Bool) : Prop := W.heap[g]? = some (.cells (C.map Value.bool).toArray 4 (0, 0))
theorem HRow.lt {W : World} {g : Nat} {C : List Bool} (h : HRow W g C) : g < W.heap.size := (Array.getElem?_eq_some_iff.1 h).1
theorem HRow.cell {W : World} {g : Nat} {C : List Bool} (h : HRow W g C) (i : Nat) (hi : i < C.length) : W.cell? ⟨g, i, none⟩ = some (.bool (C.getD i false)) := by
 unfold World.cell?
 rw [show W.heap[(⟨g, i, none⟩ : Addr).block]? = _ from h]
 simp only [Option.isSome_none, Bool.false_eq_true, if_false]
 simp [List.getElem?_eq_getElem hi]
theorem HRow.frozen {W : World} {g : Nat} {C : List Bool} (h : HRow W g C) (i : Nat) : W.frozen? ⟨g, i, none⟩ = false := by
 unfold World.frozen?
 rw [show W.heap[(⟨g, i, none⟩ : Addr).block]? = _ from h]
 simp
theorem HRow.below {W V : World} {g : Nat} {C : List Bool} (h : HRow W g C) (hb : Below W.heap.size W V) : HRow V g C := (hb.block g h.lt).trans h
theorem HRow.set {W : World} {g : Nat} {C : List Bool} (h : HRow W g C) (i : Nat) (v : Bool) : HRow (W.setCell ⟨g, i, none⟩ (.bool v)) g (C.set i v) := by
 obtain ⟨hlt, hk⟩ := Array.getElem?_eq_some_iff.1 h
 show (W.heap.modify g _)[g]? = _
 rw [Array.getElem?_eq_getElem (by rw [Array.size_modify]; exact hlt), Array.getElem_modify_self, hk]
 simp [List.map_set]
theorem HRow.made (W : World) (n : Nat) : HRow (W.alloc (.cells (madeCells #[Value.bool false] n) 4)) W.heap.size (List.replicate n false) := by
 have := heap_alloc_new W (.cells (madeCells #[Value.bool false] n) 4)
 unfold HRow
 rw [this]
 congr 2
 unfold madeCells
 apply Array.ext
 ·simp
 ·intro i h1 h2
  simp [Nat.mod_one]
theorem smTo_len (G : List Nat) (k : Nat) : ∀ d x, (smTo G k d x).length = d
 | 0, _ => rfl
 | d + 1, x => by rw [smTo, List.length_cons, smTo_len G k d]
theorem otTo_len (G : List Nat) (k : Nat) : ∀ d x, (otTo G k d x).length = d
 | 0, _ => rfl
 | d + 1, x => by rw [otTo, List.length_cons, otTo_len G k d]
theorem smTo_get (G : List Nat) (k : Nat) (d : Nat) : ∀ x i, i < d → (smTo G k d x).getD i false = decide (pc (bo G (x + i)) 9 ≤ k) := by
 induction d with
 | zero => intro x i h; omega
 | succ d ih =>
  intro x i h
  cases i with
  | zero => rw [smTo, List.getD_cons_zero, Nat.add_zero]
  | succ i => rw [smTo, List.getD_cons_succ, ih (x + 1) i (by omega), show x + 1 + i = x + (i + 1) by omega]
theorem otTo_get (G : List Nat) (k : Nat) (d : Nat) : ∀ x i, i < d → (otTo G k d x).getD i [] = othTo G k (x + i) (2 ^ G.length) 0 := by
 induction d with
 | zero => intro x i h; omega
 | succ d ih =>
  intro x i h
  cases i with
  | zero => rw [otTo, List.getD_cons_zero, Nat.add_zero]
  | succ i => rw [otTo, List.getD_cons_succ, ih (x + 1) i (by omega), show x + 1 + i = x + (i + 1) by omega]
theorem FamI.small_at {w W : World} {gf H : Nat} {A0 : Option Addr} {c0 n k : Nat} {v2 v3 : Value} {bs : List Bool} {Ls : List (List Int)} (h : FamI w W gf H A0 c0 n k v2 v3 bs Ls) (hp : 0 < bs.length) : ∃ g2 c2, v2 = .slice (some ⟨g2, 0, none⟩) bs.length c2 ∧ ∀ y, y < bs.length → W.cell? ⟨g2, y, none⟩ = some (.bool (bs.getD y false)) := by
 obtain ⟨m, hm⟩ : ∃ m, bs.length = m + 1 := ⟨bs.length - 1, by omega⟩
 have ho := h.own2
 rw [hm] at ho
 obtain ⟨g2, c2, rfl⟩ := ownsRow_succ ho
 refine ⟨g2, c2, by rw [hm], fun y hy => ?_⟩
 have := ownsRow_cells ho y (.bool (bs.getD y false)) (by
  rw [List.getElem?_map, List.getElem?_eq_getElem hy, List.getD_eq_getElem?_getD, List.getElem?_eq_getElem hy]; rfl)
 rwa [Addr.add_lit, Nat.zero_add] at this
theorem FamI.other_at {w W : World} {gf H : Nat} {A0 : Option Addr} {c0 n k : Nat} {v2 v3 : Value} {bs : List Bool} {Ls : List (List Int)} (h : FamI w W gf H A0 c0 n k v2 v3 bs Ls) (hp : 0 < Ls.length) : ∃ g3 c3, v3 = .slice (some ⟨g3, 0, none⟩) Ls.length c3 ∧ ∀ x, x < Ls.length → ∃ A c, W.cell? ⟨g3, x, none⟩ = some (.slice A (Ls.getD x []).length c) ∧ ∀ i, i < (Ls.getD x []).length → ∃ ad, A = some ad ∧ W.cell? (ad.add i) = some (.int .i64 (rd (Ls.getD x []) (i : Int))) := by
 obtain ⟨rows, r1, r2, _⟩ := h.own3
 obtain ⟨m, hm⟩ : ∃ m, Ls.length = m + 1 := ⟨Ls.length - 1, by omega⟩
 rw [hm] at r1
 obtain ⟨g3, c3, rfl⟩ := ownsRow_succ r1
 refine ⟨g3, c3, by rw [hm], fun x hx => ?_⟩
 have hg : Ls[x]? = some (Ls.getD x []) := by rw [List.getD_eq_getElem?_getD, List.getElem?_eq_getElem hx]; rfl
 obtain ⟨v, q1, q2⟩ := r2.2 x _ hg
 obtain ⟨A, c, rfl⟩ := ownsRow_form q2
 have := ownsRow_cells r1 x _ q1
 rw [Addr.add_lit, Nat.zero_add] at this
 exact ⟨A, c, this, fun i hi => (ownsRow_reads q2).2.2 i hi⟩
theorem othTo_mem (G : List Nat) (k x : Nat) : ∀ (d y : Nat) (z : Int), z ∈ othTo G k x d y → ∃ n : Nat, z = (n : Int) ∧ n < y + d
 | 0, _, z, h => by simp [othTo] at h
 | d + 1, y, z, h => by
  simp only [othTo] at h
  split at h
  ·rcases List.mem_cons.1 h with e | e
   ·exact ⟨y, e, by omega⟩
   ·obtain ⟨n, h1, h2⟩ := othTo_mem G k x d (y + 1) z e
    exact ⟨n, h1, by omega⟩
  ·obtain ⟨n, h1, h2⟩ := othTo_mem G k x d (y + 1) z h
   exact ⟨n, h1, by omega⟩
theorem othTo_at (G : List Nat) (k x N i : Nat) (h : i < (othTo G k x N 0).length) : ∃ n : Nat, rd (othTo G k x N 0) (i : Int) = (n : Int) ∧ n < N := by
 have hm : rd (othTo G k x N 0) (i : Int) ∈ othTo G k x N 0 := by
  unfold rd
  rw [Int.toNat_natCast, List.getD_eq_getElem?_getD, List.getElem?_eq_getElem h]
  exact List.getElem_mem h
 obtain ⟨n, h1, h2⟩ := othTo_mem G k x N 0 _ hm
 exact ⟨n, h1, by omega⟩
def cb1 (G : List Nat) (k : Nat) (l : List Int) : Nat → Nat → List Bool → Option (List Bool)
 | 0, _, H => some H
 | d + 1, i, H => if rd l (i : Int) < 0 then none else if ((2 ^ G.length - 1 : Nat) : Int) < rd l (i : Int) then none else if pc (bo G (rd l (i : Int)).toNat) 9 ≤ k then (if 0 < i ∧ rd l (i : Int) ≤ rd l ((i - 1 : Nat) : Int) then none else cb1 G k l d (i + 1) (H.set (rd l (i : Int)).toNat true)) else none
def cb2a (G : List Nat) (k : Nat) (H : List Bool) (x : Nat) : Nat → Nat → Bool
 | 0, _ => true
 | d + 1, y => !(H.getD x false && decide (pc (bo G y) 9 ≤ k) && (diff y x == 0) && !H.getD y false) && cb2a G k H x d (y + 1)
def cb2b (H : List Bool) (x : Nat) : List Int → Bool
 | [] => true
 | y :: L => !(H.getD x false == H.getD y.toNat false) && cb2b H x L
def cb2 (G : List Nat) (k : Nat) (H : List Bool) : Nat → Nat → Bool
 | 0, _ => true
 | d + 1, x => (cb2a G k H x (2 ^ G.length) 0 && cb2b H x (othTo G k x (2 ^ G.length) 0)) && cb2 G k H d (x + 1)
def cbE (G : List Nat) (k : Nat) : Option (List Bool) → Bool × Int
 | none => (false, 0)
 | some H => (cb2 G k H (2 ^ G.length) 0, 0)
def cbR (G : List Nat) (k : Nat) (l : List Int) : Bool × Int := cbE G k (cb1 G k l l.length 0 (List.replicate (2 ^ G.length) false))
def sweep_CheckBlockage.f (g : List Int) (a : Int) (l : List Int) : Option (Bool × Int) := if g.length < 2 ^ 60 ∧ l.length ≤ 1000 then (if chk 7 g = true then (if a < 0 then some (false, 2) else if 7 < a then some (false, 2) else some (cbR (g.map Int.toNat) a.toNat l)) else some (false, 2)) else none
set_option maxHeartbeats 8000000 in
set_option maxRecDepth 100000 in
theorem sweep_CheckBlockage.calls (A0 : Option Addr) (c0 : Nat) (l0 : List Int) (a1 : Int) (A2 : Option Addr) (c2 : Nat) (l2 : List Int) (r1 : Bool) (r2 : Int) (w : World) (hGL : GL w) (hr0 : Kd.C (Kd.int .i64) w A0 l0.length l0) (hc0 : l0.length ≤ c0) (hr2 : Kd.C (Kd.int .i64) w A2 l2.length l2) (hc2 : l2.length ≤ c2) (h : sweep_CheckBlockage.f l0 a1 l2 = some (r1, r2)) :
  Calls Tryd.prog 34 #[.slice A0 l0.length c0, .int .i64 a1, .slice A2 l2.length c2] w fun e w' => e = .returned (.tuple #[.bool r1, .int .i64 r2]) ∧ Below w.heap.size w w' := by
 unfold sweep_CheckBlockage.f at h
 by_cases hlen0 : l0.length < 2 ^ 60 ∧ l2.length ≤ 1000
 ·rw [if_pos hlen0] at h
  have hlen := hlen0.1
  have hl2m := hlen0.2
  clear hlen0
  by_cases hchk : chk 7 l0 = true
  ·rw [if_pos hchk] at h
   obtain ⟨G, rfl, hG⟩ := (chk_iff 7 (by omega) _).1 hchk
   rw [gi_toNat] at h
   have hn := hG.most
   rw [gi_length] at hc0
   have HRD := Aside0.mk (read_yes hG A0 c0 w hr0 hc0)
   rw [gi_length]
   clear hr0 hc0 hlen hchk
   by_cases ha0 : a1 < 0
   ·rw [if_pos ha0] at h
    injection h with h
    injection h with h1 h2
    subst h1 h2
    have hd1 : decide (a1 < 0) = true := decide_eq_true ha0
    go_enter Tryd.func34, Tryd.ntmps34
    go_wp2_with (go_at_call 49; refine HRD.out.mono ?_; rintro e w1 ⟨A1, c1, rfl, hc1, hC1, hb1⟩)
    go_ret2
    exact ⟨rfl, hb1⟩
   ·rw [if_neg ha0] at h
    have hd1 : decide (a1 < 0) = false := decide_eq_false ha0
    by_cases ha7 : 7 < a1
    ·rw [if_pos ha7] at h
     injection h with h
     injection h with h1 h2
     subst h1 h2
     have hd2 : decide (a1 > 7) = true := decide_eq_true ha7
     go_enter Tryd.func34, Tryd.ntmps34
     go_wp2_with (go_at_call 49; refine HRD.out.mono ?_; rintro e w1 ⟨A1, c1, rfl, hc1, hC1, hb1⟩)
     go_ret2
     exact ⟨rfl, hb1⟩
    ·rw [if_neg ha7] at h
     have hd2 : decide (a1 > 7) = false := decide_eq_false ha7
     obtain ⟨k, rfl⟩ := Int.eq_ofNat_of_zero_le (show 0 ≤ a1 by omega)
     have hk : k ≤ 7 := by omega
     rw [Int.toNat_natCast] at h
     have HF := Aside0.mk (Option.some.inj h)
     clear h ha0 ha7
     have HN7 := Aside0.mk (p7 hn)
     have HG := Aside0.mk hG
     have HGL := Aside0.mk hGL
     have HR2 := Aside0.mk hr2
     have HALL := Aside0.mk (all_f hG)
     have HL := Aside0.mk (gi_length G)
     obtain ⟨i4, hi4, hp0, hp1, hp2⟩ := info_parts info4
     obtain ⟨N, hN⟩ : ∃ N, 2 ^ G.length = N := ⟨_, rfl⟩
     have hN7 : N ≤ 128 := by rw [← hN]; exact HN7.out
     have hN1 : 1 ≤ N := by rw [← hN]; exact Nat.two_pow_pos _
     have hmk : ∀ W : World, (Instr.makeSlice 93 (.int .i64 (N : Int)) (.int .i64 (N : Int))).run Tryd.prog W = .ok (.slice (some ⟨W.heap.size, 0, none⟩) N N) (W.alloc (.cells (madeCells #[.bool false] N) 4)) := fun W => by
      have := run_make (P := Tryd.prog) W 93 4 i4 (.bool false) Tryd.underlying93 hi4 hp0 .i64 .i64 (N : Int) (N : Int) (by omega) (by omega) (by rw [hp2]; omega) (by omega)
      rw [hp1] at this
      simpa [Value.cells] using this
     obtain ⟨J, ⟨hS1, hS2, hS3⟩, hS4⟩ := shJ G.length (by omega)
     rw [hN] at hS4
     have HN := Aside0.mk hN
     have hmake : ∀ W : World, (Instr.makeSlice 93 (.int .i64 (wrap64 (2 ^ G.length))) (.int .i64 (wrap64 (2 ^ G.length)))).run Tryd.prog W = .ok (.slice (some ⟨W.heap.size, 0, none⟩) N N) (W.alloc (.cells (madeCells #[.bool false] N) 4)) := by rw [hS1, hS4]; exact hmk
     clear hG hGL hr2 hS1 hS2 hS3 hS4 hmk hi4 hp0 hp1 hp2
     obtain ⟨BS, hBS⟩ : ∃ b, smTo G k N 0 = b := ⟨_, rfl⟩
     obtain ⟨LS, hLS⟩ : ∃ b, otTo G k N 0 = b := ⟨_, rfl⟩
     have hbl : BS.length = N := by rw [← hBS]; exact smTo_len _ _ _ _
     have hll : LS.length = N := by rw [← hLS]; exact otTo_len _ _ _ _
     have HSG : Aside0 (∀ y, y < N → BS.getD y false = decide (pc (bo G y) 9 ≤ k)) := ⟨fun y hy => by rw [← hBS, smTo_get _ _ _ _ _ hy, Nat.zero_add]⟩
     have HOG : Aside0 (∀ x, x < N → LS.getD x [] = othTo G k x N 0) := ⟨fun y hy => by rw [← hLS, otTo_get _ _ _ _ _ hy, Nat.zero_add, hN]⟩
     have HBS := Aside0.mk hBS
     have HLS := Aside0.mk hLS
     have HBL := Aside0.mk hbl
     have HLL := Aside0.mk hll
     clear hBS hLS hbl hll
     obtain ⟨R1, hR1⟩ : ∃ r, cb1 G k l2 l2.length 0 (List.replicate N false) = r := ⟨_, rfl⟩
     have HRES : cbE G k R1 = (r1, r2) := by
      have := HF.out
      unfold cbR at this
      rwa [hN, hR1] at this
     have HR1 := Aside0.mk hR1
     have HNONE : Aside0 (R1 = none → r1 = false ∧ r2 = 0) := ⟨fun e => by
      rw [e] at HRES
      simp only [cbE, Prod.mk.injEq] at HRES
      exact ⟨HRES.1.symm, HRES.2.symm⟩⟩
     have HSOME : Aside0 (∀ C, R1 = some C → r1 = cb2 G k C N 0 ∧ r2 = 0) := ⟨fun C e => by
      rw [e] at HRES
      simp only [cbE, Prod.mk.injEq, hN] at HRES
      exact ⟨HRES.1.symm, HRES.2.symm⟩⟩
     clear hR1 HF hN HRES
     go_enter Tryd.func34, Tryd.ntmps34
     go_wp2_with (first
      | (go_at_call 49; refine HRD.out.mono ?_; rintro e w1 ⟨A1, c1, rfl, hc1, hC1, hb1⟩; have HFAM := Aside0.mk (family_calls A1 c1 G HG.out hc1 k hk w1 (GL_below HGL.out hb1) hC1); have HB1 := Aside0.mk hb1; have HC1 := Aside0.mk hC1; clear hb1 hC1)
      | (go_at_call 60; refine HFAM.out.mono ?_; rintro e w2 ⟨gf, H, v2, v3, rfl, hf⟩; rw [HN.out, HBS.out, HLS.out] at hf; have HF2 := Aside0.mk hf; clear hf))
     have hzH := HF2.out.top
     have hblw : w.heap.size ≤ w2.heap.size := Nat.le_trans HB1.out.size HF2.out.below.size
     have HF3 : Aside0 (FamI w1 (w2.alloc (.cells (madeCells #[.bool false] N) 4)) gf H A1 c1 G.length k v2 v3 BS LS) := ⟨HF2.out.kept (World.grownBy_alloc _ _ none) (fun r e => by cases e)⟩
     have HH3 : Aside0 (HRow (w2.alloc (.cells (madeCells #[.bool false] N) 4)) w2.heap.size (List.replicate N false)) := ⟨HRow.made w2 N⟩
     have HB3 : Aside0 (Below w.heap.size w (w2.alloc (.cells (madeCells #[.bool false] N) 4))) := ⟨below_alloc (below_then HB1.out HB1.out.size HF2.out.below) _⟩
     clear hmake
     go_loopg [43] l2.length (fun kq v43 w' => ∃ (i : Nat) (Hs : List Bool), v43 = .int .i64 (i : Int) ∧ i + kq = l2.length ∧ Aside0 (cb1 G k l2 kq i Hs = R1 ∧ Hs.length = N) ∧ Aside0 (FamI w1 w' gf H A1 c1 G.length k v2 v3 BS LS) ∧ Aside0 (HRow w' w2.heap.size Hs) ∧ Aside0 (Below w.heap.size w w'))
     case atStart => exact ⟨0, List.replicate N false, rfl, by omega, ⟨HR1.out, by simp⟩, HF3, HH3, HB3⟩
     case round =>
      clear HR1 HF3 HH3 HB3
      obtain ⟨i, Hs, rfl, hi, HY, HF, HH, HB⟩ := hrel
      by_cases hil : i < l2.length
      ·have hi1 : ((i : Int) < (l2.length : Int)) = True := eq_true (by omega)
       have hi2 : decide ((i : Int) < (l2.length : Int)) = true := decide_eq_true (by omega)
       cases gk with
       | zero => omega
       | succ gi' =>
       have hy1 := HY.out.1
       simp only [cb1] at hy1
       rw [HN.out] at hy1
       obtain ⟨adx, e0, hgx⟩ := Kd.at_int (Kd.C_below HR2.out HB.out) (i : Int) (by omega) (by omega)
       subst e0
       rw [Int.toNat_natCast] at hgx
       have hprev : 0 < i → wr.cell? (adx.add (i - 1)) = some (.int .i64 (rd l2 ((i - 1 : Nat) : Int))) := fun h0 => by
        obtain ⟨ad2, e2, hg2⟩ := Kd.at_int (Kd.C_below HR2.out HB.out) ((i - 1 : Nat) : Int) (by omega) (by omega)
        injection e2 with e2
        subst e2
        rwa [Int.toNat_natCast] at hg2
       have HPREV := Aside0.mk hprev
       obtain ⟨g2, cp2, hv2, hsm⟩ := HF.out.small_at (by rw [HBL.out]; omega)
       rw [HBL.out] at hv2 hsm
       have HSM := Aside0.mk hsm
       obtain ⟨x, hx⟩ : ∃ x, rd l2 (i : Int) = x := ⟨_, rfl⟩
       have HPX := Aside0.mk hx
       rw [hx] at hgx hy1
       have hfc := blk_cell HF.out.blk 2
       have hfc2 : wr.cell? ⟨gf, 2, none⟩ = some v2 := hfc.trans rfl
       have CAL : Aside0 (∀ W, Below w.heap.size w W → True) := ⟨fun _ _ => trivial⟩
       have HALLC := Aside0.mk (sweep_town_all.calls A1 c1 (gi G) ((N - 1 : Nat) : Int) wr (Kd.C_below HC1.out (HF.out.below)) (by rw [HL.out]; exact hc1) (by rw [← HN.out]; exact HALL.out))
       rw [HL.out] at HALLC
       have HY2 := Aside0.mk HY.out.2
       clear hfc hprev hsm CAL hx HY
       subst hv2
       by_cases hx0 : x < 0
       ·rw [if_pos hx0] at hy1
        have HY1 := Aside0.mk hy1
        have hd3 : decide (x < 0) = true := decide_eq_true hx0
        clear hy1
        go_wp2
        go_ret2
        obtain ⟨rfl, rfl⟩ := HNONE.out HY1.out.symm
        exact ⟨rfl, HB.out⟩
       ·rw [if_neg hx0] at hy1
        have hd3 : decide (x < 0) = false := decide_eq_false hx0
        by_cases hxN : ((N - 1 : Nat) : Int) < x
        ·rw [if_pos hxN] at hy1
         have HY1 := Aside0.mk hy1
         have hd4 : decide (x > ((N - 1 : Nat) : Int)) = true := decide_eq_true hxN
         generalize ((N - 1 : Nat) : Int) = P at *
         clear hy1
         go_wp2_with (go_at_call 61; refine HALLC.out.mono ?_; rintro e w' ⟨rfl, m, rfl⟩)
         go_ret2
         obtain ⟨rfl, rfl⟩ := HNONE.out HY1.out.symm
         exact ⟨rfl, pw_below_drewN HB.out _⟩
        ·rw [if_neg hxN] at hy1
         have hd4 : decide (x > ((N - 1 : Nat) : Int)) = false := decide_eq_false hxN
         obtain ⟨xn, rfl⟩ := Int.eq_ofNat_of_zero_le (show 0 ≤ x by omega)
         have hxn : xn < N := by omega
         rw [Int.toNat_natCast] at hy1
         have hsc := HSM.out xn hxn
         rw [HSG.out xn hxn] at hsc
         have hhc := HH.out.frozen xn
         have hhc2 := HH.out.cell xn (by rw [HY2.out]; exact hxn)
         generalize ((N - 1 : Nat) : Int) = P at *
         clear hx0 hxN
         by_cases hsmall : pc (bo G xn) 9 ≤ k
         ·rw [if_pos hsmall] at hy1
          rw [decide_eq_true hsmall] at hsc
          clear hsmall
          by_cases hi0 : i = 0
          ·have hi3 : decide ((i : Int) > 0) = false := decide_eq_false (by omega)
           have hi5 : decide (0 < i) = false := decide_eq_false (by omega)
           have hi6 : (0 < i) = False := eq_false (by omega)
           rw [if_neg (by omega)] at hy1
           clear hi0
           have HY1 := Aside0.mk hy1
           clear hy1
           go_wp2_with (go_at_call 61; refine HALLC.out.mono ?_; rintro e w' ⟨rfl, m, rfl⟩)
           go_roundg gi'
           case measure => omega
           case rel => exact ⟨i + 1, Hs.set xn true, by go_num, by omega, ⟨HY1.out, by simpa using HY2.out⟩, ⟨((HF.out.low (pw_below_drewN (Below.refl _ _) m))).kept (grownBy_set _ _ _) (fun r e => by cases e; exact hzH)⟩, ⟨HRow.set (show HRow (wr.drewN m) w2.heap.size Hs from HH.out) _ _⟩, ⟨below_set (pw_below_drewN HB.out m) hblw⟩⟩
          ·have hi3 : decide ((i : Int) > 0) = true := decide_eq_true (by omega)
           have hi5 : decide (0 < i) = true := decide_eq_true (by omega)
           have hpc := HPREV.out (by omega)
           have hm0 : 0 < i := by omega
           clear hi0
           have hm1 : ((i : Int) - 1).toNat = i - 1 := by omega
           have hm2 : ((1 : Int) ≤ (i : Int)) = True := eq_true (by omega)
           have hm3 : ((0 : Int) ≤ (i : Int) - 1) = True := eq_true (by omega)
           have hm4 : ((i : Int) - 1 < (l2.length : Int)) = True := eq_true (by omega)
           generalize rd l2 ((i - 1 : Nat) : Int) = z at *
           by_cases hz : (xn : Int) ≤ z
           ·rw [if_pos ⟨hm0, hz⟩] at hy1
            have hd5 : decide (z ≥ (xn : Int)) = true := decide_eq_true hz
            have HY1 := Aside0.mk hy1
            clear hy1 hz
            go_wp2_with (go_at_call 61; refine HALLC.out.mono ?_; rintro e w' ⟨rfl, m, rfl⟩)
            go_ret2
            obtain ⟨rfl, rfl⟩ := HNONE.out HY1.out.symm
            exact ⟨rfl, pw_below_drewN HB.out _⟩
           ·rw [if_neg (fun h => hz h.2)] at hy1
            have hd5 : decide (z ≥ (xn : Int)) = false := decide_eq_false hz
            have HY1 := Aside0.mk hy1
            clear hy1 hz
            go_wp2_with (go_at_call 61; refine HALLC.out.mono ?_; rintro e w' ⟨rfl, m, rfl⟩)
            go_roundg gi'
            case measure => omega
            case rel => exact ⟨i + 1, Hs.set xn true, by go_num, by omega, ⟨HY1.out, by simpa using HY2.out⟩, ⟨((HF.out.low (pw_below_drewN (Below.refl _ _) m))).kept (grownBy_set _ _ _) (fun r e => by cases e; exact hzH)⟩, ⟨HRow.set (show HRow (wr.drewN m) w2.heap.size Hs from HH.out) _ _⟩, ⟨below_set (pw_below_drewN HB.out m) hblw⟩⟩
         ·rw [if_neg hsmall] at hy1
          rw [decide_eq_false hsmall] at hsc
          have HY1 := Aside0.mk hy1
          clear hsmall hy1
          go_wp2_with (go_at_call 61; refine HALLC.out.mono ?_; rintro e w' ⟨rfl, m, rfl⟩)
          go_ret2
          obtain ⟨rfl, rfl⟩ := HNONE.out HY1.out.symm
          exact ⟨rfl, pw_below_drewN HB.out _⟩
      ·have hi1 : ((i : Int) < (l2.length : Int)) = False := eq_false (by omega)
       have hi2 : decide ((i : Int) < (l2.length : Int)) = false := decide_eq_false (by omega)
       obtain rfl : gk = 0 := by omega
       have hy1 := HY.out.1
       simp only [cb1] at hy1
       have HY1 := Aside0.mk hy1
       clear hy1
       obtain ⟨hr1, hr2⟩ := HSOME.out Hs HY1.out.symm
       subst hr2
       have HHL := Aside0.mk HY.out.2
       have HCB : Aside0 (cb2 G k Hs N 0 = r1) := ⟨hr1.symm⟩
       clear hr1 HY HY1 HNONE HSOME
       go_wp2
       go_loopg [85] N (fun kq v85 w' => ∃ (x : Nat), v85 = .int .i64 (x : Int) ∧ x + kq = N ∧ Aside0 (cb2 G k Hs kq x = r1) ∧ Aside0 (FamI w1 w' gf H A1 c1 G.length k v2 v3 BS LS) ∧ Aside0 (HRow w' w2.heap.size Hs) ∧ Aside0 (Below w.heap.size w w'))
       case atStart => exact ⟨0, rfl, by omega, HCB, HF, HH, HB⟩
       case round =>
        clear HCB HF HH HB
        obtain ⟨x, rfl, hx, HX, HF, HH, HB⟩ := hrel
        by_cases hxn : x < N
        ·have hj1 : ((x : Int) < (N : Int)) = True := eq_true (by omega)
         have hj2 : decide ((x : Int) < (N : Int)) = true := decide_eq_true (by omega)
         cases gk with
         | zero => omega
         | succ gx =>
         have hx1 := HX.out
         simp only [cb2] at hx1
         rw [HN.out] at hx1
         have HX1 := Aside0.mk hx1
         have hfc2 : wr.cell? ⟨gf, 2, none⟩ = some v2 := (blk_cell HF.out.blk 2).trans rfl
         obtain ⟨g2, cp2, hv2, hsm⟩ := HF.out.small_at (by rw [HBL.out]; omega)
         rw [HBL.out] at hv2
         clear hx1 HX hsm
         subst hv2
         go_wp2
         go_loopg [93] N (fun kq v93 w' => ∃ (y : Nat), v93 = .int .i64 (y : Int) ∧ y + kq = N ∧ Aside0 (((cb2a G k Hs x kq y && cb2b Hs x (othTo G k x N 0)) && cb2 G k Hs gx (x + 1)) = r1) ∧ Aside0 (FamI w1 w' gf H A1 c1 G.length k (.slice (some ⟨g2, 0, none⟩) N cp2) v3 BS LS) ∧ Aside0 (HRow w' w2.heap.size Hs) ∧ Aside0 (Below w.heap.size w w'))
         case atStart => exact ⟨0, rfl, by omega, HX1, HF, HH, HB⟩
         case round =>
          clear HX1 HF HH HB hfc2
          obtain ⟨y, rfl, hy, HY, HF, HH, HB⟩ := hrel
          by_cases hyn : y < N
          ·have hk1 : ((y : Int) < (N : Int)) = True := eq_true (by omega)
           have hk2 : decide ((y : Int) < (N : Int)) = true := decide_eq_true (by omega)
           cases gk with
           | zero => omega
           | succ gy =>
           have hy1 := HY.out
           simp only [cb2a] at hy1
           obtain ⟨g2b, cp2b, hv2, hsm⟩ := HF.out.small_at (by rw [HBL.out]; omega)
           rw [HBL.out] at hv2 hsm
           injection hv2 with e1 e2 e3
           injection e1 with e1
           injection e1 with e1
           subst e1
           have hsc := hsm y hyn
           rw [HSG.out y hyn] at hsc
           have hcx := HH.out.cell x (by rw [HHL.out]; exact hxn)
           have hcy := HH.out.cell y (by rw [HHL.out]; exact hyn)
           have hdi := b_andNot y x (by omega) (by omega)
           generalize decide (pc (bo G y) 9 ≤ k) = sB at *
           generalize diff y x = df at *
           clear hsm HY e2 e3
           cases hq1 : Hs.getD x false
           ·rw [hq1] at hcx hy1
            have HY1 := Aside0.mk hy1
            clear hy1 hq1
            go_wp2
            go_roundg gy
            case measure => omega
            case rel => exact ⟨y + 1, by go_num, by omega, ⟨by simpa using HY1.out⟩, HF, HH, HB⟩
           ·rw [hq1] at hcx hy1
            clear hq1
            cases sB
            ·have HY1 := Aside0.mk hy1
             clear hy1
             go_wp2
             go_roundg gy
             case measure => omega
             case rel => exact ⟨y + 1, by go_num, by omega, ⟨by simpa using HY1.out⟩, HF, HH, HB⟩
            ·by_cases hd0 : df = 0
             ·have hd3 : ((df : Int) == 0) = true := by simp [hd0]
              rw [hd0] at hy1
              clear hd0
              cases hq4 : Hs.getD y false
              ·rw [hq4] at hcy hy1
               obtain rfl : false = r1 := by simpa using hy1
               clear hy1 hq4
               go_wp2
               go_ret2
               exact ⟨rfl, HB.out⟩
              ·rw [hq4] at hcy hy1
               have HY1 := Aside0.mk hy1
               clear hy1 hq4
               go_wp2
               go_roundg gy
               case measure => omega
               case rel => exact ⟨y + 1, by go_num, by omega, ⟨by simpa using HY1.out⟩, HF, HH, HB⟩
             ·have hd3 : ((df : Int) == 0) = false := by simp; omega
              have hd4 : (df == 0) = false := by simpa using hd0
              rw [hd4] at hy1
              have HY1 := Aside0.mk hy1
              clear hy1 hd0 hd4
              go_wp2
              go_roundg gy
              case measure => omega
              case rel => exact ⟨y + 1, by go_num, by omega, ⟨by simpa using HY1.out⟩, HF, HH, HB⟩
          ·have hk1 : ((y : Int) < (N : Int)) = False := eq_false (by omega)
           have hk2 : decide ((y : Int) < (N : Int)) = false := decide_eq_false (by omega)
           obtain rfl : gk = 0 := by omega
           have hy1 := HY.out
           simp only [cb2a, Bool.true_and] at hy1
           have HY1 := Aside0.mk hy1
           obtain ⟨wo, rfl⟩ : ∃ wo : World, wo = wr := ⟨_, rfl⟩
           obtain ⟨g3, cp3, hv3, hot⟩ := HF.out.other_at (by rw [HLL.out]; omega)
           rw [HLL.out] at hv3 hot
           obtain ⟨AL, cL, hcL, hLr⟩ := hot x hxn
           rw [HOG.out x hxn] at hcL hLr
           have hfc3 : wo.cell? ⟨gf, 3, none⟩ = some v3 := (blk_cell HF.out.blk 3).trans rfl
           have HLA : Aside0 (∀ i, i < (othTo G k x N 0).length → ∃ n : Nat, rd (othTo G k x N 0) (i : Int) = (n : Int) ∧ n < N) := ⟨fun i hi => othTo_at G k x N i hi⟩
           have hLl := othTo_len G k x N 0
           generalize othTo G k x N 0 = L at *
           have HLR := Aside0.mk hLr
           clear hot hLr HY hy1
           subst hv3
           go_wp2
           go_loopg [127] L.length (fun kq v127 w' => ∃ (j : Nat), v127 = .int .i64 (j : Int) ∧ j + kq = L.length ∧ Aside0 ((cb2b Hs x (L.drop j) && cb2 G k Hs gx (x + 1)) = r1) ∧ ∃ m, w' = wo.drewN m)
           case atStart => exact ⟨0, rfl, by omega, HY1, 0, rfl⟩
           case round =>
            clear HY1
            obtain ⟨j, rfl, hj, HJ, m, rfl⟩ := hrel
            by_cases hjl : j < L.length
            ·have hl1 : ((j : Int) < (L.length : Int)) = True := eq_true (by omega)
             have hl2 : decide ((j : Int) < (L.length : Int)) = true := decide_eq_true (by omega)
             cases gk with
             | zero => omega
             | succ gj =>
             obtain ⟨adL, eA, hcj⟩ := HLR.out j hjl
             subst eA
             obtain ⟨yn, hyn2, hylt⟩ := HLA.out j hjl
             have hjx := HJ.out
             rw [List.drop_eq_getElem_cons hjl] at hjx
             simp only [cb2b] at hjx
             have hLj : L[j] = (yn : Int) := by
              rw [← hyn2]
              unfold rd
              rw [Int.toNat_natCast, List.getD_eq_getElem?_getD, List.getElem?_eq_getElem hjl]
              rfl
             rw [hLj, Int.toNat_natCast] at hjx
             rw [hyn2] at hcj
             have hcx : wo.cell? ⟨w2.heap.size, x, none⟩ = some (.bool (Hs.getD x false)) := HH.out.cell x (by rw [HHL.out]; exact hxn)
             have hcy : wo.cell? ⟨w2.heap.size, yn, none⟩ = some (.bool (Hs.getD yn false)) := HH.out.cell yn (by rw [HHL.out]; exact hylt)
             have hx0 : ((0 : Int) ≤ (x : Int)) = True := eq_true (by omega)
             have hx1 : ((x : Int) < (N : Int)) = True := eq_true (by omega)
             have hy0 : ((0 : Int) ≤ (yn : Int)) = True := eq_true (by omega)
             have hy1 : ((yn : Int) < (N : Int)) = True := eq_true (by omega)
             generalize Hs.getD x false = q1 at *
             generalize Hs.getD yn false = q2 at *
             clear hLj hyn2 HJ
             cases hqq : (q1 == q2)
             ·rw [hqq] at hjx
              have HJ1 := Aside0.mk hjx
              clear hjx
              go_wp2
              go_quiet (fail)
              go_wp2
              go_roundg gj
              case measure => omega
              case rel => exact ⟨j + 1, by go_num, by omega, ⟨by simpa using HJ1.out⟩, _, rfl⟩
             ·rw [hqq] at hjx
              obtain rfl : false = r1 := by simpa using hjx
              clear hjx
              go_wp2
              go_quiet (fail)
              go_wp2
              go_ret2
              exact ⟨rfl, pw_below_drewN (pw_below_drewN HB.out _) _⟩
            ·have hl1 : ((j : Int) < (L.length : Int)) = False := eq_false (by omega)
             have hl2 : decide ((j : Int) < (L.length : Int)) = false := decide_eq_false (by omega)
             obtain rfl : gk = 0 := by omega
             have hjx := HJ.out
             rw [List.drop_eq_nil_of_le (by omega)] at hjx
             simp only [cb2b, Bool.true_and] at hjx
             have HJ1 := Aside0.mk hjx
             clear hjx
             go_wp2
             go_roundg gx
             case measure => omega
             case rel => exact ⟨x + 1, by go_num, by omega, HJ1, ⟨HF.out.low (pw_below_drewN (Below.refl _ _) m)⟩, HH, ⟨pw_below_drewN HB.out m⟩⟩
        ·have hj1 : ((x : Int) < (N : Int)) = False := eq_false (by omega)
         have hj2 : decide ((x : Int) < (N : Int)) = false := decide_eq_false (by omega)
         obtain rfl : gk = 0 := by omega
         obtain rfl : true = r1 := HX.out
         go_wp2
         go_ret2
         exact ⟨rfl, HB.out⟩
  ·rw [if_neg hchk] at h
   injection h with h
   injection h with h1 h2
   subst h1 h2
   have HRD := Aside0.mk (read_no hlen (by simpa using hchk) A0 c0 w hr0 hc0)
   go_enter Tryd.func34, Tryd.ntmps34
   go_wp2_with (go_at_call 49; refine HRD.out.mono ?_; rintro e w1 ⟨v1, rfl, hb1⟩)
   go_ret2
   exact ⟨rfl, hb1⟩
 ·rw [if_neg hlen0] at h
  cases h
end Go.Proofs.YtijfddobandcdaaDoor.X
end
section
/- Blockage, by hand. -/
namespace Go.Proofs.YtijfddobandcdaaDoor.X
open Go.RowKit YtijfddobandcdaaDoorW.PrintWords YtijfddobandcdaaDoorW.PrintLast YtijfddobandcdaaDoorW.PrintMore YtijfddobandcdaaDoor.T
attribute [local go_sem] max2_int min2_int max_two min_two max_three min_three max_four min_four
theorem made_i8 (W : World) (n : Nat) (hn : n ≤ 128) : Kd.C (Kd.int .i8) (W.alloc (.cells (madeCells #[.int .i8 0] n) 107)) (some ⟨W.heap.size, 0, none⟩) (List.replicate n (0 : Int)).length (List.replicate n (0 : Int)) := by
 have hb := heap_alloc_new W (.cells (madeCells #[Value.int .i8 0] n) 107)
 refine ⟨rfl, by simp; omega, fun h0 => ⟨_, rfl, fun j p hj => ⟨[.int .i8 0], rfl, ?_, fun i u hu => ?_⟩⟩⟩
 ·obtain ⟨h1, h2⟩ := List.getElem?_eq_some_iff.1 hj
  have : p = 0 := by rw [← h2]; simp
  subst this
  rfl
 ·obtain ⟨h1, h2⟩ := List.getElem?_eq_some_iff.1 hj
  have hjn : j < n := by simpa using h1
  match i, hu with
  | 0, hu =>
   have hu' : Value.int .i8 0 = u := by simpa using hu
   subst hu'
   have e1 : 0 + (j * (Kd.int .i8).sz + 0) = j := by show 0 + (j * 1 + 0) = j; omega
   rw [Addr.add_lit, e1]
   refine (blk_cell hb j).trans ?_
   unfold madeCells
   simp [hjn, Nat.mod_one]
theorem C_rows {W : World} {base : Nat} {v : Value} {rows : List Value} {Ls : List (List Int)} (h : W.ownsRow base 22 1 v Ls.length rows) (hr : Rows base W rows Ls) : ∃ A c, v = .slice A Ls.length c ∧ Kd.C (Kd.slice 3 (Kd.int .i64)) W A Ls.length Ls := by
 have hR : Reps ((Kd.slice 3 (Kd.int .i64)).K W) 1 Ls rows := by
  refine ⟨by rw [hr.1, Nat.mul_one], fun j p hj => ?_⟩
  obtain ⟨v, h1, h2⟩ := hr.2 j p hj
  obtain ⟨A, c, rfl⟩ := ownsRow_form h2
  obtain ⟨hl, hC⟩ := C_of_row h2
  obtain ⟨hj1, hj2⟩ := List.getElem?_eq_some_iff.1 h1
  refine ⟨A, c, ?_, hl, hC⟩
  rw [Nat.mul_one, List.drop_eq_getElem_cons hj1, hj2]
  rfl
 obtain ⟨A, c, rfl, hc⟩ := own_reads_row h hR rfl
 exact ⟨A, c, rfl, hc⟩
theorem FamI.s96 {w W : World} {gf H : Nat} {A0 : Option Addr} {c0 k : Nat} {v2 v3 : Value} {G : List Nat} {BS : List Bool} {LS : List (List Int)} (h : FamI w W gf H A0 c0 G.length k v2 v3 BS LS) (hc : Kd.C (Kd.int .i64) W A0 (gi G).length (gi G)) : IsS96 W W gf (gi G) (k : Int) BS LS := by
 obtain ⟨rows, r1, r2, _⟩ := h.own3
 obtain ⟨A3, c3, rfl, h3⟩ := C_rows r1 r2
 obtain ⟨A2, c2, rfl⟩ := ownsRow_form h.own2
 have h2 := (Kd.R_reads' (Kd.R_of_own (h1 := fun _ => rfl) (ok := fun _ => True) h.own2 (fun _ _ => trivial))).2.2
 refine ⟨A0, c0, A2, c2, A3, c3, ?_, trivial, hc, h2, h3⟩
 rw [gi_length]
 exact h.blk
theorem choose_none (kd gf N : Nat) (S0 : List Int) (kk : Int) (BS : List Bool) (LS : List (List Int)) (hN : BS.length = N) (hN7 : N ≤ 128) (hN1 : 1 ≤ N) (m : Nat) (st : List Int) (A : Option Addr) (c : Nat) (w : World) (hl : st.length = N) (hI : IsS96 w w gf S0 kk BS LS) (hC : Kd.C (Kd.int .i8) w A st.length st) (hc : st.length ≤ c)
  (h : chF kd S0 kk BS LS m st = some none) : Calls Tryd.prog 67 #[.pointer (some ⟨gf, 0, none⟩), .slice A N c] w fun e w' => e = .returned (.slice none 0 0) ∧ Below w.heap.size w w' := by
 refine (choose_calls kd gf N S0 kk BS LS hN hN7 hN1 m st A c w none hl hI hC hc h).mono ?_
 rintro e w' ⟨v, rfl, hv, hb⟩
 have hv' : v = .slice none 0 0 := hv
 exact ⟨by rw [hv'], hb⟩
theorem choose_some (kd gf N : Nat) (S0 : List Int) (kk : Int) (BS : List Bool) (LS : List (List Int)) (hN : BS.length = N) (hN7 : N ≤ 128) (hN1 : 1 ≤ N) (m : Nat) (st d : List Int) (A : Option Addr) (c : Nat) (w : World) (hl : st.length = N) (hI : IsS96 w w gf S0 kk BS LS) (hC : Kd.C (Kd.int .i8) w A st.length st) (hc : st.length ≤ c)
  (h : chF kd S0 kk BS LS m st = some (some d)) : Calls Tryd.prog 67 #[.pointer (some ⟨gf, 0, none⟩), .slice A N c] w fun e w' => ∃ a c', e = .returned (.slice (some a) N c') ∧ d.length = N ∧ Kd.C (Kd.int .i8) w' (some a) d.length d ∧ Below w.heap.size w w' := by
 refine (choose_calls kd gf N S0 kk BS LS hN hN7 hN1 m st A c w (some d) hl hI hC hc h).mono ?_
 rintro e w' ⟨v, rfl, ⟨h1, a, c', rfl, _, h2⟩, hb⟩
 exact ⟨a, c', rfl, h1, h2, hb⟩
def ones (st : List Int) : Nat → Nat → List Int
 | 0, _ => []
 | d + 1, x => if rd st (x : Int) == 1 then (x : Int) :: ones st d (x + 1) else ones st d (x + 1)
def blOut (N : Nat) : Option (List Int) → List Int × Int
 | none => ([], 0)
 | some d => (ones d N 0, 0)
def blR (K : Nat) (G : List Nat) (k : Nat) : Option (List Int × Int) :=
 (chF K (gi G) (k : Int) (smTo G k (2 ^ G.length) 0) (otTo G k (2 ^ G.length) 0) K (List.replicate (2 ^ G.length) 0)).bind fun o => some (blOut (2 ^ G.length) o)
def sweep_Blockage.f (K : Nat) (g : List Int) (a : Int) : Option (List Int × Int) := if g.length < 2 ^ 60 then (if chk 7 g = true then (if a < 0 then some ([], 2) else if 7 < a then some ([], 2) else
 (sweep_town_layout.f g).bind fun r => if r.2 < a then some ([], 4) else blR K (g.map Int.toNat) a.toNat) else some ([], 2)) else none
set_option maxHeartbeats 8000000 in
set_option maxRecDepth 100000 in
theorem sweep_Blockage.calls (kd : Nat) (A0 : Option Addr) (c0 : Nat) (l0 : List Int) (a1 : Int) (r1 : List Int) (r2 : Int) (w : World) (hGL : GL w) (hr0 : Kd.C (Kd.int .i64) w A0 l0.length l0) (hc0 : l0.length ≤ c0) (h : sweep_Blockage.f kd l0 a1 = some (r1, r2)) :
  Calls Tryd.prog 40 #[.slice A0 l0.length c0, .int .i64 a1] w fun e w' => ∃ v, e = .returned (.tuple #[v, .int .i64 r2]) ∧ Kd.R (Kd.int .i64) 3 w' w.heap.size (fun _ => True) v r1 ∧ Below w.heap.size w w' := by
 unfold sweep_Blockage.f at h
 by_cases hlen : l0.length < 2 ^ 60
 ·rw [if_pos hlen] at h
  by_cases hchk : chk 7 l0 = true
  ·rw [if_pos hchk] at h
   obtain ⟨G, rfl, hG⟩ := (chk_iff 7 (by omega) _).1 hchk
   rw [gi_toNat] at h
   have hn := hG.most
   rw [gi_length] at hc0
   have HRD := Aside0.mk (read_yes hG A0 c0 w hr0 hc0)
   rw [gi_length]
   clear hr0 hc0 hlen hchk
   by_cases ha0 : a1 < 0
   ·rw [if_pos ha0] at h
    injection h with h
    injection h with h1 h2
    subst h1 h2
    have hd1 : decide (a1 < 0) = true := decide_eq_true ha0
    go_enter Tryd.func40, Tryd.ntmps40
    go_wp2_with (go_at_call 49; refine HRD.out.mono ?_; rintro e w1 ⟨A1, c1, rfl, hc1, hC1, hb1⟩)
    go_ret2
    exact ⟨_, rfl, Kd.R_nil _ _ _ _ _, hb1⟩
   ·rw [if_neg ha0] at h
    have hd1 : decide (a1 < 0) = false := decide_eq_false ha0
    by_cases ha7 : 7 < a1
    ·rw [if_pos ha7] at h
     injection h with h
     injection h with h1 h2
     subst h1 h2
     have hd2 : decide (a1 > 7) = true := decide_eq_true ha7
     go_enter Tryd.func40, Tryd.ntmps40
     go_wp2_with (go_at_call 49; refine HRD.out.mono ?_; rintro e w1 ⟨A1, c1, rfl, hc1, hC1, hb1⟩)
     go_ret2
     exact ⟨_, rfl, Kd.R_nil _ _ _ _ _, hb1⟩
    ·rw [if_neg ha7] at h
     have hd2 : decide (a1 > 7) = false := decide_eq_false ha7
     obtain ⟨⟨L, wd⟩, hL, h⟩ := Option.bind_eq_some_iff.mp h
     have HLAY := Aside0.mk hL
     have HGL := Aside0.mk hGL
     have HL := Aside0.mk (gi_length G)
     clear hL hGL
     dsimp only at h
     by_cases hw : wd < a1
     ·rw [if_pos hw] at h
      injection h with h
      injection h with h1 h2
      subst h1 h2
      have hd3 : decide (wd < a1) = true := decide_eq_true hw
      clear hw ha0 ha7
      go_enter Tryd.func40, Tryd.ntmps40
      go_wp2_with (first
       | (go_at_call 49; refine HRD.out.mono ?_; rintro e w1 ⟨A1, c1, rfl, hc1, hC1, hb1⟩; have HLC := sweep_town_layout.calls A1 c1 (gi G) L wd w1 (GL_below HGL.out hb1) hC1 (by rw [HL.out]; exact hc1) HLAY.out; rw [HL.out] at HLC; have HLC := Aside0.mk HLC; have HB1 := Aside0.mk hb1; clear hb1 hC1)
       | (go_at_call 50; refine HLC.out.mono ?_; rintro e w2 ⟨lv, rfl, _, hb2⟩; have HB2 := Aside0.mk (below_step HB1.out hb2); clear hb2))
      go_ret2
      exact ⟨_, rfl, Kd.R_nil _ _ _ _ _, HB2.out⟩
     ·rw [if_neg hw] at h
      have hd3 : decide (wd < a1) = false := decide_eq_false hw
      clear hw
      obtain ⟨k, rfl⟩ := Int.eq_ofNat_of_zero_le (show 0 ≤ a1 by omega)
      have hk : k ≤ 7 := by omega
      rw [Int.toNat_natCast] at h
      unfold blR at h
      obtain ⟨o, ho, h⟩ := Option.bind_eq_some_iff.mp h
      clear ha0 ha7
      have HG := Aside0.mk hG
      have hp7 := p7 hn
      have hmin : min G.length 64 = G.length := by omega
      obtain ⟨i4, hi4, hp0, hp1, hp2⟩ := info_parts info107
      obtain ⟨N, hN⟩ : ∃ N, 2 ^ G.length = N := ⟨_, rfl⟩
      have hN7 : N ≤ 128 := by rw [← hN]; exact hp7
      have hN1 : 1 ≤ N := by rw [← hN]; exact Nat.two_pow_pos _
      have hmk : ∀ W : World, (Instr.makeSlice 104 (.int .i64 (N : Int)) (.int .i64 (N : Int))).run Tryd.prog W = .ok (.slice (some ⟨W.heap.size, 0, none⟩) N N) (W.alloc (.cells (madeCells #[.int .i8 0] N) 107)) := fun W => by
       have := run_make (P := Tryd.prog) W 104 107 i4 (.int .i8 0) Tryd.underlying104 hi4 hp0 .i64 .i64 (N : Int) (N : Int) (by omega) (by omega) (by rw [hp2]; omega) (by omega)
       rw [hp1] at this
       simpa [Value.cells] using this
      obtain ⟨J, ⟨hS1, hS2, hS3⟩, hS4⟩ := shJ G.length (by omega)
      rw [hN] at hS4
      have hmake : ∀ W : World, (Instr.makeSlice 104 (.int .i64 (wrap64 (2 ^ G.length))) (.int .i64 (wrap64 (2 ^ G.length)))).run Tryd.prog W = .ok (.slice (some ⟨W.heap.size, 0, none⟩) N N) (W.alloc (.cells (madeCells #[.int .i8 0] N) 107)) := by rw [hS1, hS4]; exact hmk
      have hCM : Aside0 (∀ W : World, Kd.C (Kd.int .i8) (W.alloc (.cells (madeCells #[.int .i8 0] N) 107)) (some ⟨W.heap.size, 0, none⟩) (List.replicate N (0 : Int)).length (List.replicate N (0 : Int))) := ⟨fun W => made_i8 W N hN7⟩
      have hBS : (smTo G k N 0).length = N := smTo_len _ _ _ _
      have HFAM : Aside0 (∀ (A1 : Option Addr) (c1 : Nat) (w1 W : World), G.length ≤ c1 → GL w1 → Kd.C (Kd.int .i64) w1 A1 (gi G).length (gi G) → Below w1.heap.size w1 W → Calls Tryd.prog 60 #[.slice A1 G.length c1, .int .i64 (k : Int)] W fun e w' => ∃ gf, e = .returned (.pointer (some ⟨gf, 0, none⟩)) ∧ IsS96 w' w' gf (gi G) (k : Int) (smTo G k N 0) (otTo G k N 0) ∧ Below W.heap.size W w' ∧ Below w1.heap.size w1 w') := ⟨fun A1 c1 w1 W hc1 hgl hC hb => by
       refine (family_calls A1 c1 G HG.out hc1 k hk W (GL_below hgl hb) (Kd.C_below hC hb)).mono ?_
       rintro e w' ⟨gf, H, v2, v3, rfl, hf⟩
       rw [hN] at hf
       exact ⟨gf, rfl, hf.s96 (Kd.C_below (Kd.C_below hC hb) hf.below), hf.below, below_step hb hf.below⟩⟩
      rw [hN] at ho h
      generalize smTo G k N 0 = BS at *
      generalize otTo G k N 0 = LS at *
      clear hN hp7 hS1 hS2 hS3 hS4 hmk hi4 hp0 hp1 hp2 hn hG
      have HO := Aside0.mk ho
      clear ho
      cases o with
      | none =>
       have h1 := Option.some.inj h
       simp only [blOut, Prod.mk.injEq] at h1
       obtain ⟨rfl, rfl⟩ := h1
       go_enter Tryd.func40, Tryd.ntmps40
       go_wp2_with (first
        | (go_at_call 49; refine HRD.out.mono ?_; rintro e w1 ⟨A1, c1, rfl, hc1, hC1, hb1⟩; have HLC := sweep_town_layout.calls A1 c1 (gi G) L wd w1 (GL_below HGL.out hb1) hC1 (by rw [HL.out]; exact hc1) HLAY.out; rw [HL.out] at HLC; have HLC := Aside0.mk HLC; have HB1 := Aside0.mk hb1; have HF1 := Aside0.mk (fun (W : World) (hW : Below w1.heap.size w1 W) => HFAM.out A1 c1 w1 W hc1 (GL_below HGL.out hb1) hC1 hW); clear hb1 hC1)
        | (go_at_call 50; refine HLC.out.mono ?_; rintro e w2 ⟨lv, rfl, _, hb2⟩; have HB2 := Aside0.mk hb2; clear hb2))
       have HBD : Below w1.heap.size w1 w2.drew := below_drew HB2.out
       refine start_ (n := 10) (S := fun w' => Below w1.heap.size w1 w') (ds := []) (Qbz 10 0) (by kernel_rfl) rfl rfl (HBD) (fun hHeld => ?_)
       refine pure_ (i := 0) (N := some 36) (v := ?_) (a' := ?_) (Qbz 10 1) rfl rfl (by kernel_rfl) (fun _ _ _ h => h) (Or.inl ⟨by rfl, ?_⟩) ?_ ?_
       rotate_left
       ·intro w'
        go_simp
        with_reducible rfl
       rotate_left
       ·simp only [Act.put, Qp1, Qp2, Qp3, i64_w, i32_w]
        rfl
       refine pure_ (i := 1) (N := some 37) (v := ?_) (a' := ?_) (Qbz 10 3) rfl rfl (by kernel_rfl) (fun _ _ _ h => h) (Or.inl ⟨by rfl, ?_⟩) ?_ ?_
       rotate_left
       ·intro w'
        go_simp
        with_reducible rfl
       rotate_left
       ·simp only [Act.put, Qp1, Qp2, Qp3, i64_w, i32_w]
        rfl
       refine pure_ (i := 3) (N := some 39) (v := ?_) (a' := ?_) (Qbz 10 11) rfl rfl (by kernel_rfl) (fun _ _ _ h => h) (Or.inl ⟨by rfl, ?_⟩) ?_ ?_
       rotate_left
       ·intro w'
        go_simp
        with_reducible rfl
       rotate_left
       ·simp only [Act.put, Qp1, Qp2, Qp3, i64_w, i32_w]
        rfl
       refine pure_ (i := 4) (N := some 40) (v := ?_) (a' := ?_) (Qbz 10 27) rfl rfl (by kernel_rfl) (fun _ _ _ h => h) (Or.inl ⟨by rfl, ?_⟩) ?_ ?_
       rotate_left
       ·intro w'
        go_simp
        with_reducible rfl
       rotate_left
       ·simp only [Act.put, Qp1, Qp2, Qp3, i64_w, i32_w]
        rfl
       refine pure_ (i := 5) (N := some 41) (v := ?_) (a' := ?_) (Qbz 10 59) rfl rfl (by kernel_rfl) (fun _ _ _ h => h) (Or.inl ⟨by rfl, ?_⟩) ?_ ?_
       rotate_left
       ·intro w'
        go_simp
        with_reducible rfl
       rotate_left
       ·simp only [Act.put, Qp1, Qp2, Qp3, i64_w, i32_w]
        rfl
       refine pure_ (i := 9) (N := some 45) (v := ?_) (a' := ?_) (Qbz 10 571) rfl rfl (by kernel_rfl) (fun _ _ _ h => h) (Or.inl ⟨by rfl, ?_⟩) ?_ ?_
       rotate_left
       ·intro w'
        go_simp
        with_reducible rfl
       rotate_left
       ·simp only [Act.put, Qp1, Qp2, Qp3, i64_w, i32_w]
        rfl
       refine join_ (σ := Nat × Nat) 2 (Qbz 10 639) (fun s => [(38, .pointer (some ⟨s.1, 0, none⟩)), (42, .slice (some ⟨s.2, 0, none⟩) N N)]) (fun s w' => (IsS96 w' w' s.1 (gi G) (k : Int) BS LS ∧ Kd.C (Kd.int .i8) w' (some ⟨s.2, 0, none⟩) (List.replicate N (0 : Int)).length (List.replicate N (0 : Int))) ∧ Below w1.heap.size w1 w') ?_ ?_
       rotate_left
       ·intro hCont
        refine two_ (i := 2) (j := 6) (Ni := some 38) (Nj := some 42) (Qbz 10 575) (Qbz 10 635) rfl rfl rfl rfl (by kernel_rfl) (by decide) (by decide) (fun K hK => ?_) (fun K hK => ?_)
        ·skip
         refine goes_ Tryd.func60 (by kernel_rfl) rfl #[.slice A1 G.length c1, .int .i64 (k : Int)] (by rfl) rfl rfl (by simp only [List.map_toArray, List.map_cons, List.map_nil]; rfl) ?_
         with_reducible refine (HF1.out _ hHeld).mono ?_
         rintro e w3 ⟨gf, rfl, hI3, hb3, hd3'⟩
         refine ⟨_, rfl, ?_⟩
         refine hK.out _ _ (hd3') (fun hHeld => ?_)
         clear hK K
         refine norm_ (a' := ?_) ?_ ?_
         rotate_left
         ·show Act.put _ (some 38) _ = _
          simp only [Act.put, Qp1, Qp2, Qp3, i64_w, i32_w]
          rfl
         refine one_ (i := 6) (N := some 42) (Qbz 10 639) rfl rfl (by kernel_rfl) (by decide) (fun K hK => ?_)
         refine value_ (w1 := ?_) (v := ?_) (by rfl) rfl ?_ ?_
         rotate_left 2
         ·go_simp
          constructor
          ·rfl
          ·rfl
         refine hK.out _ _ ((by first | exact below_step hHeld (below_alloc (Below.refl _ _) _) | exact below_step (W := w2.drew) hHeld (below_alloc (w := w2.drew) (Below.refl _ _) (.cells (madeCells #[.int .i8 0] N) 107)))) (fun hHeld => ?_)
         clear hK K
         refine norm_ (a' := ?_) ?_ ?_
         rotate_left
         ·show Act.put _ (some 42) _ = _
          simp only [Act.put, Qp1, Qp2, Qp3, i64_w, i32_w]
          rfl
         exact norm_ (by simp only [putAll, Act.put, List.setIfInBounds_toArray, List.set_cons_zero, List.set_cons_succ]) (hCont (gf, w3.heap.size) _ ⟨⟨hI3.raise (below_alloc (Below.refl _ _) _), hCM.out _⟩, hHeld⟩)
        ·skip
         refine value_ (w1 := ?_) (v := ?_) (by rfl) rfl ?_ ?_
         rotate_left 2
         ·go_simp
          constructor
          ·rfl
          ·rfl
         refine hK.out _ _ ((by first | exact below_step hHeld (below_alloc (Below.refl _ _) _) | exact below_step (W := w2.drew) hHeld (below_alloc (w := w2.drew) (Below.refl _ _) (.cells (madeCells #[.int .i8 0] N) 107)))) (fun hHeld => ?_)
         clear hK K
         refine norm_ (a' := ?_) ?_ ?_
         rotate_left
         ·show Act.put _ (some 42) _ = _
          simp only [Act.put, Qp1, Qp2, Qp3, i64_w, i32_w]
          rfl
         refine one_ (i := 2) (N := some 38) (Qbz 10 639) rfl rfl (by kernel_rfl) (by decide) (fun K hK => ?_)
         refine goes_ Tryd.func60 (by kernel_rfl) rfl #[.slice A1 G.length c1, .int .i64 (k : Int)] (by rfl) rfl rfl (by simp only [List.map_toArray, List.map_cons, List.map_nil]; rfl) ?_
         with_reducible refine (HF1.out _ hHeld).mono ?_
         rintro e w3 ⟨gf, rfl, hI3, hb3, hd3'⟩
         refine ⟨_, rfl, ?_⟩
         refine hK.out _ _ (hd3') (fun hHeld => ?_)
         clear hK K
         refine norm_ (a' := ?_) ?_ ?_
         rotate_left
         ·show Act.put _ (some 38) _ = _
          simp only [Act.put, Qp1, Qp2, Qp3, i64_w, i32_w]
          rfl
         exact norm_ (by simp only [putAll, Act.put, List.setIfInBounds_toArray, List.set_cons_zero, List.set_cons_succ]) (hCont (gf, w2.heap.size) _ ⟨⟨hI3, Kd.C_below (Kd.C_drew (hCM.out w2)) hb3⟩, hHeld⟩)
       rintro ⟨gf, hs⟩ w' ⟨⟨hIh, hCh⟩, hHeld⟩
       refine norm_ (a' := ?_) ?_ ?_
       rotate_left
       ·simp only [putAll, Act.put, List.setIfInBounds_toArray, List.set_cons_zero, List.set_cons_succ]
        rfl
       refine one_ (i := 7) (N := some 43) (Qbz 10 767) rfl rfl (by kernel_rfl) (by decide) (fun K hK => ?_)
       refine goes_ Tryd.func67 (by kernel_rfl) rfl #[.pointer (some ⟨gf, 0, none⟩), .slice (some ⟨hs, 0, none⟩) N N] (by rfl) rfl rfl (by simp only [List.map_toArray, List.map_cons, List.map_nil]; rfl) ?_
       with_reducible refine (choose_none kd gf N (gi G) (k : Int) BS LS hBS hN7 hN1 kd (List.replicate N 0) (some ⟨hs, 0, none⟩) N _ (by simp) hIh hCh (by simp) HO.out).mono ?_
       rintro e w5 ⟨rfl, hb5⟩
       refine ⟨_, rfl, ?_⟩
       refine hK.out _ _ (below_step hHeld hb5) (fun hHeld => ?_)
       clear hK K
       refine norm_ (a' := ?_) ?_ ?_
       rotate_left
       ·show Act.put _ (some 43) _ = _
        simp only [Act.put, Qp1, Qp2, Qp3, i64_w, i32_w]
        rfl
       refine pure_ (i := 8) (N := some 44) (v := ?_) (a' := ?_) (Qbz 10 1023) rfl rfl (by kernel_rfl) (fun _ _ _ h => h) (Or.inl ⟨by rfl, ?_⟩) ?_ ?_
       rotate_left
       ·intro w'
        go_simp
        with_reducible rfl
       rotate_left
       ·simp only [Act.put, Qp1, Qp2, Qp3, i64_w, i32_w]
        rfl
       refine done_ (by kernel_rfl) ?_
       have HBF := Aside0.mk hHeld
       clear hHeld
       go_wp2
       go_loopg [10, 45] 0 (fun kq v10 v45 w' => v10 = .slice none 0 0 ∧ v45 = .int .i64 (0 : Int) ∧ Aside0 (Below w1.heap.size w1 w'))
       case atStart => exact ⟨rfl, rfl, HBF⟩
       case round =>
        clear HBF
        obtain ⟨rfl, rfl, HBF⟩ := hrel
        go_wp2
        go_ret2
        exact ⟨_, rfl, Kd.R_nil _ _ _ _ _, below_step HB1.out HBF.out⟩
      | some d =>
       have h1 := Option.some.inj h
       simp only [blOut, Prod.mk.injEq] at h1
       obtain ⟨hres, rfl⟩ := h1
       obtain ⟨i3, hi3, hq0, hq1, hq2⟩ := info_parts info3
       have HRES := Aside0.mk hres
       clear hres
       go_enter Tryd.func40, Tryd.ntmps40
       go_wp2_with (first
        | (go_at_call 49; refine HRD.out.mono ?_; rintro e w1 ⟨A1, c1, rfl, hc1, hC1, hb1⟩; have HLC := sweep_town_layout.calls A1 c1 (gi G) L wd w1 (GL_below HGL.out hb1) hC1 (by rw [HL.out]; exact hc1) HLAY.out; rw [HL.out] at HLC; have HLC := Aside0.mk HLC; have HB1 := Aside0.mk hb1; have HF1 := Aside0.mk (fun (W : World) (hW : Below w1.heap.size w1 W) => HFAM.out A1 c1 w1 W hc1 (GL_below HGL.out hb1) hC1 hW); clear hb1 hC1)
        | (go_at_call 50; refine HLC.out.mono ?_; rintro e w2 ⟨lv, rfl, _, hb2⟩; have HB2 := Aside0.mk hb2; clear hb2))
       have HBD : Below w1.heap.size w1 w2.drew := below_drew HB2.out
       refine start_ (n := 10) (S := fun w' => Below w1.heap.size w1 w') (ds := []) (Qbz 10 0) (by kernel_rfl) rfl rfl (HBD) (fun hHeld => ?_)
       refine pure_ (i := 0) (N := some 36) (v := ?_) (a' := ?_) (Qbz 10 1) rfl rfl (by kernel_rfl) (fun _ _ _ h => h) (Or.inl ⟨by rfl, ?_⟩) ?_ ?_
       rotate_left
       ·intro w'
        go_simp
        with_reducible rfl
       rotate_left
       ·simp only [Act.put, Qp1, Qp2, Qp3, i64_w, i32_w]
        rfl
       refine pure_ (i := 1) (N := some 37) (v := ?_) (a' := ?_) (Qbz 10 3) rfl rfl (by kernel_rfl) (fun _ _ _ h => h) (Or.inl ⟨by rfl, ?_⟩) ?_ ?_
       rotate_left
       ·intro w'
        go_simp
        with_reducible rfl
       rotate_left
       ·simp only [Act.put, Qp1, Qp2, Qp3, i64_w, i32_w]
        rfl
       refine pure_ (i := 3) (N := some 39) (v := ?_) (a' := ?_) (Qbz 10 11) rfl rfl (by kernel_rfl) (fun _ _ _ h => h) (Or.inl ⟨by rfl, ?_⟩) ?_ ?_
       rotate_left
       ·intro w'
        go_simp
        with_reducible rfl
       rotate_left
       ·simp only [Act.put, Qp1, Qp2, Qp3, i64_w, i32_w]
        rfl
       refine pure_ (i := 4) (N := some 40) (v := ?_) (a' := ?_) (Qbz 10 27) rfl rfl (by kernel_rfl) (fun _ _ _ h => h) (Or.inl ⟨by rfl, ?_⟩) ?_ ?_
       rotate_left
       ·intro w'
        go_simp
        with_reducible rfl
       rotate_left
       ·simp only [Act.put, Qp1, Qp2, Qp3, i64_w, i32_w]
        rfl
       refine pure_ (i := 5) (N := some 41) (v := ?_) (a' := ?_) (Qbz 10 59) rfl rfl (by kernel_rfl) (fun _ _ _ h => h) (Or.inl ⟨by rfl, ?_⟩) ?_ ?_
       rotate_left
       ·intro w'
        go_simp
        with_reducible rfl
       rotate_left
       ·simp only [Act.put, Qp1, Qp2, Qp3, i64_w, i32_w]
        rfl
       refine pure_ (i := 9) (N := some 45) (v := ?_) (a' := ?_) (Qbz 10 571) rfl rfl (by kernel_rfl) (fun _ _ _ h => h) (Or.inl ⟨by rfl, ?_⟩) ?_ ?_
       rotate_left
       ·intro w'
        go_simp
        with_reducible rfl
       rotate_left
       ·simp only [Act.put, Qp1, Qp2, Qp3, i64_w, i32_w]
        rfl
       refine join_ (σ := Nat × Nat) 2 (Qbz 10 639) (fun s => [(38, .pointer (some ⟨s.1, 0, none⟩)), (42, .slice (some ⟨s.2, 0, none⟩) N N)]) (fun s w' => (IsS96 w' w' s.1 (gi G) (k : Int) BS LS ∧ Kd.C (Kd.int .i8) w' (some ⟨s.2, 0, none⟩) (List.replicate N (0 : Int)).length (List.replicate N (0 : Int))) ∧ Below w1.heap.size w1 w') ?_ ?_
       rotate_left
       ·intro hCont
        refine two_ (i := 2) (j := 6) (Ni := some 38) (Nj := some 42) (Qbz 10 575) (Qbz 10 635) rfl rfl rfl rfl (by kernel_rfl) (by decide) (by decide) (fun K hK => ?_) (fun K hK => ?_)
        ·skip
         refine goes_ Tryd.func60 (by kernel_rfl) rfl #[.slice A1 G.length c1, .int .i64 (k : Int)] (by rfl) rfl rfl (by simp only [List.map_toArray, List.map_cons, List.map_nil]; rfl) ?_
         with_reducible refine (HF1.out _ hHeld).mono ?_
         rintro e w3 ⟨gf, rfl, hI3, hb3, hd3'⟩
         refine ⟨_, rfl, ?_⟩
         refine hK.out _ _ (hd3') (fun hHeld => ?_)
         clear hK K
         refine norm_ (a' := ?_) ?_ ?_
         rotate_left
         ·show Act.put _ (some 38) _ = _
          simp only [Act.put, Qp1, Qp2, Qp3, i64_w, i32_w]
          rfl
         refine one_ (i := 6) (N := some 42) (Qbz 10 639) rfl rfl (by kernel_rfl) (by decide) (fun K hK => ?_)
         refine value_ (w1 := ?_) (v := ?_) (by rfl) rfl ?_ ?_
         rotate_left 2
         ·go_simp
          constructor
          ·rfl
          ·rfl
         refine hK.out _ _ ((by first | exact below_step hHeld (below_alloc (Below.refl _ _) _) | exact below_step (W := w2.drew) hHeld (below_alloc (w := w2.drew) (Below.refl _ _) (.cells (madeCells #[.int .i8 0] N) 107)))) (fun hHeld => ?_)
         clear hK K
         refine norm_ (a' := ?_) ?_ ?_
         rotate_left
         ·show Act.put _ (some 42) _ = _
          simp only [Act.put, Qp1, Qp2, Qp3, i64_w, i32_w]
          rfl
         exact norm_ (by simp only [putAll, Act.put, List.setIfInBounds_toArray, List.set_cons_zero, List.set_cons_succ]) (hCont (gf, w3.heap.size) _ ⟨⟨hI3.raise (below_alloc (Below.refl _ _) _), hCM.out _⟩, hHeld⟩)
        ·skip
         refine value_ (w1 := ?_) (v := ?_) (by rfl) rfl ?_ ?_
         rotate_left 2
         ·go_simp
          constructor
          ·rfl
          ·rfl
         refine hK.out _ _ ((by first | exact below_step hHeld (below_alloc (Below.refl _ _) _) | exact below_step (W := w2.drew) hHeld (below_alloc (w := w2.drew) (Below.refl _ _) (.cells (madeCells #[.int .i8 0] N) 107)))) (fun hHeld => ?_)
         clear hK K
         refine norm_ (a' := ?_) ?_ ?_
         rotate_left
         ·show Act.put _ (some 42) _ = _
          simp only [Act.put, Qp1, Qp2, Qp3, i64_w, i32_w]
          rfl
         refine one_ (i := 2) (N := some 38) (Qbz 10 639) rfl rfl (by kernel_rfl) (by decide) (fun K hK => ?_)
         refine goes_ Tryd.func60 (by kernel_rfl) rfl #[.slice A1 G.length c1, .int .i64 (k : Int)] (by rfl) rfl rfl (by simp only [List.map_toArray, List.map_cons, List.map_nil]; rfl) ?_
         with_reducible refine (HF1.out _ hHeld).mono ?_
         rintro e w3 ⟨gf, rfl, hI3, hb3, hd3'⟩
         refine ⟨_, rfl, ?_⟩
         refine hK.out _ _ (hd3') (fun hHeld => ?_)
         clear hK K
         refine norm_ (a' := ?_) ?_ ?_
         rotate_left
         ·show Act.put _ (some 38) _ = _
          simp only [Act.put, Qp1, Qp2, Qp3, i64_w, i32_w]
          rfl
         exact norm_ (by simp only [putAll, Act.put, List.setIfInBounds_toArray, List.set_cons_zero, List.set_cons_succ]) (hCont (gf, w2.heap.size) _ ⟨⟨hI3, Kd.C_below (Kd.C_drew (hCM.out w2)) hb3⟩, hHeld⟩)
       rintro ⟨gf, hs⟩ w' ⟨⟨hIh, hCh⟩, hHeld⟩
       refine norm_ (a' := ?_) ?_ ?_
       rotate_left
       ·simp only [putAll, Act.put, List.setIfInBounds_toArray, List.set_cons_zero, List.set_cons_succ]
        rfl
       refine one_ (i := 7) (N := some 43) (Qbz 10 767) rfl rfl (by kernel_rfl) (by decide) (fun K hK => ?_)
       refine goes_ Tryd.func67 (by kernel_rfl) rfl #[.pointer (some ⟨gf, 0, none⟩), .slice (some ⟨hs, 0, none⟩) N N] (by rfl) rfl rfl (by simp only [List.map_toArray, List.map_cons, List.map_nil]; rfl) ?_
       with_reducible refine (choose_some kd gf N (gi G) (k : Int) BS LS hBS hN7 hN1 kd (List.replicate N 0) d (some ⟨hs, 0, none⟩) N _ (by simp) hIh hCh (by simp) HO.out).mono ?_
       rintro e w5 ⟨a5, c5, rfl, hl5, hC5, hb5⟩
       refine ⟨_, rfl, ?_⟩
       refine hK.out _ _ (below_step hHeld hb5) (fun hHeld => ?_)
       clear hK K
       refine norm_ (a' := ?_) ?_ ?_
       rotate_left
       ·show Act.put _ (some 43) _ = _
        simp only [Act.put, Qp1, Qp2, Qp3, i64_w, i32_w]
        rfl
       refine pure_ (i := 8) (N := some 44) (v := ?_) (a' := ?_) (Qbz 10 1023) rfl rfl (by kernel_rfl) (fun _ _ _ h => h) (Or.inl ⟨by rfl, ?_⟩) ?_ ?_
       rotate_left
       ·intro w'
        go_simp
        with_reducible rfl
       rotate_left
       ·simp only [Act.put, Qp1, Qp2, Qp3, i64_w, i32_w]
        rfl
       refine done_ (by kernel_rfl) ?_
       have HBF := Aside0.mk hHeld
       have HC5 := Aside0.mk hC5
       have HL5 := Aside0.mk hl5
       clear hHeld hC5 hl5
       go_wp2
       go_loopg [10, 45] N (fun kq v10 v45 w' => ∃ (x : Nat) (acc : List Int), v45 = .int .i64 (x : Int) ∧ x + kq = N ∧ Aside0 (acc ++ ones d kq x = r1) ∧ acc.length ≤ x ∧ Aside0 (w'.ownsRow w5.heap.size 3 1 v10 acc.length (acc.map (Value.int .i64))) ∧ Aside0 (Below w5.heap.size w5 w'))
       case atStart => exact ⟨0, [], rfl, by omega, ⟨by simpa using HRES.out⟩, by simp, ⟨own_nil _ _ _ _⟩, ⟨Below.refl _ _⟩⟩
       case round =>
        clear HRES
        obtain ⟨x, acc, rfl, hx, HR1, hacc, HO1, HB5⟩ := hrel
        by_cases hxn : x < N
        ·have hk1 : ((x : Int) < (N : Int)) = True := eq_true (by omega)
         have hk2 : decide ((x : Int) < (N : Int)) = true := decide_eq_true (by omega)
         cases gk with
         | zero => omega
         | succ gx =>
         obtain ⟨ad', e3, hcl⟩ := Kd.at_int (Kd.C_below HC5.out HB5.out) (x : Int) (by omega) (by rw [HL5.out]; omega)
         injection e3 with e3
         subst e3
         rw [Int.toNat_natCast] at hcl
         have hr1 := HR1.out
         simp only [ones] at hr1
         generalize rd d (x : Int) = cv at *
         by_cases hc1v : cv = 1
         ·have hq1v : (cv == 1) = true := beq_iff_eq.mpr hc1v
          rw [hq1v, if_pos rfl] at hr1
          have HR2 := Aside0.mk hr1
          clear hr1 HR1 hc1v
          go_wp2_with (at_builtin; refine wpList_append_own_at _ rfl _ _ 22 rfl w5.heap.size 3 i3 (.int .i64 0) 1 8 Tryd.underlying22 hi3 hq0 hq1 hq2 rfl (by decide) u10 acc.length (acc.map (Value.int .i64)) rfl (HO1.out.alloc _) ⟨wr.heap.size, 0, none⟩ 1 1 [.int .i64 (x : Int)] rfl rfl (cell_one_new _ _ _) (by simp [Value.oneCell']) (by unfold maxLen; omega) (by omega) (by have := HB5.out.size; simp; omega) ?_; intro v8 w8 hown8 hg8 _ _)
          go_roundg gx
          case measure => omega
          case rel =>
           refine ⟨x + 1, acc ++ [(x : Int)], by go_num, by omega, ⟨by simpa using HR2.out⟩, by simp; omega, ⟨?_⟩, ⟨pw_below_grown (below_alloc HB5.out _) _ (by have := HB5.out.size; simp; omega) hg8 (fun r e => own_base HO1.out r e)⟩⟩
           rw [List.length_append, List.map_append]
           exact hown8
         ·have hq1v : (cv == 1) = false := beq_eq_false_iff_ne.mpr hc1v
          rw [hq1v, if_neg Bool.false_ne_true] at hr1
          have HR2 := Aside0.mk hr1
          clear hr1 HR1 hc1v
          go_wp2
          go_roundg gx
          case measure => omega
          case rel => exact ⟨x + 1, acc, by go_num, by omega, HR2, by omega, HO1, HB5⟩
        ·have hk1 : ((x : Int) < (N : Int)) = False := eq_false (by omega)
         have hk2 : decide ((x : Int) < (N : Int)) = false := decide_eq_false (by omega)
         obtain rfl : gk = 0 := by omega
         have hr1 := HR1.out
         simp only [ones, List.append_nil] at hr1
         subst hr1
         clear HR1
         go_wp2
         go_ret2
         have hww : Below w.heap.size w w5 := below_step HB1.out HBF.out
         exact ⟨_, rfl, Kd.R_lower (Kd.R_of_own (ok := fun _ => True) HO1.out (fun _ _ => trivial)) hww.size, below_step hww HB5.out⟩
  ·rw [if_neg hchk] at h
   injection h with h
   injection h with h1 h2
   subst h1 h2
   have HRD := Aside0.mk (read_no hlen (by simpa using hchk) A0 c0 w hr0 hc0)
   clear hchk hr0 hc0
   go_enter Tryd.func40, Tryd.ntmps40
   go_wp2_with (go_at_call 49; refine HRD.out.mono ?_; rintro e w1 ⟨v, rfl, hb1⟩)
   go_ret2
   exact ⟨_, rfl, Kd.R_nil _ _ _ _ _, hb1⟩
 ·rw [if_neg hlen] at h
  cases h
theorem tryC_mono (kd : Nat) (S0 : List Int) (kk : Int) (BS : List Bool) (LS : List (List Int)) (g g' : List Int → Option (Option (List Int))) (h : ∀ s, LeO (g s) (g' s)) (st : List Int) (x c : Int) : LeO (tryC kd S0 kk BS LS g st x c) (tryC (kd + 1) S0 kk BS LS g' st x c) := by
 unfold tryC
 exact LeO.bind (sweep_family_decide.mono S0 kk BS LS st x c kd) fun r => LeO.ite (h _) (LeO.refl _)
theorem tailC_mono (g g' : Int → Option (Option (List Int))) (h : ∀ c, LeO (g c) (g' c)) : ∀ cs, LeO (tailC g cs) (tailC g' cs)
 | [] => LeO.refl _
 | c :: cs => LeO.bind (h c) fun o => by
  cases o with
  | none => exact tailC_mono g g' h cs
  | some d => exact LeO.refl _
theorem chF_mono (kd : Nat) (S0 : List Int) (kk : Int) (BS : List Bool) (LS : List (List Int)) : ∀ m st, LeO (chF kd S0 kk BS LS m st) (chF (kd + 1) S0 kk BS LS (m + 1) st)
 | 0, _ => LeO.none _
 | m + 1, st => LeO.ite (LeO.refl _) (tailC_mono _ _ (fun c => tryC_mono kd S0 kk BS LS _ _ (fun s => chF_mono kd S0 kk BS LS m s) st _ c) _)
theorem sweep_Blockage.mono : ∀ (g : List Int) (a : Int) k, LeO (sweep_Blockage.f k g a) (sweep_Blockage.f (k + 1) g a) := fun g a k => by
 unfold sweep_Blockage.f
 refine LeO.ite (LeO.ite (LeO.ite (LeO.refl _) (LeO.ite (LeO.refl _) ?_)) (LeO.refl _)) (LeO.none _)
 refine LeO.bind (LeO.refl _) fun r => LeO.ite (LeO.refl _) ?_
 unfold blR
 exact LeO.bind (chF_mono k _ _ _ _ k _) fun o => LeO.refl _
end Go.Proofs.YtijfddobandcdaaDoor.X
end
section
namespace Go.Proofs.YtijfddobandcdaaDoor.X
open Go.RowKit YtijfddobandcdaaDoorW.PrintWords YtijfddobandcdaaDoorW.PrintLast YtijfddobandcdaaDoorW.PrintMore
attribute [local go_sem] max2_int min2_int max_two min_two max_three min_three max_four min_four
/-! ### slices_Clone_int_int: function 57 -/
def slices_Clone_int_int.f (l0 : List Int) : Option (List Int) := (some (([] : List Int) : List Int)).bind fun y187 => (if y187.length + l0.length < 17592186044416 then (some (y187 ++ l0)) else (none))
set_option maxHeartbeats 8000000 in
set_option maxRecDepth 100000 in
theorem slices_Clone_int_int.calls_some (a0 : Addr) (c0 : Nat) (l0 : List Int) (r : List Int) (w : World) (hr0 : Kd.C (Kd.int .i64) w (some a0) l0.length l0) (hc0 : l0.length ≤ c0) (h : slices_Clone_int_int.f l0 = some r) :
  Calls Tryd.prog 57 #[.slice (some a0) l0.length c0] w fun e w' => ∃ v0_ : Value, e = .returned (v0_) ∧ Kd.R (Kd.int .i64) 3 w' w.heap.size (fun _ => True) v0_ r ∧ Below w.heap.size w w' := by
 have HR0 := Aside0.mk hr0
 have HC0 := Aside0.mk hc0
 clear hr0 hc0
 have HB := Aside0.mk (Below.refl w.heap.size w)
 have H : ((some (([] : List Int) : List Int)).bind fun y187 => (if y187.length + l0.length < 17592186044416 then (some (y187 ++ l0)) else (none))) = some r := h
 clear h
 obtain ⟨y187, hy187⟩ : ∃ y_ : List Int, y_ = (([] : List Int)) := ⟨_, rfl⟩
 replace H : (if y187.length + l0.length < 17592186044416 then (some (y187 ++ l0)) else (none)) = some r := by first | (rw [hy187]; with_reducible exact H) | (have H2_ := (Option.bind_some _ _).symm.trans H; rw [hy187]; with_reducible exact H2_) | (have H2_ := (Option.bind_some _ _).symm.trans H; with_reducible exact H2_) | with_reducible exact H | (rw [hy187]; exact H) | exact H
 have Ny187 := Aside0.mk hy187
 clear hy187
 by_cases c2 : y187.length + l0.length < 17592186044416
 ·rw [if_pos c2] at H
  have LMc2 := Aside0.mk c2
  clear c2
  obtain ⟨y190, hy190⟩ : ∃ y_ : List Int, y_ = (y187 ++ l0) := ⟨_, rfl⟩
  replace H : (some y190) = some r := by first | (rw [hy190]; with_reducible exact H) | (have H2_ := (Option.bind_some _ _).symm.trans H; rw [hy190]; with_reducible exact H2_) | (have H2_ := (Option.bind_some _ _).symm.trans H; with_reducible exact H2_) | with_reducible exact H | (rw [hy190]; exact H) | exact H
  have Ny190 := Aside0.mk hy190
  clear hy190
  obtain rfl := Option.some.inj H
  have heq_ := fun (w : World) => Lib.run_eql_slice_nil (P := Tryd.prog) w 22 3 (some a0) l0.length c0 0 0 Tryd.underlying22
  go_enter Tryd.func57, Tryd.ntmps57
  go_wp2_with (first | ((with_reducible refine gate_dst (N := 5) rfl ?_); refine Kd.R_lit (Kd.int .i64) _ 3 ?hg (N := 5) ?hd (xs := ([] : List Int)) (inner := []) (ok := fun _ => True) (okp := fun _ => True) ?hr ?hp (fun _ hk => hk) trivial (Below.refl _ _) (Nat.le_refl _) (by simp) ?_; (case hd => rfl); (case hg => rfl); (case hr => first | (go_simp; done) | (go_simp; rfl)); (case hp => exact (Reps.none _ _)); intro v188 w3 ho4 hb hg_ hnew_; clear hg_ hnew_; (first | rw [← Ny187.out] at ho4 | (simp only [Int.reduceToNat] at ho4; rw [← Ny187.out] at ho4)); have n0_ := Aside0.mk (Kd.R_lower ho4 (below_size (Qaw))); have n1_ := Aside0.mk (below_step (Qaw) hb); clear HB; have HO189 := n0_; have HB := n1_; clear n0_ n1_; clear hb ho4) | ((with_reducible refine gate_builtin (b := .append) (xs := #[.tmp 5, .tmp 6]) rfl ?_); at_builtin; refine Kd.R_append_rows (Kd.int .i64) (w0 := w) w.heap.size rfl (.tmp 5) (.tmp 6) 22 3 (.int .i64 0) 8 rfl Tryd.underlying22 info3 rfl (by decide) (by omega) v188 y187 l0 _ _ _ (fun _ => True) (fun _ => False) rfl rfl ?aO ?aR (fun _ _ h => h) (fun _ h => h.elim) ?aF ?aB ?aS ?aL ?_; (case aR => exact Qsc (Kd.C_below HR0.out HB.out)); (case aB => exact (Qaw)); (case aF => exact (fun _ _ => trivial)); (case aO => exact (Qro HO189.out)); (case aS => exact (below_size (Qaw))); (case aL => have := LMc2.out; omega); intro v191 w5 ho hb hg hat; rw [← Ny190.out] at ho; have n0_ := Aside0.mk (hb); have n1_ := Aside0.mk (ho); clear HB; clear HO189; have HB := n0_; have HO192 := n1_; clear n0_ n1_; clear ho hb hg hat))
  go_ret
  exact ⟨_, by first | rfl | (simp [errW_none, errW_some] <;> rfl) | (simp [*, errW_none, errW_some] <;> rfl), by (with_reducible repeat (first | apply Kd.R_alloc | apply Kd.R_drewN | apply Kd.R_drew)); exact HO192.out, by repeat (first | (with_reducible first | exact HB.out | apply below_alloc | apply pw_below_drewN | apply below_drew1) | exact HB.out)⟩
 ·rw [if_neg c2] at H
  exact absurd H (by simp)
theorem slices_Clone_int_int.calls (A0 : Option Addr) (c0 : Nat) (l0 : List Int) (r : List Int) (w : World) (hr0 : Kd.C (Kd.int .i64) w A0 l0.length l0) (hc0 : l0.length ≤ c0) (h : slices_Clone_int_int.f l0 = some r) :
  Calls Tryd.prog 57 #[.slice A0 l0.length c0] w fun e w' => ∃ v0_ : Value, e = .returned (v0_) ∧ Kd.R (Kd.int .i64) 3 w' w.heap.size (fun _ => True) v0_ r ∧ Below w.heap.size w w' := by
 cases A0 with
 | some a0 => exact slices_Clone_int_int.calls_some a0 c0 l0 r w hr0 hc0 h
 | none =>
  have hl : l0 = [] := by
   rcases Nat.eq_zero_or_pos l0.length with h0 | h0
   ·exact List.length_eq_zero_iff.mp h0
   ·obtain ⟨ad, he, _⟩ := hr0.2.2 h0
    cases he
  subst hl
  obtain rfl : [] = r := by simpa [slices_Clone_int_int.f] using h
  clear h hr0 hc0
  have heq_ := fun (w : World) => Lib.run_eql_slice_nil (P := Tryd.prog) w 22 3 none 0 c0 0 0 Tryd.underlying22
  go_enter Tryd.func57, Tryd.ntmps57
  go_wp2
  go_ret
  exact ⟨_, rfl, Kd.R_nil _ _ _ _ _, Below.refl _ _⟩
end Go.Proofs.YtijfddobandcdaaDoor.X
end
section
namespace Go.Proofs.YtijfddobandcdaaDoor.X
open Go.RowKit YtijfddobandcdaaDoorW.PrintWords YtijfddobandcdaaDoorW.PrintLast YtijfddobandcdaaDoorW.PrintMore
attribute [local go_sem] max2_int min2_int max_two min_two max_three min_three max_four min_four
/-! ### lampblacklaw03_list: function 27 -/
def lampblacklaw03_list.f (l0 : List Int) : Option (List Int) := if 0 ≤ (mn (l0.length : Int) 140) then (if (mn (l0.length : Int) 140) ≤ (l0.length : Int) then ((slices_Clone_int_int.f (l0.take ((mn (l0.length : Int) 140) : Int).toNat)).bind fun t246 => (some t246)) else (none)) else (none)
set_option maxHeartbeats 8000000 in
set_option maxRecDepth 100000 in
theorem lampblacklaw03_list.calls (A0 : Option Addr) (c0 : Nat) (l0 : List Int) (r : List Int) (w : World) (hr0 : Kd.C (Kd.int .i64) w A0 l0.length l0) (hc0 : l0.length ≤ c0) (h : lampblacklaw03_list.f l0 = some r) :
  Calls Tryd.prog 27 #[.slice A0 l0.length c0] w fun e w' => ∃ v0_ : Value, e = .returned (v0_) ∧ Kd.R (Kd.int .i64) 3 w' w.heap.size (fun _ => True) v0_ r ∧ Below w.heap.size w w' := by
 have HR0 := Aside0.mk hr0
 have HC0 := Aside0.mk hc0
 clear hr0 hc0
 have HB := Aside0.mk (Below.refl w.heap.size w)
 have H : (if 0 ≤ (mn (l0.length : Int) 140) then (if (mn (l0.length : Int) 140) ≤ (l0.length : Int) then ((slices_Clone_int_int.f (l0.take ((mn (l0.length : Int) 140) : Int).toNat)).bind fun t246 => (some t246)) else (none)) else (none)) = some r := h
 clear h
 obtain ⟨ji2, hji2⟩ : ∃ j_ : Int, (mn (l0.length : Int) 140) = j_ := ⟨_, rfl⟩
 replace H : (if 0 ≤ (ji2) then (if (ji2) ≤ (l0.length : Int) then ((slices_Clone_int_int.f (l0.take ((ji2) : Int).toNat)).bind fun t246 => (some t246)) else (none)) else (none)) = some r := by first | (rw [hji2] at H; exact H) | (simp only [hji2] at H ⊢; exact H)
 (try (have hji2h : ji2 ≤ 140 := by (rw [← hji2]; unfold mn; (repeat' split) <;> omega)))
 (try (have hji2g : ji2 ≤ 64 := by omega))
 (try (have hji2l : 0 ≤ ji2 := by (rw [← hji2]; unfold mn; (repeat' split) <;> omega)))
 (try (have hji2m : 0 ≤ ji2 := by omega))
 have hji2_ : (if 140 < (l0.length : Int) then 140 else (l0.length : Int)) = ji2 := hji2
 by_cases c3 : 0 ≤ (ji2)
 ·rw [if_pos c3] at H
  have c3b0 := eq_true c3
  have c3b1 : decide (0 ≤ (ji2)) = true := decide_eq_true c3
  clear c3
  by_cases c4 : (ji2) ≤ (l0.length : Int)
  ·rw [if_pos c4] at H
   have c4b0 := eq_true c4
   have c4b1 : decide ((ji2) ≤ (l0.length : Int)) = true := decide_eq_true c4
   clear c4
   replace H := Option.bind_eq_some_iff.mp H
   obtain ⟨t246, A50, H⟩ := H
   replace H : (some t246) = some r := H
   have A5 := Aside0.mk A50
   clear A50
   obtain rfl := Option.some.inj H
   obtain ⟨i06, hi06, _, hsz6, _⟩ := info_parts info3
   obtain ⟨hcut6, hA6, hC6⟩ := print_take_of (P := Tryd.prog) (Value.int .i64) 0 22 3 .i64 Tryd.underlying22 hi06 hsz6 A0 c0 l0 (ji2) (of_decide_eq_true (by first | (with_reducible assumption) | assumption)) (of_decide_eq_true (by first | (with_reducible assumption) | assumption)) HC0.out
   have HR245 := Aside0.mk (Kd.C_of_reads (h1 := fun _ => rfl) (hA6 _ (Kd.reads_of_C HR0.out)))
   have HC245 := Aside0.mk hC6
   clear hA6 hC6 hi06 hsz6
   go_enter Tryd.func27, Tryd.ntmps27
   go_wp2_with (first | ((with_reducible refine gate_callee (f := 57) rfl ?_); refine goesL_ (some 8) rfl rfl Tryd.func57 (by kernel_rfl) rfl #[.slice A0 (l0.take ((ji2) : Int).toNat).length c0] rfl (by (try simp only [List.map_toArray, List.map_cons, List.map_nil]); first | done | (rw [show (l0.take ((ji2) : Int).toNat).length = (ji2).toNat from (by rw [List.length_take]; have h_ : ((ji2) : Int) ≤ (l0.length : Int) := of_decide_eq_true (by first | (with_reducible assumption) | assumption); omega)] <;> rfl) | (simp only [hji2]; rfl) | rfl | (simp only [List.length_drop, List.length_take]; rfl)) ?_; (with_reducible refine (slices_Clone_int_int.calls _ _ (l0.take ((ji2) : Int).toNat) t246 _ ?side1 ?side2 A5.out).mono ?_); (case side1 => exact Qsc HR245.out); (case side2 => exact HC245.out); rintro e w7 ⟨v247, rfl, ho0, hb⟩; refine ⟨_, rfl, ?_⟩; have n0_ := Aside0.mk (Kd.R_lower ho0 (below_size (Qaw))); have n1_ := Aside0.mk (below_step (Qaw) hb); clear HB; have HO248 := n0_; have HB := n1_; clear n0_ n1_; (try clear hb); (try clear hb2); (try clear hk); (try clear hi); (try clear ho0)))
   go_ret
   exact ⟨_, by first | rfl | (simp [errW_none, errW_some] <;> rfl) | (simp only [← hji2]; first | rfl | (simp [errW_none, errW_some] <;> rfl)) | (simp [*, errW_none, errW_some] <;> rfl), by (with_reducible repeat (first | apply Kd.R_alloc | apply Kd.R_drewN | apply Kd.R_drew)); exact HO248.out, by repeat (first | (with_reducible first | exact HB.out | apply below_alloc | apply pw_below_drewN | apply below_drew1) | exact HB.out)⟩
  ·rw [if_neg c4] at H
   exact absurd H (by simp)
 ·rw [if_neg c3] at H
  exact absurd H (by simp)
end Go.Proofs.YtijfddobandcdaaDoor.X
end
section
namespace Go.Proofs.YtijfddobandcdaaDoor.X
open Go.RowKit YtijfddobandcdaaDoorW.PrintWords YtijfddobandcdaaDoorW.PrintLast YtijfddobandcdaaDoorW.PrintMore
attribute [local go_sem] max2_int min2_int max_two min_two max_three min_three max_four min_four
/-! ### lampblacklaw03_plan: function 39 -/
def lampblacklaw03_plan.l0 : Nat → List (S85) → List (S70) → Int → Int → Option ((List (S85)))
 | 0, _, _, _, _ => none
 | k + 1, x3, x6, x7, x8 => if x8 < x7 then (if 0 ≤ x8 then (if x8 < (x6.length : Int) then (if x8 < 110 then (if x3.length < 8796093022208 then (lampblacklaw03_plan.l0 k (x3 ++ [(⟨(rd_T70 x6 x8).f0, (rd_T70 x6 x8).f1⟩ : S85)]) x6 x7 (wrap64 (x8 + 1))) else (none)) else (lampblacklaw03_plan.l0 k x3 x6 x7 (wrap64 (x8 + 1)))) else (none)) else (none)) else (some x3)
def lampblacklaw03_plan.f (k : Nat) (l0 : List (S70)) : Option ((List (S85))) := lampblacklaw03_plan.l0 k ([] : List (S85)) l0 (l0.length : Int) 0
set_option maxHeartbeats 8000000 in
set_option maxRecDepth 100000 in
theorem lampblacklaw03_plan.calls (k : Nat) (A0 : Option Addr) (c0 : Nat) (l0 : List (S70)) (r : List (S85)) (w : World) (hr0 : Kd.C k70 w A0 l0.length l0) (hc0 : l0.length ≤ c0) (h : lampblacklaw03_plan.f k l0 = some r) :
  Calls Tryd.prog 39 #[.slice A0 l0.length c0] w fun e w' => ∃ v0_ : Value, e = .returned (v0_) ∧ Kd.R k85 85 w' w.heap.size (fun _ => True) v0_ r ∧ Below w.heap.size w w' := by
 have hu70 := Tryd.underlying70
 have hu85 := Tryd.underlying85
 have HR0 := Aside0.mk hr0
 have HC0 := Aside0.mk hc0
 clear hr0 hc0
 have HB := Aside0.mk (Below.refl w.heap.size w)
 have H : (lampblacklaw03_plan.l0 k ([] : List (S85)) l0 (l0.length : Int) 0) = some r := h
 clear h
 have H' := Aside0.mk H
 clear H
 go_enter Tryd.func39, Tryd.ntmps39
 go_wp2
 go_loopg [3, 8] k (fun kq v3 v8 w' => ∃ (x3_1 : List (S85)) (x8_1 : Int), v8 = .int .i64 x8_1 ∧ Aside0 (lampblacklaw03_plan.l0 kq x3_1 l0 (l0.length : Int) x8_1 = some r) ∧ Aside0 (kq ≤ k) ∧ Aside0 (Kd.R k85 85 w' w.heap.size (fun _ => True) v3 x3_1) ∧ Aside0 (Below w.heap.size w w'))
 case atStart => exact ⟨(([] : List (S85))), (0), (by first | rfl | (simp; done) | (simp [*]; done)), H', ⟨Nat.le_refl _⟩, ⟨by first | exact Kd.R_nil _ _ _ _ _ | exact Kd.N_nil _ _ _ _ _ | exact Kd.V_nil _ _ _ _ _ | exact Kd.Q_nil _ _ _ _ _ | exact Kd.S_nil _ _ _ _ _⟩, ⟨by repeat (first | (with_reducible first | exact HB.out | apply below_alloc | apply pw_below_drewN | apply below_drew1) | exact HB.out)⟩⟩
 case round =>
  clear H'
  obtain ⟨x3_1, x8_1, rfl, HA, HK1, HO_3, HB⟩ := hrel
  cases gk with
  | zero => exact absurd HA.out (by simp [lampblacklaw03_plan.l0])
  | succ k1 =>
   have H := HA.out
   clear HA
   simp only [lampblacklaw03_plan.l0] at H
   by_cases c2 : x8_1 < (l0.length : Int)
   ·rw [if_pos c2] at H
    have c2b0 : decide (x8_1 < (l0.length : Int)) = true := decide_eq_true c2
    clear c2
    by_cases c3 : 0 ≤ x8_1
    ·rw [if_pos c3] at H
     have c3b0 : decide (0 ≤ x8_1) = true := decide_eq_true c3
     clear c3
     by_cases c4 : x8_1 < (l0.length : Int)
     ·rw [if_pos c4] at H
      have c4b0 : decide (x8_1 < (l0.length : Int)) = true := decide_eq_true c4
      clear c4
      by_cases c5 : x8_1 < 110
      ·rw [if_pos c5] at H
       have c5b0 : decide (x8_1 < 110) = true := decide_eq_true c5
       clear c5
       by_cases c6 : x3_1.length < 8796093022208
       ·rw [if_pos c6] at H
        have LMc6 := Aside0.mk c6
        clear c6
        obtain ⟨y413, hy413⟩ : ∃ y_ : List (S85), y_ = (x3_1 ++ [(⟨(rd_T70 l0 x8_1).f0, (rd_T70 l0 x8_1).f1⟩ : S85)]) := ⟨_, rfl⟩
        replace H : (lampblacklaw03_plan.l0 k1 y413 l0 (l0.length : Int) (wrap64 (x8_1 + 1))) = some r := by first | (rw [hy413]; with_reducible exact H) | (have H2_ := (Option.bind_some _ _).symm.trans H; rw [hy413]; with_reducible exact H2_) | (have H2_ := (Option.bind_some _ _).symm.trans H; with_reducible exact H2_) | with_reducible exact H | (rw [hy413]; exact H) | exact H
        have Ny413 := Aside0.mk hy413
        clear hy413
        have H' := Aside0.mk H
        clear H
        have p411 : 0 ≤ (x8_1 : Int) := of_decide_eq_true (by first | (with_reducible assumption) | assumption)
        have q411 : x8_1 < (l0.length : Int) := of_decide_eq_true (by first | (with_reducible assumption) | assumption)
        obtain ⟨ad411, e411, hx411_0, hx411_1⟩ := at_T70 HR0.out x8_1 p411 q411
        cases e411
        replace hx411_0 := (HB.out.cell (World.block_lt_of_cell? w _ hx411_0)).trans hx411_0
        replace hx411_1 := (HB.out.cell (World.block_lt_of_cell? w _ hx411_1)).trans hx411_1
        replace p411 := eq_true p411
        replace q411 := eq_true q411
        go_wp2_with (first | ((with_reducible refine gate_dst (N := 5) rfl ?_); refine box_event ?hg (N := 5) ?hd (cs := #[.bool false, .int .i64 0]) (t := 70) ?hr ?_; (case hd => rfl); (case hg => rfl); (case hr => first | (go_simp; done) | (go_simp; rfl)); intro gb412 hg w7 hbox hb; have n0_ := Aside0.mk (Kd.R_below (Qro HO_3.out) hb); have n1_ := Aside0.mk (below_step (Qaw) hb); have n2_ := Aside0.mk (hbox); have n3_ := Aside0.mk ((by rw [hg]; exact (below_size (Qaw)) : w.heap.size ≤ gb412)); have n4_ := Aside0.mk ((by rw [hg]; exact (below_size (Qaw)) : w.heap.size ≤ gb412)); clear HO_3; clear HB; have HO_3 := n0_; have HB := n1_; have BK412 := n2_; have GW412 := n3_; have GE412 := n4_; clear n0_ n1_ n2_ n3_ n4_; clear hb hbox hg; have hcz8_0 : w7.cell? ⟨gb412, 0, none⟩ = some (.bool false) := (blk_cell BK412.out 0).trans rfl; have hcz8_1 : w7.cell? ⟨gb412, 1, none⟩ = some (.int .i64 0) := (blk_cell BK412.out 1).trans rfl; have hfz8_0 := blk_frozen BK412.out 0; have hfz8_1 := blk_frozen BK412.out 1) | ((with_reducible refine gate_builtin (b := .append) (xs := #[.tmp 15, .tmp 21]) rfl ?_); at_builtin; refine Kd.R_append k85 (w0 := w) w.heap.size rfl (.tmp 15) (.tmp 21) 35 85 (.agg #[(.bool false), (.int .i64 0)]) 16 rfl Tryd.underlying35 info85 rfl (by decide) (by omega) u3 x3_1 (⟨(rd_T70 l0 x8_1).f0, (rd_T70 l0 x8_1).f1⟩ : S85) [.bool ((rd_T70 l0 x8_1).f0), .int .i64 ((rd_T70 l0 x8_1).f1)] (fun _ => True) (fun _ => False) rfl (by first | (go_simp; done) | (go_simp; rfl)) ?aP (fun _ hk => hk.elim) ?aF ?aO ?aB ?aS ?aL ?_; (case aP => exact k85_mkM _ _ _ (⟨(rd_T70 l0 x8_1).f0, (rd_T70 l0 x8_1).f1⟩ : S85)); (case aB => exact (by repeat (first | (with_reducible first | exact HB.out | apply below_alloc | apply pw_below_drewN | apply below_drew1 | refine below_set ?_ GE412.out) | exact HB.out))); (case aF => exact (fun _ _ => trivial)); (case aO => exact (by (with_reducible repeat (first | apply Kd.R_alloc | apply Kd.R_drewN | apply Kd.R_drew)); exact Kd.R_mono (Kd.R_far (p := ⟨gb412, 1, none⟩) (Kd.R_far (p := ⟨gb412, 0, none⟩) (Kd.R_types HO_3.out BK412.out (by decide)) (fun _ hk => hk.2) (.bool ((rd_T70 l0 x8_1).f0))) (fun _ hk => hk.2) (.int .i64 ((rd_T70 l0 x8_1).f1))) (fun _ hk => trivial))); (case aS => exact (below_size (by repeat (first | (with_reducible first | exact HB.out | apply below_alloc | apply pw_below_drewN | apply below_drew1 | refine below_set ?_ GE412.out) | exact HB.out)))); (case aL => have := LMc6.out; omega); intro v414 w9 ho hb hg hat; rw [← Ny413.out] at ho; have n0_ := Aside0.mk (blk_grown (g := gb412) (o := .cells #[.bool ((rd_T70 l0 x8_1).f0), .int .i64 ((rd_T70 l0 x8_1).f1)] 70 (0, 0)) (by (with_reducible repeat (first | refine blk_drewN ?_ _ | refine blk_drew ?_ | refine blk_alloc ?_ _)); refine blk_put (cs := #[.bool ((rd_T70 l0 x8_1).f0), .int .i64 0]) ?_ 1 _ rfl; (with_reducible repeat (first | refine blk_drewN ?_ _ | refine blk_drew ?_ | refine blk_alloc ?_ _)); refine blk_put (cs := #[.bool false, .int .i64 0]) ?_ 0 _ rfl; (with_reducible repeat (first | refine blk_drewN ?_ _ | refine blk_drew ?_ | refine blk_alloc ?_ _)); exact BK412.out) hg (Kd.R_ne HO_3.out BK412.out (by decide))); have n1_ := Aside0.mk (hb); have n2_ := Aside0.mk (ho); clear BK412; clear HB; clear HO_3; have BK412 := n0_; have HB := n1_; have HO415 := n2_; clear n0_ n1_ n2_; clear ho hb hg hat))
        go_roundg k1
        case measure => have := HK1.out; omega
        case rel => exact ⟨(y413), (wrap64 (x8_1 + 1)), (by first | rfl | (simp; done) | (simp [*]; done)), H', ⟨by have := HK1.out; omega⟩, ⟨by (with_reducible repeat (first | apply Kd.R_alloc | apply Kd.R_drewN | apply Kd.R_drew)); exact HO415.out⟩, ⟨by repeat (first | (with_reducible first | exact HB.out | apply below_alloc | apply pw_below_drewN | apply below_drew1 | refine below_set ?_ GE412.out) | exact HB.out)⟩⟩
       ·rw [if_neg c6] at H
        exact absurd H (by simp)
      ·rw [if_neg c5] at H
       have c5b0 : decide (x8_1 < 110) = false := decide_eq_false c5
       clear c5
       have H' := Aside0.mk H
       clear H
       have p411 : 0 ≤ (x8_1 : Int) := of_decide_eq_true (by first | (with_reducible assumption) | assumption)
       have q411 : x8_1 < (l0.length : Int) := of_decide_eq_true (by first | (with_reducible assumption) | assumption)
       obtain ⟨ad411, e411, hx411_0, hx411_1⟩ := at_T70 HR0.out x8_1 p411 q411
       cases e411
       replace hx411_0 := (HB.out.cell (World.block_lt_of_cell? w _ hx411_0)).trans hx411_0
       replace hx411_1 := (HB.out.cell (World.block_lt_of_cell? w _ hx411_1)).trans hx411_1
       replace p411 := eq_true p411
       replace q411 := eq_true q411
       go_wp2_with (first | ((with_reducible refine gate_dst (N := 5) rfl ?_); refine box_event ?hg (N := 5) ?hd (cs := #[.bool false, .int .i64 0]) (t := 70) ?hr ?_; (case hd => rfl); (case hg => rfl); (case hr => first | (go_simp; done) | (go_simp; rfl)); intro gb412 hg w10 hbox hb; have n0_ := Aside0.mk (Kd.R_below (Qro HO_3.out) hb); have n1_ := Aside0.mk (below_step (Qaw) hb); have n2_ := Aside0.mk (hbox); have n3_ := Aside0.mk ((by rw [hg]; exact (below_size (Qaw)) : w.heap.size ≤ gb412)); have n4_ := Aside0.mk ((by rw [hg]; exact (below_size (Qaw)) : w.heap.size ≤ gb412)); clear HO_3; clear HB; have HO_3 := n0_; have HB := n1_; have BK412 := n2_; have GW412 := n3_; have GE412 := n4_; clear n0_ n1_ n2_ n3_ n4_; clear hb hbox hg; have hcz11_0 : w10.cell? ⟨gb412, 0, none⟩ = some (.bool false) := (blk_cell BK412.out 0).trans rfl; have hcz11_1 : w10.cell? ⟨gb412, 1, none⟩ = some (.int .i64 0) := (blk_cell BK412.out 1).trans rfl; have hfz11_0 := blk_frozen BK412.out 0; have hfz11_1 := blk_frozen BK412.out 1))
       go_roundg k1
       case measure => have := HK1.out; omega
       case rel => exact ⟨(x3_1), (wrap64 (x8_1 + 1)), (by first | rfl | (simp; done) | (simp [*]; done)), H', ⟨by have := HK1.out; omega⟩, ⟨by (with_reducible repeat (first | apply Kd.R_alloc | apply Kd.R_drewN | apply Kd.R_drew)); exact Kd.R_mono (Kd.R_far (p := ⟨gb412, 1, none⟩) (Kd.R_far (p := ⟨gb412, 0, none⟩) (Kd.R_types HO_3.out BK412.out (by decide)) (fun _ hk => hk.2) (.bool ((rd_T70 l0 x8_1).f0))) (fun _ hk => hk.2) (.int .i64 ((rd_T70 l0 x8_1).f1))) (fun _ hk => trivial)⟩, ⟨by repeat (first | (with_reducible first | exact HB.out | apply below_alloc | apply pw_below_drewN | apply below_drew1 | refine below_set ?_ GE412.out) | exact HB.out)⟩⟩
     ·rw [if_neg c4] at H
      exact absurd H (by simp)
    ·rw [if_neg c3] at H
     exact absurd H (by simp)
   ·rw [if_neg c2] at H
    have c2b0 : decide (x8_1 < (l0.length : Int)) = false := decide_eq_false c2
    clear c2
    obtain rfl := Option.some.inj H
    go_wp2
    go_ret
    exact ⟨_, by first | rfl | (simp [errW_none, errW_some] <;> rfl) | (simp [*, errW_none, errW_some] <;> rfl), by (with_reducible repeat (first | apply Kd.R_alloc | apply Kd.R_drewN | apply Kd.R_drew)); exact HO_3.out, by repeat (first | (with_reducible first | exact HB.out | apply below_alloc | apply pw_below_drewN | apply below_drew1) | exact HB.out)⟩
end Go.Proofs.YtijfddobandcdaaDoor.X
end
section
/- sweep.follow, by hand: the plan of bags. -/
namespace Go.Proofs.YtijfddobandcdaaDoor.X
open Go.RowKit Go.Shelf YtijfddobandcdaaDoorW.PrintWords YtijfddobandcdaaDoorW.PrintLast YtijfddobandcdaaDoorW.PrintMore YtijfddobandcdaaDoor.T
attribute [local go_sem] Oper.semAt_some
def folTo (b : Bool) : Nat → Nat → List S85 → Option (List S85)
 | 0, _, _ => none
 | k + 1, z, xs => if z = 0 then some xs else folTo b k (rest z) (xs ++ [⟨b, ((Lib.ctz 64 z : Nat) : Int)⟩])
def encP (p : S85) (c : List Value) : Prop := c = [.bool p.f0, .int .i64 p.f1]
structure FK (w : World) (l0 : List Int) (H g cp c : Nat) (b : Bool) (tgt : List S85) (ds : List Deferred) (z : Nat) (V : World) (xs : List S85) (v : Value) (inner : List Value) : Prop where
 go : ∃ k, folTo b k z xs = some tgt
 below : Below w.heap.size w V
 o : Boxed V w.heap.size 35 v
 own : V.ownsRow H 85 2 v xs.length inner
 reps : Reps encP 2 xs inner
 row : V.ownsRow w.heap.size 3 1 (.slice (some ⟨g, 0, none⟩) (l0.length + 1) cp) (l0.length + 1) ((l0 ++ [0]).map (Value.int .i64))
 apart : ∀ b, v.ownBlock = some b → b ≠ c
 marks : Marks w.heap.size c ds V
 top : c < V.heap.size
theorem FK.appended {w : World} {l0 : List Int} {H g cp c : Nat} {b : Bool} {tgt : List S85} {ds : List Deferred} {z z2 k : Nat} {V w5 : World} {xs : List S85} {v : Value} {inner : List Value} {y : Int} {g2 cp2 : Nat} (h : FK w l0 H g cp c b tgt ds z V xs v inner) (hw : w.heap.size < g) (hgH : g < H) (hHc : H ≤ c)
  (hgo : folTo b k z2 (xs ++ [⟨b, y⟩]) = some tgt) (hown : w5.ownsRow H 85 2 (.slice (some ⟨g2, 0, none⟩) (xs.length + 1) cp2) (xs.length + 1) (inner ++ [.bool b, .int .i64 y])) (hg : (V.alloc (.cells #[.bool b, .int .i64 y] 85)).grownBy w5 v.ownBlock) (hat : (Value.slice (some ⟨g2, 0, none⟩) (xs.length + 1) cp2).ownBlock = v.ownBlock ∨ (Value.slice (some ⟨g2, 0, none⟩) (xs.length + 1) cp2).ownBlock = some (V.alloc (.cells #[.bool b, .int .i64 y] 85)).heap.size) :
  KeepsOthers V (w5.setCell ⟨w.heap.size, 0, none⟩ (.slice (some ⟨g2, 0, none⟩) (xs.length + 1) cp2)) ∧ (w5.setCell ⟨w.heap.size, 0, none⟩ (.slice (some ⟨g2, 0, none⟩) (xs.length + 1) cp2)).heap[c]? = V.heap[c]? ∧
  FK w l0 H g cp c b tgt ds z2 (w5.setCell ⟨w.heap.size, 0, none⟩ (.slice (some ⟨g2, 0, none⟩) (xs.length + 1) cp2)) (xs ++ [⟨b, y⟩]) (.slice (some ⟨g2, 0, none⟩) (xs.length + 1) cp2) (inner ++ [.bool b, .int .i64 y]) := by
 have htop := h.top
 have hvH : ∀ b, v.ownBlock = some b → H ≤ b := own_base h.own
 have hvl : ∀ b, v.ownBlock = some b → b < V.heap.size := own_lt h.own
 obtain ⟨hv1, hv2, _, hk2, hb2⟩ := h.o.appended (by decide) (ownsRow_mono h.own (show w.heap.size ≤ H by omega)) (by omega) (Nat.le_refl _) (ownsRow_mono hown (show w.heap.size ≤ H by omega)) hg
 have hg2 : g2 ≠ c ∧ g2 ≠ w.heap.size := by
  rcases hat with e | e
  ·have e1 : v.ownBlock = some g2 := e.symm
   have := hvH g2 e1
   exact ⟨h.apart g2 e1, by omega⟩
  ·have e1 : g2 = V.heap.size + 1 := by simpa [Value.ownBlock] using e
   exact ⟨by omega, by omega⟩
 refine ⟨hk2, ?_, ⟨k, hgo⟩, h.below.trans hb2, hv2, ?_, h.reps.snoc rfl rfl, ?_, fun b hb => ?_, h.marks.others hk2, Nat.lt_of_lt_of_le h.top hk2.size⟩
 ·exact (Below.heap_setCell w5 ⟨w.heap.size, 0, none⟩ _ c (by simp; omega)).trans ((hg.block c (by simp; omega) (fun e => h.apart c e.symm rfl)).trans (Below.heap_alloc _ _ _ htop))
 ·rw [List.length_append]
  exact own_kept hown (grownBy_set _ ⟨w.heap.size, 0, none⟩ _) (fun b hb e => by cases e; exact hg2.2 (by simpa [Value.ownBlock] using hb))
 ·refine own_kept (own_kept (h.row.alloc _) hg (fun b hb e => ?_)) (grownBy_set _ ⟨w.heap.size, 0, none⟩ _) (fun b hb e => ?_)
  ·obtain rfl : g = b := by simpa [Value.ownBlock] using hb
   have := hvH g e.symm
   omega
  ·obtain rfl : g = b := by simpa [Value.ownBlock] using hb
   have e2 : g = w.heap.size := Option.some.inj e
   omega
 ·obtain rfl : g2 = b := by simpa [Value.ownBlock] using hb
  exact hg2.1
end Go.Proofs.YtijfddobandcdaaDoor.X
end
section
/- sweep.Play, in plain words: streets, which of them are clear, steps. -/
namespace Go.Proofs.YtijfddobandcdaaDoor.X
open Go.RowKit YtijfddobandcdaaDoorW.PrintWords YtijfddobandcdaaDoorW.PrintLast YtijfddobandcdaaDoorW.PrintMore YtijfddobandcdaaDoor.T
def esOf (a s : Nat) : List (Nat × Nat) := if h : s = 0 then [] else (if a < Lib.ctz 64 s then [(a, Lib.ctz 64 s)] else []) ++ esOf a (rest s)
termination_by s
decreasing_by exact rest_lt s (by omega)
def esFrom (G : List Nat) : Nat → Nat → List (Nat × Nat)
 | 0, _ => []
 | d + 1, a => esOf a (G.getD a 0) ++ esFrom G d (a + 1)
def streets (G : List Nat) : List (Nat × Nat) := esFrom G G.length 0
def endsOf (E : List (Nat × Nat)) (i : Nat) : Nat := 2 ^ (E.getD i (0, 0)).1 ||| 2 ^ (E.getD i (0, 0)).2
def marksO (E : List (Nat × Nat)) (gd : Nat) : Nat → Nat → List Bool → List Bool
 | 0, _, C => C
 | d + 1, i, C => marksO E gd d (i + 1) (C.set i (C.getD i false || diff (endsOf E i) gd == 0))
def comes (E : List (Nat × Nat)) (gd : Nat) (C : List Bool) (i k : Nat) : Bool := C.getD i false && !C.getD k false && !(diff (endsOf E i &&& endsOf E k) gd == 0)
def spIn (E : List (Nat × Nat)) (gd : Nat) (C : List Bool) (i : Nat) : Nat → Nat → Bool
 | 0, _ => false
 | d + 1, k => if comes E gd C i k then true else spIn E gd C i d (k + 1)
def spOut (E : List (Nat × Nat)) (gd : Nat) (C : List Bool) : Nat → Nat → Option Nat
 | 0, _ => none
 | d + 1, i => if spIn E gd C i E.length 0 then some i else spOut E gd C d (i + 1)
def spAll (E : List (Nat × Nat)) (gd : Nat) : Nat → List Bool × Bool → List Bool × Bool
 | 0, s => s
 | n + 1, s => match spOut E gd s.1 E.length 0 with
  | none => s
  | some i => spAll E gd n (s.1.set i false, true)
structure OS where
 gd : Nat
 had : Nat
 bk : Bool
 C : List Bool
def stepO (E : List (Nat × Nat)) (s : OS) (v : Nat) : OS :=
 ⟨s.gd ^^^ 2 ^ v, s.had ||| (s.gd ^^^ 2 ^ v), (spAll E (s.gd ^^^ 2 ^ v) (E.length + 1) (marksO E (s.gd ^^^ 2 ^ v) E.length 0 s.C, s.bk)).2, (spAll E (s.gd ^^^ 2 ^ v) (E.length + 1) (marksO E (s.gd ^^^ 2 ^ v) E.length 0 s.C, s.bk)).1⟩
def doO (E : List (Nat × Nat)) (s : OS) (a : S85) : Option OS := if s.gd.testBit a.f1.toNat == a.f0 then none else some (stepO E s a.f1.toNat)
def ownTo (n : Nat) (E : List (Nat × Nat)) : List S85 → OS → Nat → Option (OS × Nat)
 | [], s, m => some (s, m)
 | a :: l, s, m => if a.f1 < 0 then none else if (n : Int) ≤ a.f1 then none else (doO E s a).bind fun s2 => ownTo n E l s2 (max m (pc s2.gd 9))
def finO (G : List Nat) : Option (OS × Nat) → Int × Bool × Bool
 | none => (0, false, false)
 | some (s, m) => if s.C.contains false then (0, false, false) else if s.had = 2 ^ G.length - 1 then ((m : Int), s.bk, true) else (0, false, false)
def o0 (E : List (Nat × Nat)) : OS := ⟨0, 0, false, List.replicate E.length false⟩
def ownPlay (G : List Nat) (l : List S85) : Int × Bool × Bool := if 100 < l.length then (0, false, false) else finO G (ownTo G.length (streets G) l (o0 (streets G)) 0)
theorem esOf_len (a : Nat) : ∀ s, (esOf a s).length ≤ s := by
 intro s
 induction s using Nat.strongRecOn with
 | ind s ih =>
  rw [esOf]
  split
  ·simp
  ·rename_i h
   have h1 := rest_lt s (by omega)
   have h2 := ih (rest s) h1
   rw [List.length_append]
   split <;> simp <;> omega
theorem esFrom_len {G : List Nat} (hG : Gr 7 G) : ∀ d a, (esFrom G d a).length ≤ d * 128
 | 0, _ => by simp [esFrom]
 | d + 1, a => by
  have h1 := esOf_len a (G.getD a 0)
  have h2 := esFrom_len hG d (a + 1)
  have h3 := hG.row a
  have h4 : 2 ^ G.length ≤ 2 ^ 7 := Nat.pow_le_pow_right (by omega) hG.most
  simp only [esFrom, List.length_append]
  omega
theorem streets_len {G : List Nat} (hG : Gr 7 G) : (streets G).length ≤ 896 := by
 have := esFrom_len hG G.length 0
 have := hG.most
 unfold streets
 omega
theorem marksO_len (E : List (Nat × Nat)) (gd : Nat) : ∀ d i C, (marksO E gd d i C).length = C.length
 | 0, _, _ => rfl
 | d + 1, i, C => by rw [marksO, marksO_len E gd d, List.length_set]
theorem spAll_len (E : List (Nat × Nat)) (gd : Nat) : ∀ n s, (spAll E gd n s).1.length = s.1.length
 | 0, _ => rfl
 | n + 1, s => by
  rw [spAll]
  cases spOut E gd s.1 E.length 0 with
  | none => rfl
  | some i =>
   show (spAll E gd n _).1.length = _
   rw [spAll_len E gd n, List.length_set]
theorem ctz_inS {s n : Nat} (h0 : s ≠ 0) (hs : s < 2 ^ n) (hn : n ≤ 9) : Lib.ctz 64 s < n ∧ s.testBit (Lib.ctz 64 s) = true := by
 have h5 : s < 512 := Nat.lt_of_lt_of_le hs (Nat.pow_le_pow_right (n := 2) (by omega) hn)
 have := (show ∀ z : Fin 512, 0 < z.val → z.val.testBit (Lib.ctz 64 z.val) = true from by decide +kernel) ⟨s, h5⟩ (by show 0 < s; omega)
 exact ⟨bit_lt hs this, this⟩
theorem rest_inS {z : Nat} (hz : z < 512) (h0 : z ≠ 0) (j : Nat) : bset (rest z) j ↔ bset z j ∧ j ≠ Lib.ctz 64 z := by
 have := (show ∀ z : Fin 512, 0 < z.val → rest z.val = diff z.val (2 ^ Lib.ctz 64 z.val) from by decide +kernel) ⟨z, hz⟩ (by show 0 < z; omega)
 rw [show rest z = diff z (2 ^ Lib.ctz 64 z) from this, diff_bset, two_pow_bit]
theorem esOf_mem {a n : Nat} (hn : n ≤ 9) : ∀ s, s < 2 ^ n → ∀ p : Nat × Nat, p ∈ esOf a s ↔ p.1 = a ∧ a < p.2 ∧ bset s p.2 := by
 intro s
 induction s using Nat.strongRecOn with
 | ind s ih =>
  intro hs p
  rw [esOf]
  have h5 : s < 512 := Nat.lt_of_lt_of_le hs (Nat.pow_le_pow_right (n := 2) (by omega) hn)
  split
  ·rename_i h
   subst h
   exact ⟨fun h => by simp at h, fun h => by have := h.2.2; unfold bset at this; simp at this⟩
  ·rename_i h
   have h1 := rest_lt s (by omega)
   obtain ⟨h2, h3⟩ := ctz_inS h hs hn
   have h4 := rest_inS h5 h p.2
   rw [List.mem_append, ih (rest s) h1 (by omega) p, h4]
   obtain ⟨x, y⟩ := p
   constructor
   ·rintro (h | ⟨q1, q2, q3, q4⟩)
    ·split at h
     ·rename_i hl
      have := List.mem_singleton.1 h
      cases this
      exact ⟨rfl, hl, h3⟩
     ·cases h
    ·exact ⟨q1, q2, q3⟩
   ·rintro ⟨q1, q2, q3⟩
    by_cases e : y = Lib.ctz 64 s
    ·left
     dsimp only at q1 q2 e
     subst q1
     rw [← e, if_pos q2]
     exact List.mem_singleton.2 rfl
    ·exact .inr ⟨q1, q2, q3, e⟩
theorem esFrom_mem {G : List Nat} (hG : Gr 7 G) : ∀ d a, a + d = G.length → ∀ p : Nat × Nat, p ∈ esFrom G d a ↔ a ≤ p.1 ∧ p.1 < p.2 ∧ Adj G p.1 p.2
 | 0, a, ha, p => ⟨fun h => by simp [esFrom] at h, fun h => by have := hG.adj_lt' h.2.2; omega⟩
 | d + 1, a, ha, p => by
  have hn := hG.most
  simp only [esFrom]
  rw [List.mem_append, esOf_mem (n := G.length) (by omega) _ (hG.row a) p, esFrom_mem hG d (a + 1) (by omega) p]
  obtain ⟨x, y⟩ := p
  constructor
  ·rintro (⟨q1, q2, q3⟩ | ⟨q1, q2, q3⟩)
   ·dsimp only at q1 q2 q3
    subst q1
    exact ⟨Nat.le_refl _, q2, q3⟩
   ·exact ⟨by omega, q2, q3⟩
  ·rintro ⟨q1, q2, q3⟩
   dsimp only at q1 q2 q3
   by_cases e : x = a
   ·subst e
    exact .inl ⟨rfl, q2, q3⟩
   ·exact .inr ⟨by show a + 1 ≤ x; omega, q2, q3⟩
theorem streets_at {G : List Nat} (hG : Gr 7 G) {i : Nat} (hi : i < (streets G).length) : ((streets G).getD i (0, 0)).1 < ((streets G).getD i (0, 0)).2 ∧ Adj G ((streets G).getD i (0, 0)).1 ((streets G).getD i (0, 0)).2 := by
 have := (esFrom_mem hG G.length 0 (by omega) ((streets G).getD i (0, 0))).1 (by
  rw [List.getD_eq_getElem?_getD, List.getElem?_eq_getElem hi]
  exact List.getElem_mem hi)
 exact this.2
theorem streets_of {G : List Nat} (hG : Gr 7 G) {a b : Nat} (h : Adj G a b) (hab : a < b) : ∃ i, i < (streets G).length ∧ (streets G).getD i (0, 0) = (a, b) := by
 have := (esFrom_mem hG G.length 0 (by omega) (a, b)).2 ⟨Nat.zero_le _, hab, h⟩
 obtain ⟨i, hi, e⟩ := List.getElem_of_mem this
 exact ⟨i, hi, by unfold streets; rw [List.getD_eq_getElem?_getD, List.getElem?_eq_getElem hi, e]; rfl⟩
def cntT : List Bool → Nat
 | [] => 0
 | c :: cs => (if c then 1 else 0) + cntT cs
theorem cntT_le : ∀ C : List Bool, cntT C ≤ C.length
 | [] => Nat.le_refl _
 | c :: cs => by
  have := cntT_le cs
  simp only [cntT, List.length_cons]
  split <;> omega
theorem cntT_set : ∀ (C : List Bool) (i : Nat), cntT (C.set i false) ≤ cntT C
 | [], _ => Nat.le_refl _
 | c :: cs, 0 => by simp [cntT]
 | c :: cs, i + 1 => by
  have := cntT_set cs i
  simp only [List.set_cons_succ, cntT]
  omega
theorem cntT_lt : ∀ (C : List Bool) (i : Nat), C.getD i false = true → cntT (C.set i false) < cntT C
 | [], _, h => by simp at h
 | c :: cs, 0, h => by
  have : c = true := by simpa using h
  subst this
  simp [cntT]
 | c :: cs, i + 1, h => by
  have := cntT_lt cs i (by simpa using h)
  simp only [List.set_cons_succ, cntT]
  omega
theorem cntT_zero : ∀ (C : List Bool), cntT C = 0 → ∀ i, C.getD i false = false
 | [], _, _ => by simp
 | c :: cs, h, 0 => by
  simp only [cntT] at h
  cases c
  ·rfl
  ·simp at h
 | c :: cs, h, i + 1 => by
  simp only [cntT] at h
  simpa using cntT_zero cs (by omega) i
theorem spIn_true (E : List (Nat × Nat)) (gd : Nat) (C : List Bool) (i : Nat) : ∀ d k, spIn E gd C i d k = true → C.getD i false = true
 | 0, _, h => by cases h
 | d + 1, k, h => by
  simp only [spIn] at h
  split at h
  ·rename_i hc
   unfold comes at hc
   simp only [Bool.and_eq_true] at hc
   exact hc.1.1
  ·exact spIn_true E gd C i d (k + 1) h
theorem spOut_true (E : List (Nat × Nat)) (gd : Nat) (C : List Bool) : ∀ d i j, spOut E gd C d i = some j → C.getD j false = true
 | 0, _, _, h => by cases h
 | d + 1, i, j, h => by
  simp only [spOut] at h
  split at h
  ·rename_i hs
   cases h
   exact spIn_true E gd C i _ _ hs
  ·exact spOut_true E gd C d (i + 1) j h
end Go.Proofs.YtijfddobandcdaaDoor.X
end
