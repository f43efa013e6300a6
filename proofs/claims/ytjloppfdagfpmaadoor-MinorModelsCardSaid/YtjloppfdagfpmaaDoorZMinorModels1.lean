/- Part 1 of what MinorModels rests on: contracts of the functions that it reaches, and what they compute, in plain words. -/
import Derived.Test.YtjloppfdagfpmaaDoorZMinorModels0
import Derived.WalkSpells
import Derived.ArgAppend
set_option linter.unusedVariables false
set_option linter.unusedSimpArgs false
section
/- minor.Check, by hand. -/
namespace Go.Proofs.YtjloppfdagfpmaaDoor.X
open Go.RowKit YtjloppfdagfpmaaDoorW.PrintWords YtjloppfdagfpmaaDoorW.PrintLast YtjloppfdagfpmaaDoorW.PrintMore YtjloppfdagfpmaaDoor.T
attribute [local go_sem] max2_int min2_int max_two min_two max_three min_three max_four min_four
set_option maxHeartbeats 4000000 in
set_option maxRecDepth 100000 in
theorem chk1 (mB tB sB : Nat) (A : Option Addr) (c : Nat) (L : List Int) (Ag : Option Addr) (cg : Nat) (G : List Nat) (hG : Gr 9 G) (hcg : G.length ≤ cg) (s : Nat) (hs : s < 2 ^ G.length) (j : Int) (hj : 0 ≤ j) (hj2 : j < (L.length : Int)) (w : World) (hGL : GL w) (hM : Kd.C (Kd.int .i64) w A L.length L) (hrg : Kd.C (Kd.int .i64) w Ag (gi G).length (gi G)) (h0 : w.cell? ⟨mB, 0, none⟩ = some (.slice A L.length c)) (h1 : w.cell? ⟨tB, 0, none⟩ = some (.slice Ag G.length cg)) (h2 : w.cell? ⟨sB, 0, none⟩ = some (.int .i64 (s : Int))) :
  Calls Tryd.prog 70 #[.int .i64 j, .pointer (some ⟨mB, 0, none⟩), .pointer (some ⟨tB, 0, none⟩), .pointer (some ⟨sB, 0, none⟩)] w fun e w' => e = .returned (.bool (Go.bits .and .i64 (rd L j) ((Around G s : Nat) : Int) == 0)) ∧ Below w.heap.size w w' := by
 obtain ⟨ad, e1, hgx⟩ := Kd.at_int hM j hj hj2
 subst e1
 have hi1 : (j < (L.length : Int)) = True := eq_true hj2
 have hi2 : decide (j < (L.length : Int)) = true := decide_eq_true hj2
 have hi3 : (0 ≤ j) = True := eq_true hj
 have hi4 : decide (0 ≤ j) = true := decide_eq_true hj
 have HGL := Aside0.mk hGL
 have HRG := Aside0.mk hrg
 have f0 := World.block_lt_of_cell? w _ h0
 have f1 := World.block_lt_of_cell? w _ h1
 have f2 := World.block_lt_of_cell? w _ h2
 have f3 := World.block_lt_of_cell? w _ hgx
 have HG := Aside0.mk hG
 generalize rd L j = x at *
 have CAR : Aside0 (∀ W, (W.cell? ⟨mB, 0, none⟩ = some (.slice (some ad) L.length c) ∧ W.cell? ⟨tB, 0, none⟩ = some (.slice Ag G.length cg) ∧ W.cell? ⟨sB, 0, none⟩ = some (.int .i64 (s : Int)) ∧ W.cell? (ad.add j.toNat) = some (.int .i64 x) ∧ Below w.heap.size w W) → Calls Tryd.prog 71 #[.slice Ag G.length cg, .int .i64 (s : Int)] W fun e w' => e = .returned (.int .i64 ((Around G s : Nat) : Int)) ∧ (w'.cell? ⟨mB, 0, none⟩ = some (.slice (some ad) L.length c) ∧ w'.cell? ⟨tB, 0, none⟩ = some (.slice Ag G.length cg) ∧ w'.cell? ⟨sB, 0, none⟩ = some (.int .i64 (s : Int)) ∧ w'.cell? (ad.add j.toNat) = some (.int .i64 x) ∧ Below w.heap.size w w')) := ⟨by
  rintro W ⟨_, _, _, _, hW⟩
  obtain ⟨K, hK⟩ := around_ev G HG.out s hs
  have h := minor_town_around.calls K Ag cg (gi G) (s : Int) _ W (GL_below HGL.out hW) (Kd.C_below HRG.out hW) (by rw [gi_length]; exact hcg) (hK K (Nat.le_refl _))
  rw [gi_length] at h
  refine h.mono ?_
  rintro e w' ⟨rfl, hb⟩
  have hB := below_step hW hb
  exact ⟨rfl, (hB.cell f0).trans h0, (hB.cell f1).trans h1, (hB.cell f2).trans h2, (hB.cell f3).trans hgx, hB⟩⟩
 clear hM hrg hGL hG
 have h0d : w.drew.cell? ⟨mB, 0, none⟩ = some (.slice (some ad) L.length c) := h0
 have h1d : w.drew.cell? ⟨tB, 0, none⟩ = some (.slice Ag G.length cg) := h1
 have h2d : w.drew.cell? ⟨sB, 0, none⟩ = some (.int .i64 (s : Int)) := h2
 have hgd : w.drew.cell? (ad.add j.toNat) = some (.int .i64 x) := hgx
 have hBd : Below w.heap.size w w.drew := below_drew (Below.refl _ _)
 generalize Around G s = ar at *
 clear hs HG
 go_enter Tryd.func70, Tryd.ntmps70
 go_wp2
 refine start_ (n := 10) (S := fun w' => w'.cell? ⟨mB, 0, none⟩ = some (.slice (some ad) L.length c) ∧ w'.cell? ⟨tB, 0, none⟩ = some (.slice Ag G.length cg) ∧ w'.cell? ⟨sB, 0, none⟩ = some (.int .i64 (s : Int)) ∧ w'.cell? (ad.add j.toNat) = some (.int .i64 x) ∧ Below w.heap.size w w') (ds := []) (Qbz 10 0) (by kernel_rfl) rfl rfl ⟨h0d, h1d, h2d, hgd, hBd⟩ (fun hHeld => ?_)
 refine pure_ (i := 1) (N := some 7) (v := ?_) (a' := ?_) (Qbz 10 2) rfl rfl (by kernel_rfl) (fun _ _ _ h => h) (Or.inl ⟨by rfl, ?_⟩) ?_ ?_
 rotate_left
 ·intro w'
  go_simp
  with_reducible rfl
 rotate_left
 ·simp only [Act.put, Qp1, Qp2, Qp3, i64_w, i32_w]
  rfl
 refine take_ (i := 0) (N := some 6) (v := ?_) (a' := ?_) (Qbz 10 3) rfl rfl (by kernel_rfl) (fun _ _ _ h => h) (Or.inl ⟨by rfl, ?_⟩) hHeld ?_ ?_
 rotate_left
 ·rintro w' ⟨s0, s1, s2, s3, s4⟩
  go_simp
  with_reducible rfl
 rotate_left
 ·simp only [Act.put, Qp1, Qp2, Qp3, i64_w, i32_w]
  rfl
 refine pure_ (i := 2) (N := some 8) (v := ?_) (a' := ?_) (Qbz 10 7) rfl rfl (by kernel_rfl) (fun _ _ _ h => h) (Or.inl ⟨by rfl, ?_⟩) ?_ ?_
 rotate_left
 ·intro w'
  go_simp
  with_reducible rfl
 rotate_left
 ·simp only [Act.put, Qp1, Qp2, Qp3, i64_w, i32_w]
  rfl
 refine take_ (i := 3) (N := some 9) (v := ?_) (a' := ?_) (Qbz 10 15) rfl rfl (by kernel_rfl) (fun _ _ _ h => h) (Or.inl ⟨by rfl, ?_⟩) hHeld ?_ ?_
 rotate_left
 ·rintro w' ⟨s0, s1, s2, s3, s4⟩
  go_simp
  with_reducible rfl
 rotate_left
 ·simp only [Act.put, Qp1, Qp2, Qp3, i64_w, i32_w]
  rfl
 refine take_ (i := 4) (N := some 10) (v := ?_) (a' := ?_) (Qbz 10 31) rfl rfl (by kernel_rfl) (fun _ _ _ h => h) (Or.inl ⟨by rfl, ?_⟩) hHeld ?_ ?_
 rotate_left
 ·rintro w' ⟨s0, s1, s2, s3, s4⟩
  go_simp
  with_reducible rfl
 rotate_left
 ·simp only [Act.put, Qp1, Qp2, Qp3, i64_w, i32_w]
  rfl
 refine take_ (i := 5) (N := some 11) (v := ?_) (a' := ?_) (Qbz 10 63) rfl rfl (by kernel_rfl) (fun _ _ _ h => h) (Or.inl ⟨by rfl, ?_⟩) hHeld ?_ ?_
 rotate_left
 ·rintro w' ⟨s0, s1, s2, s3, s4⟩
  go_simp
  with_reducible rfl
 rotate_left
 ·simp only [Act.put, Qp1, Qp2, Qp3, i64_w, i32_w]
  rfl
 refine one_ (i := 6) (N := some 12) (Qbz 10 127) rfl rfl (by kernel_rfl) (by decide) (fun K hK => ?_)
 refine goes_ Tryd.func71 (by kernel_rfl) rfl #[.slice Ag G.length cg, .int .i64 (s : Int)] (by rfl) rfl rfl (by simp only [List.map_toArray, List.map_cons, List.map_nil]; rfl) ?_
 with_reducible refine (CAR.out _ hHeld).mono ?_
 rintro e w3 ⟨rfl, g0, g1, g2, g3, gB⟩
 refine ⟨_, rfl, ?_⟩
 refine hK.out _ _ ⟨g0, g1, g2, g3, gB⟩ (fun hHeld => ?_)
 clear hK K
 refine norm_ (a' := ?_) ?_ ?_
 rotate_left
 ·show Act.put _ (some 12) _ = _
  simp only [Act.put, Qp1, Qp2, Qp3, i64_w, i32_w]
  rfl
 refine pure_ (i := 7) (N := some 13) (v := ?_) (a' := ?_) (Qbz 10 255) rfl rfl (by kernel_rfl) (fun _ _ _ h => h) (Or.inl ⟨by rfl, ?_⟩) ?_ ?_
 rotate_left
 ·intro w'
  go_simp
  with_reducible rfl
 rotate_left
 ·simp only [Act.put, Qp1, Qp2, Qp3, i64_w, i32_w]
  rfl
 refine pure_ (i := 8) (N := some 14) (v := ?_) (a' := ?_) (Qbz 10 511) rfl rfl (by kernel_rfl) (fun _ _ _ h => h) (Or.inl ⟨by rfl, ?_⟩) ?_ ?_
 rotate_left
 ·intro w'
  go_simp
  with_reducible rfl
 rotate_left
 ·simp only [Act.put, Qp1, Qp2, Qp3, i64_w, i32_w]
  rfl
 refine pure_ (i := 9) (N := some 5) (v := ?_) (a' := ?_) (Qbz 10 1023) rfl rfl (by kernel_rfl) (fun _ _ _ h => h) (Or.inl ⟨by rfl, ?_⟩) ?_ ?_
 rotate_left
 ·intro w'
  go_simp
  with_reducible rfl
 rotate_left
 ·simp only [Act.put, Qp1, Qp2, Qp3, i64_w, i32_w]
  rfl
 refine done_ (by kernel_rfl) ?_
 go_wp2
 go_ret
 exact ⟨rfl, hHeld.2.2.2.2⟩
set_option maxHeartbeats 2000000 in
theorem index_chk (A : Option Addr) (c : Nat) (l : List Int) (p : Int → Bool) (xB0 xB1 xB2 : Nat) (w : World) (hx : Kd.C (Kd.int .i64) w A l.length l) (hl : l.length ≤ 1000)
  (hp : ∀ W, Below w.heap.size w W → ∀ x ∈ l, Calls Tryd.prog 70 #[.int .i64 x, .pointer (some ⟨xB0, 0, none⟩), .pointer (some ⟨xB1, 0, none⟩), .pointer (some ⟨xB2, 0, none⟩)] W fun e w' => e = .returned (.bool (p x)) ∧ Below W.heap.size W w') :
  Calls Tryd.prog 93 #[.slice A l.length c, .func (.func 70) #[] #[.pointer (some ⟨xB0, 0, none⟩), .pointer (some ⟨xB1, 0, none⟩), .pointer (some ⟨xB2, 0, none⟩)]] w fun e w' => ∃ z, e = .returned (.int .i64 z) ∧ decide (z ≥ 0) = l.any p ∧ Below w.heap.size w w' := by
 have HX := Aside0.mk hx
 have HP := Aside0.mk hp
 clear hx hp
 go_enter Tryd.func93, Tryd.ntmps93
 go_wp2
 go_loopg [8] l.length (fun kq v8 w' => ∃ i : Nat, v8 = .int .i64 (i : Int) ∧ i + kq = l.length ∧ Aside0 ((l.drop i).any p = l.any p) ∧ Aside0 (Below w.heap.size w w'))
 case atStart => exact ⟨0, rfl, by omega, ⟨rfl⟩, ⟨Below.refl _ _⟩⟩
 case round =>
  obtain ⟨i, rfl, hi, HA, HB⟩ := hrel
  by_cases hil : i < l.length
  ·have hi1 : ((i : Int) < (l.length : Int)) = True := eq_true (by omega)
   have hi2 : decide ((i : Int) < (l.length : Int)) = true := decide_eq_true (by omega)
   cases gk with
   | zero => omega
   | succ gi =>
   obtain ⟨ad, e1, hgx⟩ := Kd.at_int (Kd.C_below HX.out HB.out) (i : Int) (by omega) (by omega)
   subst e1
   have hra : rd l (i : Int) = l[i] := by unfold rd; rw [Int.toNat_natCast, List.getD_eq_getElem?_getD, List.getElem?_eq_getElem hil]; rfl
   rw [hra, Int.toNat_natCast] at hgx
   have hm : l[i] ∈ l := List.getElem_mem hil
   have ha := HA.out
   rw [List.drop_eq_getElem_cons hil, List.any_cons] at ha
   have HC := Aside0.mk (HP.out wr HB.out _ hm)
   generalize l[i] = x at *
   clear hra HA
   cases hpx : p x
   ·rw [hpx] at HC ha
    have HA2 : Aside0 ((l.drop (i + 1)).any p = l.any p) := ⟨by simpa using ha⟩
    clear ha hpx hm
    go_wp2_with (go_at_call 70; refine HC.out.mono ?_; rintro e w3 ⟨rfl, hb⟩)
    go_roundg gi
    case measure => omega
    case rel => exact ⟨i + 1, by go_num, by omega, HA2, ⟨below_step HB.out hb⟩⟩
   ·rw [hpx] at HC ha
    have HA2 : Aside0 (true = l.any p) := ⟨by simpa using ha⟩
    clear ha hpx hm
    go_wp2_with (go_at_call 70; refine HC.out.mono ?_; rintro e w3 ⟨rfl, hb⟩)
    go_ret
    exact ⟨_, rfl, by rw [← HA2.out]; exact decide_eq_true (by omega), below_step HB.out hb⟩
  ·have hi1 : ((i : Int) < (l.length : Int)) = False := eq_false (by omega)
   have hi2 : decide ((i : Int) < (l.length : Int)) = false := decide_eq_false (by omega)
   have ha := HA.out
   rw [List.drop_eq_nil_of_le (by omega)] at ha
   have HA2 : Aside0 (false = l.any p) := ⟨ha⟩
   clear ha HA
   go_wp2
   go_ret
   exact ⟨_, rfl, by rw [← HA2.out]; rfl, HB.out⟩
theorem contains_chk (A : Option Addr) (c : Nat) (l : List Int) (p : Int → Bool) (xB0 xB1 xB2 : Nat) (w : World) (hx : Kd.C (Kd.int .i64) w A l.length l) (hl : l.length ≤ 1000)
  (hp : ∀ W, Below w.heap.size w W → ∀ x ∈ l, Calls Tryd.prog 70 #[.int .i64 x, .pointer (some ⟨xB0, 0, none⟩), .pointer (some ⟨xB1, 0, none⟩), .pointer (some ⟨xB2, 0, none⟩)] W fun e w' => e = .returned (.bool (p x)) ∧ Below W.heap.size W w') :
  Calls Tryd.prog 68 #[.slice A l.length c, .func (.func 70) #[] #[.pointer (some ⟨xB0, 0, none⟩), .pointer (some ⟨xB1, 0, none⟩), .pointer (some ⟨xB2, 0, none⟩)]] w fun e w' => e = .returned (.bool (l.any p)) ∧ Below w.heap.size w w' := by
 have HI := Aside0.mk (index_chk A c l p xB0 xB1 xB2 w hx hl hp)
 clear hx hl hp
 go_enter Tryd.func68, Tryd.ntmps68
 go_wp2_with (go_at_call 93; refine HI.out.mono ?_; rintro e w3 ⟨z, rfl, hz, hb⟩)
 go_ret
 exact ⟨by rw [← hz]; rfl, hb⟩
theorem read_sl (m : Nat) (hm : m ≤ 9) {g : List Int} (hl : g.length < 2 ^ 60) (A0 : Option Addr) (c0 : Nat) (w : World) (hr0 : Kd.C (Kd.int .i64) w A0 g.length g) (hc0 : g.length ≤ c0) :
  Calls Tryd.prog 63 #[.slice A0 g.length c0, .int .i64 (m : Int)] w fun e w' => ∃ A n c, e = .returned (.tuple #[.slice A n c, .bool (chk m g)]) ∧ Below w.heap.size w w' := by
 obtain ⟨K, hK⟩ := read_ev m hm g hl
 have hk := hK K (Nat.le_refl _)
 cases h : chk m g
 ·rw [h] at hk
  refine (minor_read.calls K (fun k_ => k_ < w.heap.size) A0 c0 g (m : Int) [] false w (Kd.V_mk hc0 (Kd.F_below (Kd.C_F (Kd.heap_int .i64) hr0) (Below.refl _ _))) hk).mono ?_
  rintro e w' ⟨v, rfl, hv, hb⟩
  obtain ⟨A1, c1, rfl⟩ := Kd.V_slice hv
  exact ⟨_, _, _, rfl, hb⟩
 ·rw [h] at hk
  refine (minor_read.calls K (fun k_ => k_ < w.heap.size) A0 c0 g (m : Int) g true w (Kd.V_mk hc0 (Kd.F_below (Kd.C_F (Kd.heap_int .i64) hr0) (Below.refl _ _))) hk).mono ?_
  rintro e w' ⟨v, rfl, hv, hb⟩
  obtain ⟨A1, c1, rfl⟩ := Kd.V_slice hv
  exact ⟨_, _, _, rfl, hb⟩
def chkM (G P : List Nat) : List Int → List Nat → Nat → Bool
 | [], _, _ => true
 | x :: r, M, used => decide (0 ≤ x) && decide (x < ((2 ^ G.length : Nat) : Int)) && decide (x.toNat &&& used = 0) && conB G x.toNat && fitB G P M x.toNat M.length && chkM G P r (M ++ [x.toNat]) (used ||| x.toNat)
def minor_Check.f (g p l : List Int) : Option (Bool × Int) :=
 if g.length < 1000 ∧ p.length < 1000 ∧ l.length < 1000 then some (if (chk 8 g && chk 6 p) = true then (if l.length = p.length then (chkM (g.map Int.toNat) (p.map Int.toNat) l [] 0, 0) else (false, 0)) else (false, 2)) else none
theorem rd_take {L : List Int} {M : List Nat} {i j : Nat} (h : L.take i = gi M) (hj : j < i) (hl : i ≤ L.length) : rd L (j : Int) = rd (gi M) (j : Int) := by
 rw [← h]
 unfold rd
 rw [Int.toNat_natCast, List.getD_eq_getElem?_getD, List.getD_eq_getElem?_getD, List.getElem?_take, if_pos hj]
set_option maxHeartbeats 16000000 in
set_option maxRecDepth 100000 in
theorem minor_Check.calls (A0 : Option Addr) (c0 : Nat) (l0 : List Int) (A1 : Option Addr) (c1 : Nat) (l1 : List Int) (A2 : Option Addr) (c2 : Nat) (l2 : List Int) (r1 : Bool) (r2 : Int) (w : World) (hGL : GL w) (hr0 : Kd.C (Kd.int .i64) w A0 l0.length l0) (hc0 : l0.length ≤ c0) (hr1 : Kd.C (Kd.int .i64) w A1 l1.length l1) (hc1 : l1.length ≤ c1) (hr2 : Kd.C (Kd.int .i64) w A2 l2.length l2) (hc2 : l2.length ≤ c2) (h : minor_Check.f l0 l1 l2 = some (r1, r2)) :
  Calls Tryd.prog 23 #[.slice A0 l0.length c0, .slice A1 l1.length c1, .slice A2 l2.length c2] w fun e w' => e = .returned (.tuple #[.bool r1, .int .i64 r2]) ∧ Below w.heap.size w w' := by
 unfold minor_Check.f at h
 by_cases hlen : l0.length < 1000 ∧ l1.length < 1000 ∧ l2.length < 1000
 ·rw [if_pos hlen] at h
  have h := Option.some.inj h
  have hl2 := hlen.2.2
  have HC1 : Aside0 (∀ W, Below w.heap.size w W → Calls Tryd.prog 63 #[.slice A0 l0.length c0, .int .i64 8] W fun e w' => ∃ v, e = .returned (.tuple #[v, .bool (chk 8 l0)]) ∧ (chk 8 l0 = true → ∃ A1 c1, v = .slice A1 l0.length c1 ∧ l0.length ≤ c1 ∧ Kd.C (Kd.int .i64) w' A1 l0.length l0) ∧ Below W.heap.size W w') := ⟨fun W hW => read_any 8 (by omega) (by omega) A0 c0 W (Kd.C_below hr0 hW) hc0⟩
  have HC2 : Aside0 (∀ W, Below w.heap.size w W → Calls Tryd.prog 63 #[.slice A1 l1.length c1, .int .i64 6] W fun e w' => ∃ v, e = .returned (.tuple #[v, .bool (chk 6 l1)]) ∧ (chk 6 l1 = true → ∃ A c, v = .slice A l1.length c ∧ l1.length ≤ c ∧ Kd.C (Kd.int .i64) w' A l1.length l1) ∧ Below W.heap.size W w') := ⟨fun W hW => read_any 6 (by omega) (by omega) A1 c1 W (Kd.C_below hr1 hW) hc1⟩
  have HS1 : Aside0 (∀ W, Below w.heap.size w W → Calls Tryd.prog 63 #[.slice A0 l0.length c0, .int .i64 8] W fun e w' => ∃ A n c, e = .returned (.tuple #[.slice A n c, .bool (chk 8 l0)]) ∧ Below W.heap.size W w') := ⟨fun W hW => read_sl 8 (by omega) (by omega) A0 c0 W (Kd.C_below hr0 hW) hc0⟩
  have HGL := Aside0.mk hGL
  have HR2 := Aside0.mk hr2
  clear hlen
  cases hg : chk 8 l0
  ·rw [hg] at h HS1
   injection h with h1 h2
   subst h1 h2
   clear hg hr0 hr1 hr2
   go_enter Tryd.func23, Tryd.ntmps23
   go_wp2_with (first
    | ((with_reducible refine gate_dst (N := 5) rfl ?_); refine box_event ?hg (N := 5) ?hd (cs := #[.slice A2 l2.length c2]) (t := 22) ?hr ?_; (case hd => rfl); (case hg => rfl); (case hr => first | (go_simp; done) | (go_simp; rfl)); intro mB hga w1 hbox hb1; have HB1 := Aside0.mk hb1; have HM1 := Aside0.mk hbox; clear hga hbox hb1)
    | (go_at_call 63; refine (HC2.out _ (below_alloc HB2.out _)).mono ?_; rintro e w4 ⟨v2, rfl, _, hb4⟩; have HB4 := Aside0.mk (below_step (below_alloc HB2.out _) hb4); clear hb4)
    | (go_at_call 63; refine (HS1.out _ HB1.out).mono ?_; rintro e w2 ⟨A5, n5, c5, rfl, hb2⟩; have HB2 := Aside0.mk (below_step HB1.out hb2); clear hb2))
   go_ret2
   exact ⟨rfl, HB4.out⟩
  ·cases hp : chk 6 l1
   ·rw [hg, hp] at h
    rw [hg] at HS1
    rw [hp] at HC2
    injection h with h1 h2
    subst h1 h2
    clear hg hp hr0 hr1 hr2
    go_enter Tryd.func23, Tryd.ntmps23
    go_wp2_with (first
     | ((with_reducible refine gate_dst (N := 5) rfl ?_); refine box_event ?hg (N := 5) ?hd (cs := #[.slice A2 l2.length c2]) (t := 22) ?hr ?_; (case hd => rfl); (case hg => rfl); (case hr => first | (go_simp; done) | (go_simp; rfl)); intro mB hga w1 hbox hb1; have HB1 := Aside0.mk hb1; have HM1 := Aside0.mk hbox; clear hga hbox hb1)
     | (go_at_call 63; refine (HC2.out _ (below_alloc HB2.out _)).mono ?_; rintro e w4 ⟨v2, rfl, _, hb4⟩; have HB4 := Aside0.mk (below_step (below_alloc HB2.out _) hb4); clear hb4)
     | (go_at_call 63; refine (HS1.out _ HB1.out).mono ?_; rintro e w2 ⟨A5, n5, c5, rfl, hb2⟩; have HB2 := Aside0.mk (below_step HB1.out hb2); clear hb2))
    go_ret2
    exact ⟨rfl, HB4.out⟩
   ·rw [hg, hp] at h
    rw [hg] at HC1
    rw [hp] at HC2
    obtain ⟨G, rfl, hG⟩ := (chk_iff 8 (by omega) _).1 hg
    obtain ⟨P, rfl, hP⟩ := (chk_iff 6 (by omega) _).1 hp
    rw [gi_toNat, gi_toNat] at h
    simp only [gi_length] at HC1 HC2 hr0 hr1 hc0 hc1 h ⊢
    have hn := hG.most
    have hpn := hP.most
    have HG := Aside0.mk (gr_mono hG (show 8 ≤ 9 by omega))
    have HP := Aside0.mk hP
    clear hg hp hr0 hr1 hr2 hG hP hGL HS1
    by_cases hLP : l2.length = P.length
    ·have hlp1 : ((l2.length : Int) != (P.length : Int)) = false := by simp [hLP]
     simp only [Bool.and_self, if_true, if_pos hLP] at h
     injection h with h1 h2
     subst h2
     have HRR := Aside0.mk h1
     clear h1
     go_enter Tryd.func23, Tryd.ntmps23
     go_wp2_with (first
      | ((with_reducible refine gate_dst (N := 5) rfl ?_); refine box_event ?hg (N := 5) ?hd (cs := #[.slice A2 l2.length c2]) (t := 22) ?hr ?_; (case hd => rfl); (case hg => rfl); (case hr => first | (go_simp; done) | (go_simp; rfl)); intro mB hga w1 hbox hb1; have HB1 := Aside0.mk hb1; have HM1 := Aside0.mk hbox; clear hga hbox hb1)
      | (go_at_call 63; refine (HC2.out _ (below_alloc HB2.out _)).mono ?_; rintro e w4 ⟨v2, rfl, hv2, hb4⟩; obtain ⟨A6, c6, rfl, hc6, hC6⟩ := hv2 trivial; have HB4 := Aside0.mk (below_step (below_alloc HB2.out _) hb4); have HC6 := Aside0.mk hC6; have HC5b := Aside0.mk (Kd.C_below (Kd.C_below HC5.out (below_alloc (Below.refl _ _) (.cells #[.slice A5 G.length c5] 79))) hb4); have hm2 : w2.heap[mB]? = some (.cells #[.slice A2 l2.length c2] 22 (0, 0)) := blk_below HM1.out HB12.out; have hm4 : w4.cell? ⟨mB, 0, none⟩ = some (.slice A2 l2.length c2) := (blk_cell (blk_below (blk_alloc hm2 _) hb4) 0).trans rfl; have ht4 : w4.cell? ⟨w2.heap.size, 0, none⟩ = some (.slice A5 G.length c5) := (blk_cell (blk_below (blk_new w2 (.cells #[.slice A5 G.length c5] 79)) hb4) 0).trans rfl; clear hb4 hv2 hC6 hm2)
      | (go_at_call 63; refine (HC1.out _ HB1.out).mono ?_; rintro e w2 ⟨v1, rfl, hv1, hb2⟩; obtain ⟨A5, c5, rfl, hc5, hC5⟩ := hv1 trivial; have HC5 := Aside0.mk hC5; clear hC5; have HB2 := Aside0.mk (below_step HB1.out hb2); have HB12 := Aside0.mk hb2; clear hb2 hv1))
     obtain ⟨R, hR⟩ : ∃ R, r1 = R := ⟨_, rfl⟩
     subst hR
     go_loopg [12, 38] l2.length (fun kq v12 v38 w' => ∃ (i used : Nat) (M : List Nat), v12 = .int .i64 (used : Int) ∧ v38 = .int .i64 (i : Int) ∧ i + kq = l2.length ∧ used < 512 ∧ Aside0 (M.length = i ∧ l2.take i = gi M ∧ (∀ x ∈ M, x < 2 ^ G.length) ∧ used < 2 ^ G.length) ∧ Aside0 (chkM G P (l2.drop i) M used = r1) ∧ Aside0 (Below w4.heap.size w4 w'))
     case atStart => exact ⟨0, 0, [], rfl, rfl, by omega, by omega, ⟨rfl, rfl, (fun _ h => by cases h), Nat.two_pow_pos _⟩, HRR, ⟨Below.refl _ _⟩⟩
     case round =>
      clear HRR
      obtain ⟨i, used, M, rfl, rfl, hi, hu, HM, HA, HBW⟩ := hrel
      by_cases hil : i < l2.length
      ·have hi1 : ((i : Int) < (l2.length : Int)) = True := eq_true (by omega)
       have hi2 : decide ((i : Int) < (l2.length : Int)) = true := decide_eq_true (by omega)
       have hiP : decide ((i : Int) < (P.length : Int)) = true := decide_eq_true (by omega)
       have hiP1 : ((i : Int) < (P.length : Int)) = True := eq_true (by omega)
       cases gk with
       | zero => omega
       | succ gi' =>
       obtain ⟨ad, e1, hgx⟩ := Kd.at_int (Kd.C_below HR2.out (below_step HB4.out HBW.out)) (i : Int) (by omega) (by omega)
       subst e1
       have hra : rd l2 (i : Int) = l2[i] := by unfold rd; rw [Int.toNat_natCast, List.getD_eq_getElem?_getD, List.getElem?_eq_getElem hil]; rfl
       rw [hra, Int.toNat_natCast] at hgx
       have ha := HA.out
       rw [List.drop_eq_getElem_cons hil] at ha
       have htk : l2.take (i + 1) = l2.take i ++ [l2[i]] := by rw [List.take_add_one, List.getElem?_eq_getElem hil]; rfl
       generalize l2[i] = x at *
       have HTK := Aside0.mk htk
       simp only [chkM] at ha
       have HAH := Aside0.mk ha
       clear hra htk ha HA
       obtain ⟨A, hA⟩ : ∃ A, 2 ^ G.length = A + 1 := ⟨2 ^ G.length - 1, by have := Nat.two_pow_pos G.length; omega⟩
       have hA9 : A ≤ 511 := by
        have h9 : 2 ^ G.length ≤ 2 ^ 9 := Nat.pow_le_pow_right (by omega) (by omega)
        rw [hA] at h9
        have e9 : (2 : Nat) ^ 9 = 512 := rfl
        omega
       have HAL := Aside0.mk hA
       clear hA
       obtain ⟨sB, hsB⟩ : ∃ sB, wr.heap.size = sB := ⟨_, rfl⟩
       obtain ⟨w9, hw9⟩ : ∃ w9 : World, w9 = wr.alloc (Obj.cells #[.int .i64 x] 3) := ⟨_, rfl⟩
       have ha9 : w9.cell? ⟨sB, 0, none⟩ = some (.int .i64 x) := by rw [hw9, ← hsB]; exact (blk_cell (show (wr.heap.push _)[wr.heap.size]? = _ from Array.getElem?_push_size) 0).trans rfl
       have HB9 : Aside0 (Below wr.heap.size wr w9) := ⟨by rw [hw9]; exact below_alloc (Below.refl _ _) _⟩
       have HBF := Aside0.mk (below_step HBW.out HB9.out)
       have ht9 : w9.cell? ⟨w2.heap.size, 0, none⟩ = some (.slice A5 G.length c5) := (HBF.out.cell (World.block_lt_of_cell? w4 _ ht4)).trans ht4
       have f0d : w9.drew.cell? ⟨sB, 0, none⟩ = some (.int .i64 x) := ha9
       have f1d : w9.drew.cell? ⟨w2.heap.size, 0, none⟩ = some (.slice A5 G.length c5) := ht9
       have fBd : Below w9.heap.size w9 w9.drew := below_drew (Below.refl _ _)
       have hlt9a := World.block_lt_of_cell? w9 _ ha9
       have hlt9b := World.block_lt_of_cell? w9 _ ht9
       have KEEP : Aside0 (∀ W, Below w9.heap.size w9 W → W.cell? ⟨sB, 0, none⟩ = some (.int .i64 x) ∧ W.cell? ⟨w2.heap.size, 0, none⟩ = some (.slice A5 G.length c5) ∧ Below w9.heap.size w9 W) := ⟨fun W hW => ⟨(hW.cell hlt9a).trans ha9, (hW.cell hlt9b).trans ht9, hW⟩⟩
       have CALL : Aside0 (∀ W, (W.cell? ⟨sB, 0, none⟩ = some (.int .i64 x) ∧ W.cell? ⟨w2.heap.size, 0, none⟩ = some (.slice A5 G.length c5) ∧ Below w9.heap.size w9 W) → Calls Tryd.prog 66 #[.slice A5 G.length c5] W fun e w' => e = .returned (.int .i64 (A : Int)) ∧ (w'.cell? ⟨sB, 0, none⟩ = some (.int .i64 x) ∧ w'.cell? ⟨w2.heap.size, 0, none⟩ = some (.slice A5 G.length c5) ∧ Below w9.heap.size w9 w')) := ⟨fun W hW => by
        have hall : minor_town_all.f (gi G) = some (A : Int) := by rw [all_eq G (by omega), HAL.out]; rfl
        have hC := Kd.C_below HC5b.out (below_step HBF.out hW.2.2)
        have := minor_town_all.calls A5 c5 (gi G) _ W (by rw [gi_length]; exact hC) (by rw [gi_length]; exact hc5) hall
        rw [gi_length] at this
        exact this.mono fun e w' ⟨h, m, hm⟩ => ⟨h, KEEP.out w' (by rw [hm]; exact pw_below_drewN hW.2.2 m)⟩⟩
       clear hlt9a hlt9b
       by_cases hx0 : x < 0
       ·have HNO : Aside0 (false = r1) := ⟨by
         have := HAH.out
         rw [decide_eq_false (by omega : ¬ 0 ≤ x)] at this
         simpa using this⟩
        have hr1 := HNO.out
        subst hr1
        have hx1 : decide (x < 0) = true := decide_eq_true hx0
        go_wp2
        rw [← hw9]
        refine start_ (n := 20) (S := fun w' => w'.cell? ⟨sB, 0, none⟩ = some (.int .i64 x) ∧ w'.cell? ⟨w2.heap.size, 0, none⟩ = some (.slice A5 G.length c5) ∧ Below w9.heap.size w9 w') (ds := []) (Qbz 20 0) (by kernel_rfl) rfl rfl ⟨f0d, f1d, fBd⟩ (fun hHeld => ?_)
        refine take_ (i := 0) (N := some 43) (v := ?_) (a' := ?_) (Qbz 20 1) rfl rfl (by kernel_rfl) (fun _ _ _ h => h) (Or.inl ⟨by rfl, ?_⟩) hHeld ?_ ?_
        rotate_left
        ·rintro w' ⟨s0, s1, s2⟩
         go_simp
         with_reducible rfl
        rotate_left
        ·simp only [Act.put, Qp1, Qp2, Qp3, i64_w, i32_w]
         rfl
        refine pure_ (i := 1) (N := some 44) (v := ?_) (a' := ?_) (Qbz 20 3) rfl rfl (by kernel_rfl) (fun _ _ _ h => h) (Or.inl ⟨by rfl, ?_⟩) ?_ ?_
        rotate_left
        ·intro w'
         go_simp
         with_reducible rfl
        rotate_left
        ·simp only [Act.put, Qp1, Qp2, Qp3, i64_w, i32_w]
         rfl
        refine pure_ (i := 2) (N := some 45) (v := ?_) (a' := ?_) (Qbz 20 7) rfl rfl (by kernel_rfl) (fun _ _ _ h => h) (Or.inl ⟨by rfl, ?_⟩) ?_ ?_
        rotate_left
        ·intro w'
         go_simp
         with_reducible rfl
        rotate_left
        ·simp only [Act.put, Qp1, Qp2, Qp3, i64_w, i32_w]
         rfl
        refine pure_ (i := 3) (N := some 46) (v := undef) (a' := ?_) (Qbz 20 15) rfl rfl (by kernel_rfl) (fun _ _ _ h => h) (Or.inr ⟨by rfl, rfl⟩) ?_ ?_
        rotate_left
        ·simp only [Act.put, Qp1, Qp2, Qp3, i64_w, i32_w]
         rfl
        refine pure_ (i := 4) (N := some 47) (v := undef) (a' := ?_) (Qbz 20 31) rfl rfl (by kernel_rfl) (fun _ _ _ h => h) (Or.inr ⟨by rfl, rfl⟩) ?_ ?_
        rotate_left
        ·simp only [Act.put, Qp1, Qp2, Qp3, i64_w, i32_w]
         rfl
        refine pure_ (i := 5) (N := some 48) (v := undef) (a' := ?_) (Qbz 20 63) rfl rfl (by kernel_rfl) (fun _ _ _ h => h) (Or.inr ⟨by rfl, rfl⟩) ?_ ?_
        rotate_left
        ·simp only [Act.put, Qp1, Qp2, Qp3, i64_w, i32_w]
         rfl
        refine pure_ (i := 6) (N := some 49) (v := undef) (a' := ?_) (Qbz 20 127) rfl rfl (by kernel_rfl) (fun _ _ _ h => h) (Or.inr ⟨by rfl, rfl⟩) ?_ ?_
        rotate_left
        ·simp only [Act.put, Qp1, Qp2, Qp3, i64_w, i32_w]
         rfl
        refine pure_ (i := 7) (N := some 50) (v := ?_) (a' := ?_) (Qbz 20 255) rfl rfl (by kernel_rfl) (fun _ _ _ h => h) (Or.inl ⟨by rfl, ?_⟩) ?_ ?_
        rotate_left
        ·intro w'
         go_simp
         with_reducible rfl
        rotate_left
        ·simp only [Act.put, Qp1, Qp2, Qp3, i64_w, i32_w]
         rfl
        refine pure_ (i := 8) (N := some 51) (v := ?_) (a' := ?_) (Qbz 20 511) rfl rfl (by kernel_rfl) (fun _ _ _ h => h) (Or.inl ⟨by rfl, ?_⟩) ?_ ?_
        rotate_left
        ·intro w'
         go_simp
         with_reducible rfl
        rotate_left
        ·simp only [Act.put, Qp1, Qp2, Qp3, i64_w, i32_w]
         rfl
        refine pure_ (i := 9) (N := some 52) (v := undef) (a' := ?_) (Qbz 20 1023) rfl rfl (by kernel_rfl) (fun _ _ _ h => h) (Or.inr ⟨by rfl, rfl⟩) ?_ ?_
        rotate_left
        ·simp only [Act.put, Qp1, Qp2, Qp3, i64_w, i32_w]
         rfl
        refine pure_ (i := 10) (N := some 53) (v := undef) (a' := ?_) (Qbz 20 2047) rfl rfl (by kernel_rfl) (fun _ _ _ h => h) (Or.inr ⟨by rfl, rfl⟩) ?_ ?_
        rotate_left
        ·simp only [Act.put, Qp1, Qp2, Qp3, i64_w, i32_w]
         rfl
        refine pure_ (i := 11) (N := some 54) (v := undef) (a' := ?_) (Qbz 20 4095) rfl rfl (by kernel_rfl) (fun _ _ _ h => h) (Or.inr ⟨by rfl, rfl⟩) ?_ ?_
        rotate_left
        ·simp only [Act.put, Qp1, Qp2, Qp3, i64_w, i32_w]
         rfl
        refine pure_ (i := 12) (N := some 55) (v := undef) (a' := ?_) (Qbz 20 8191) rfl rfl (by kernel_rfl) (fun _ _ _ h => h) (Or.inr ⟨by rfl, rfl⟩) ?_ ?_
        rotate_left
        ·simp only [Act.put, Qp1, Qp2, Qp3, i64_w, i32_w]
         rfl
        refine pure_ (i := 13) (N := some 56) (v := ?_) (a' := ?_) (Qbz 20 16383) rfl rfl (by kernel_rfl) (fun _ _ _ h => h) (Or.inl ⟨by rfl, ?_⟩) ?_ ?_
        rotate_left
        ·intro w'
         go_simp
         with_reducible rfl
        rotate_left
        ·simp only [Act.put, Qp1, Qp2, Qp3, i64_w, i32_w]
         rfl
        refine pure_ (i := 14) (N := some 57) (v := ?_) (a' := ?_) (Qbz 20 32767) rfl rfl (by kernel_rfl) (fun _ _ _ h => h) (Or.inl ⟨by rfl, ?_⟩) ?_ ?_
        rotate_left
        ·intro w'
         go_simp
         with_reducible rfl
        rotate_left
        ·simp only [Act.put, Qp1, Qp2, Qp3, i64_w, i32_w]
         rfl
        refine pure_ (i := 15) (N := some 58) (v := undef) (a' := ?_) (Qbz 20 65535) rfl rfl (by kernel_rfl) (fun _ _ _ h => h) (Or.inr ⟨by rfl, rfl⟩) ?_ ?_
        rotate_left
        ·simp only [Act.put, Qp1, Qp2, Qp3, i64_w, i32_w]
         rfl
        refine pure_ (i := 16) (N := some 59) (v := undef) (a' := ?_) (Qbz 20 131071) rfl rfl (by kernel_rfl) (fun _ _ _ h => h) (Or.inr ⟨by rfl, rfl⟩) ?_ ?_
        rotate_left
        ·simp only [Act.put, Qp1, Qp2, Qp3, i64_w, i32_w]
         rfl
        refine pure_ (i := 17) (N := some 60) (v := undef) (a' := ?_) (Qbz 20 262143) rfl rfl (by kernel_rfl) (fun _ _ _ h => h) (Or.inr ⟨by rfl, rfl⟩) ?_ ?_
        rotate_left
        ·simp only [Act.put, Qp1, Qp2, Qp3, i64_w, i32_w]
         rfl
        refine pure_ (i := 18) (N := some 61) (v := undef) (a' := ?_) (Qbz 20 524287) rfl rfl (by kernel_rfl) (fun _ _ _ h => h) (Or.inr ⟨by rfl, rfl⟩) ?_ ?_
        rotate_left
        ·simp only [Act.put, Qp1, Qp2, Qp3, i64_w, i32_w]
         rfl
        refine pure_ (i := 19) (N := some 62) (v := ?_) (a' := ?_) (Qbz 20 1048575) rfl rfl (by kernel_rfl) (fun _ _ _ h => h) (Or.inl ⟨by rfl, ?_⟩) ?_ ?_
        rotate_left
        ·intro w'
         go_simp
         with_reducible rfl
        rotate_left
        ·simp only [Act.put, Qp1, Qp2, Qp3, i64_w, i32_w]
         rfl
        refine done_ (by kernel_rfl) ?_
        go_wp2
        go_ret2
        exact ⟨rfl, below_step HB4.out (below_step HBW.out (below_step HB9.out hHeld.2.2))⟩
       ·have hx1 : decide (x < 0) = false := decide_eq_false hx0
        by_cases hxA : (A : Int) < x
        ·have HNO : Aside0 (false = r1) := ⟨by
          have := HAH.out
          rw [decide_eq_false (by rw [HAL.out]; omega : ¬ x < ((2 ^ G.length : Nat) : Int))] at this
          simpa using this⟩
         have hr1 := HNO.out
         subst hr1
         have hx2 : decide ((A : Int) < x) = true := decide_eq_true hxA
         go_wp2
         rw [← hw9]
         refine start_ (n := 20) (S := fun w' => w'.cell? ⟨sB, 0, none⟩ = some (.int .i64 x) ∧ w'.cell? ⟨w2.heap.size, 0, none⟩ = some (.slice A5 G.length c5) ∧ Below w9.heap.size w9 w') (ds := []) (Qbz 20 0) (by kernel_rfl) rfl rfl ⟨f0d, f1d, fBd⟩ (fun hHeld => ?_)
         refine take_ (i := 0) (N := some 43) (v := ?_) (a' := ?_) (Qbz 20 1) rfl rfl (by kernel_rfl) (fun _ _ _ h => h) (Or.inl ⟨by rfl, ?_⟩) hHeld ?_ ?_
         rotate_left
         ·rintro w' ⟨s0, s1, s2⟩
          go_simp
          with_reducible rfl
         rotate_left
         ·simp only [Act.put, Qp1, Qp2, Qp3, i64_w, i32_w]
          rfl
         refine pure_ (i := 1) (N := some 44) (v := ?_) (a' := ?_) (Qbz 20 3) rfl rfl (by kernel_rfl) (fun _ _ _ h => h) (Or.inl ⟨by rfl, ?_⟩) ?_ ?_
         rotate_left
         ·intro w'
          go_simp
          with_reducible rfl
         rotate_left
         ·simp only [Act.put, Qp1, Qp2, Qp3, i64_w, i32_w]
          rfl
         refine pure_ (i := 2) (N := some 45) (v := ?_) (a' := ?_) (Qbz 20 7) rfl rfl (by kernel_rfl) (fun _ _ _ h => h) (Or.inl ⟨by rfl, ?_⟩) ?_ ?_
         rotate_left
         ·intro w'
          go_simp
          with_reducible rfl
         rotate_left
         ·simp only [Act.put, Qp1, Qp2, Qp3, i64_w, i32_w]
          rfl
         refine take_ (i := 3) (N := some 46) (v := ?_) (a' := ?_) (Qbz 20 15) rfl rfl (by kernel_rfl) (fun _ _ _ h => h) (Or.inl ⟨by rfl, ?_⟩) hHeld ?_ ?_
         rotate_left
         ·rintro w' ⟨s0, s1, s2⟩
          go_simp
          with_reducible rfl
         rotate_left
         ·simp only [Act.put, Qp1, Qp2, Qp3, i64_w, i32_w]
          rfl
         refine take_ (i := 4) (N := some 47) (v := ?_) (a' := ?_) (Qbz 20 31) rfl rfl (by kernel_rfl) (fun _ _ _ h => h) (Or.inl ⟨by rfl, ?_⟩) hHeld ?_ ?_
         rotate_left
         ·rintro w' ⟨s0, s1, s2⟩
          go_simp
          with_reducible rfl
         rotate_left
         ·simp only [Act.put, Qp1, Qp2, Qp3, i64_w, i32_w]
          rfl
         refine one_ (i := 5) (N := some 48) (Qbz 20 63) rfl rfl (by kernel_rfl) (by decide) (fun K hK => ?_)
         refine goes_ Tryd.func66 (by kernel_rfl) rfl #[.slice A5 G.length c5] (by rfl) rfl rfl (by simp only [List.map_toArray, List.map_cons, List.map_nil]; rfl) ?_
         with_reducible refine (CALL.out _ hHeld).mono ?_
         rintro e w10 ⟨rfl, g0, g1, gB⟩
         refine ⟨_, rfl, ?_⟩
         refine hK.out _ _ ⟨g0, g1, gB⟩ (fun hHeld => ?_)
         clear hK K
         refine norm_ (a' := ?_) ?_ ?_
         rotate_left
         ·show Act.put _ (some 48) _ = _
          simp only [Act.put, Qp1, Qp2, Qp3, i64_w, i32_w]
          rfl
         refine pure_ (i := 6) (N := some 49) (v := ?_) (a' := ?_) (Qbz 20 127) rfl rfl (by kernel_rfl) (fun _ _ _ h => h) (Or.inl ⟨by rfl, ?_⟩) ?_ ?_
         rotate_left
         ·intro w'
          go_simp
          with_reducible rfl
         rotate_left
         ·simp only [Act.put, Qp1, Qp2, Qp3, i64_w, i32_w]
          rfl
         refine pure_ (i := 7) (N := some 50) (v := ?_) (a' := ?_) (Qbz 20 255) rfl rfl (by kernel_rfl) (fun _ _ _ h => h) (Or.inl ⟨by rfl, ?_⟩) ?_ ?_
         rotate_left
         ·intro w'
          go_simp
          with_reducible rfl
         rotate_left
         ·simp only [Act.put, Qp1, Qp2, Qp3, i64_w, i32_w]
          rfl
         refine pure_ (i := 8) (N := some 51) (v := ?_) (a' := ?_) (Qbz 20 511) rfl rfl (by kernel_rfl) (fun _ _ _ h => h) (Or.inl ⟨by rfl, ?_⟩) ?_ ?_
         rotate_left
         ·intro w'
          go_simp
          with_reducible rfl
         rotate_left
         ·simp only [Act.put, Qp1, Qp2, Qp3, i64_w, i32_w]
          rfl
         refine pure_ (i := 9) (N := some 52) (v := undef) (a' := ?_) (Qbz 20 1023) rfl rfl (by kernel_rfl) (fun _ _ _ h => h) (Or.inr ⟨by rfl, rfl⟩) ?_ ?_
         rotate_left
         ·simp only [Act.put, Qp1, Qp2, Qp3, i64_w, i32_w]
          rfl
         refine pure_ (i := 10) (N := some 53) (v := undef) (a' := ?_) (Qbz 20 2047) rfl rfl (by kernel_rfl) (fun _ _ _ h => h) (Or.inr ⟨by rfl, rfl⟩) ?_ ?_
         rotate_left
         ·simp only [Act.put, Qp1, Qp2, Qp3, i64_w, i32_w]
          rfl
         refine pure_ (i := 11) (N := some 54) (v := undef) (a' := ?_) (Qbz 20 4095) rfl rfl (by kernel_rfl) (fun _ _ _ h => h) (Or.inr ⟨by rfl, rfl⟩) ?_ ?_
         rotate_left
         ·simp only [Act.put, Qp1, Qp2, Qp3, i64_w, i32_w]
          rfl
         refine pure_ (i := 12) (N := some 55) (v := undef) (a' := ?_) (Qbz 20 8191) rfl rfl (by kernel_rfl) (fun _ _ _ h => h) (Or.inr ⟨by rfl, rfl⟩) ?_ ?_
         rotate_left
         ·simp only [Act.put, Qp1, Qp2, Qp3, i64_w, i32_w]
          rfl
         refine pure_ (i := 13) (N := some 56) (v := ?_) (a' := ?_) (Qbz 20 16383) rfl rfl (by kernel_rfl) (fun _ _ _ h => h) (Or.inl ⟨by rfl, ?_⟩) ?_ ?_
         rotate_left
         ·intro w'
          go_simp
          with_reducible rfl
         rotate_left
         ·simp only [Act.put, Qp1, Qp2, Qp3, i64_w, i32_w]
          rfl
         refine pure_ (i := 14) (N := some 57) (v := ?_) (a' := ?_) (Qbz 20 32767) rfl rfl (by kernel_rfl) (fun _ _ _ h => h) (Or.inl ⟨by rfl, ?_⟩) ?_ ?_
         rotate_left
         ·intro w'
          go_simp
          with_reducible rfl
         rotate_left
         ·simp only [Act.put, Qp1, Qp2, Qp3, i64_w, i32_w]
          rfl
         refine pure_ (i := 15) (N := some 58) (v := undef) (a' := ?_) (Qbz 20 65535) rfl rfl (by kernel_rfl) (fun _ _ _ h => h) (Or.inr ⟨by rfl, rfl⟩) ?_ ?_
         rotate_left
         ·simp only [Act.put, Qp1, Qp2, Qp3, i64_w, i32_w]
          rfl
         refine pure_ (i := 16) (N := some 59) (v := undef) (a' := ?_) (Qbz 20 131071) rfl rfl (by kernel_rfl) (fun _ _ _ h => h) (Or.inr ⟨by rfl, rfl⟩) ?_ ?_
         rotate_left
         ·simp only [Act.put, Qp1, Qp2, Qp3, i64_w, i32_w]
          rfl
         refine pure_ (i := 17) (N := some 60) (v := undef) (a' := ?_) (Qbz 20 262143) rfl rfl (by kernel_rfl) (fun _ _ _ h => h) (Or.inr ⟨by rfl, rfl⟩) ?_ ?_
         rotate_left
         ·simp only [Act.put, Qp1, Qp2, Qp3, i64_w, i32_w]
          rfl
         refine pure_ (i := 18) (N := some 61) (v := undef) (a' := ?_) (Qbz 20 524287) rfl rfl (by kernel_rfl) (fun _ _ _ h => h) (Or.inr ⟨by rfl, rfl⟩) ?_ ?_
         rotate_left
         ·simp only [Act.put, Qp1, Qp2, Qp3, i64_w, i32_w]
          rfl
         refine pure_ (i := 19) (N := some 62) (v := ?_) (a' := ?_) (Qbz 20 1048575) rfl rfl (by kernel_rfl) (fun _ _ _ h => h) (Or.inl ⟨by rfl, ?_⟩) ?_ ?_
         rotate_left
         ·intro w'
          go_simp
          with_reducible rfl
         rotate_left
         ·simp only [Act.put, Qp1, Qp2, Qp3, i64_w, i32_w]
          rfl
         refine done_ (by kernel_rfl) ?_
         go_wp2
         go_ret2
         exact ⟨rfl, below_step HB4.out (below_step HBW.out (below_step HB9.out hHeld.2.2))⟩
        ·have hx2 : decide ((A : Int) < x) = false := decide_eq_false hxA
         obtain ⟨xn, rfl⟩ := Int.eq_ofNat_of_zero_le (show 0 ≤ x by omega)
         have hxn : xn < 512 := by omega
         have hx3 : decide (A < xn) = false := decide_eq_false (by omega)
         have hx4 : (A < xn) = False := eq_false (by omega)
         have HXL : Aside0 (xn < 2 ^ G.length) := ⟨by rw [HAL.out]; omega⟩
         have han : Go.bits .and .i64 (xn : Int) (used : Int) = ((xn &&& used : Nat) : Int) := b_and _ _ (by omega) (by omega)
         have hah := HAH.out
         rw [decide_eq_true (by omega : (0 : Int) ≤ (xn : Int)), decide_eq_true (by rw [HAL.out]; omega : (xn : Int) < ((2 ^ G.length : Nat) : Int)), Bool.true_and, Bool.true_and, Int.toNat_natCast] at hah
         have HAH := Aside0.mk hah
         clear hah
         by_cases hna : xn &&& used = 0
         ·have ht1 : ((((xn &&& used : Nat) : Int)) != 0) = false := by rw [hna]; rfl
          have CCON : Aside0 (∀ W, (W.cell? ⟨sB, 0, none⟩ = some (.int .i64 (xn : Int)) ∧ W.cell? ⟨w2.heap.size, 0, none⟩ = some (.slice A5 G.length c5) ∧ Below w9.heap.size w9 W) → Calls Tryd.prog 67 #[.slice A5 G.length c5, .int .i64 (xn : Int)] W fun e w' => e = .returned (.bool (conB G xn)) ∧ (w'.cell? ⟨sB, 0, none⟩ = some (.int .i64 (xn : Int)) ∧ w'.cell? ⟨w2.heap.size, 0, none⟩ = some (.slice A5 G.length c5) ∧ Below w9.heap.size w9 w')) := ⟨fun W hW => by
           obtain ⟨K, hK⟩ := connected_ev G HG.out xn HXL.out
           have hB := below_step HBF.out hW.2.2
           have := minor_town_connected.calls K A5 c5 (gi G) (xn : Int) _ W (GL_below HGL.out (below_step HB4.out hB)) (by rw [gi_length]; exact Kd.C_below HC5b.out hB) (by rw [gi_length]; exact hc5) (hK K (Nat.le_refl _))
           rw [gi_length] at this
           exact this.mono fun e w' ⟨h, hb⟩ => ⟨h, KEEP.out w' (below_step hW.2.2 hb)⟩⟩
          cases hcb : conB G xn
          ·rw [hcb] at CCON
           have HNO : Aside0 (false = r1) := ⟨by
            have := HAH.out
            rw [hcb] at this
            simpa using this⟩
           have hr1 := HNO.out
           subst hr1
           clear hna hcb
           go_wp2
           rw [← hw9]
           refine start_ (n := 20) (S := fun w' => w'.cell? ⟨sB, 0, none⟩ = some (.int .i64 (xn : Int)) ∧ w'.cell? ⟨w2.heap.size, 0, none⟩ = some (.slice A5 G.length c5) ∧ Below w9.heap.size w9 w') (ds := []) (Qbz 20 0) (by kernel_rfl) rfl rfl ⟨f0d, f1d, fBd⟩ (fun hHeld => ?_)
           refine take_ (i := 0) (N := some 43) (v := ?_) (a' := ?_) (Qbz 20 1) rfl rfl (by kernel_rfl) (fun _ _ _ h => h) (Or.inl ⟨by rfl, ?_⟩) hHeld ?_ ?_
           rotate_left
           ·rintro w' ⟨s0, s1, s2⟩
            go_simp
            with_reducible rfl
           rotate_left
           ·simp only [Act.put, Qp1, Qp2, Qp3, i64_w, i32_w]
            rfl
           refine pure_ (i := 1) (N := some 44) (v := ?_) (a' := ?_) (Qbz 20 3) rfl rfl (by kernel_rfl) (fun _ _ _ h => h) (Or.inl ⟨by rfl, ?_⟩) ?_ ?_
           rotate_left
           ·intro w'
            go_simp
            with_reducible rfl
           rotate_left
           ·simp only [Act.put, Qp1, Qp2, Qp3, i64_w, i32_w]
            rfl
           refine pure_ (i := 2) (N := some 45) (v := ?_) (a' := ?_) (Qbz 20 7) rfl rfl (by kernel_rfl) (fun _ _ _ h => h) (Or.inl ⟨by rfl, ?_⟩) ?_ ?_
           rotate_left
           ·intro w'
            go_simp
            with_reducible rfl
           rotate_left
           ·simp only [Act.put, Qp1, Qp2, Qp3, i64_w, i32_w]
            rfl
           refine take_ (i := 3) (N := some 46) (v := ?_) (a' := ?_) (Qbz 20 15) rfl rfl (by kernel_rfl) (fun _ _ _ h => h) (Or.inl ⟨by rfl, ?_⟩) hHeld ?_ ?_
           rotate_left
           ·rintro w' ⟨s0, s1, s2⟩
            go_simp
            with_reducible rfl
           rotate_left
           ·simp only [Act.put, Qp1, Qp2, Qp3, i64_w, i32_w]
            rfl
           refine take_ (i := 4) (N := some 47) (v := ?_) (a' := ?_) (Qbz 20 31) rfl rfl (by kernel_rfl) (fun _ _ _ h => h) (Or.inl ⟨by rfl, ?_⟩) hHeld ?_ ?_
           rotate_left
           ·rintro w' ⟨s0, s1, s2⟩
            go_simp
            with_reducible rfl
           rotate_left
           ·simp only [Act.put, Qp1, Qp2, Qp3, i64_w, i32_w]
            rfl
           refine one_ (i := 5) (N := some 48) (Qbz 20 63) rfl rfl (by kernel_rfl) (by decide) (fun K hK => ?_)
           refine goes_ Tryd.func66 (by kernel_rfl) rfl #[.slice A5 G.length c5] (by rfl) rfl rfl (by simp only [List.map_toArray, List.map_cons, List.map_nil]; rfl) ?_
           with_reducible refine (CALL.out _ hHeld).mono ?_
           rintro e w10 ⟨rfl, g0, g1, gB⟩
           refine ⟨_, rfl, ?_⟩
           refine hK.out _ _ ⟨g0, g1, gB⟩ (fun hHeld => ?_)
           clear hK K
           refine norm_ (a' := ?_) ?_ ?_
           rotate_left
           ·show Act.put _ (some 48) _ = _
            simp only [Act.put, Qp1, Qp2, Qp3, i64_w, i32_w]
            rfl
           refine pure_ (i := 6) (N := some 49) (v := ?_) (a' := ?_) (Qbz 20 127) rfl rfl (by kernel_rfl) (fun _ _ _ h => h) (Or.inl ⟨by rfl, ?_⟩) ?_ ?_
           rotate_left
           ·intro w'
            go_simp
            with_reducible rfl
           rotate_left
           ·simp only [Act.put, Qp1, Qp2, Qp3, i64_w, i32_w]
            rfl
           refine pure_ (i := 7) (N := some 50) (v := ?_) (a' := ?_) (Qbz 20 255) rfl rfl (by kernel_rfl) (fun _ _ _ h => h) (Or.inl ⟨by rfl, ?_⟩) ?_ ?_
           rotate_left
           ·intro w'
            go_simp
            with_reducible rfl
           rotate_left
           ·simp only [Act.put, Qp1, Qp2, Qp3, i64_w, i32_w]
            rfl
           refine pure_ (i := 8) (N := some 51) (v := ?_) (a' := ?_) (Qbz 20 511) rfl rfl (by kernel_rfl) (fun _ _ _ h => h) (Or.inl ⟨by rfl, ?_⟩) ?_ ?_
           rotate_left
           ·intro w'
            go_simp
            with_reducible rfl
           rotate_left
           ·simp only [Act.put, Qp1, Qp2, Qp3, i64_w, i32_w]
            rfl
           refine pure_ (i := 10) (N := some 53) (v := ?_) (a' := ?_) (Qbz 20 1535) rfl rfl (by kernel_rfl) (fun _ _ _ h => h) (Or.inl ⟨by rfl, ?_⟩) ?_ ?_
           rotate_left
           ·intro w'
            go_simp
            with_reducible rfl
           rotate_left
           ·simp only [Act.put, Qp1, Qp2, Qp3, i64_w, i32_w]
            rfl
           refine take_ (i := 9) (N := some 52) (v := ?_) (a' := ?_) (Qbz 20 2047) rfl rfl (by kernel_rfl) (fun _ _ _ h => h) (Or.inl ⟨by rfl, ?_⟩) hHeld ?_ ?_
           rotate_left
           ·rintro w' ⟨s0, s1, s2⟩
            go_simp
            with_reducible rfl
           rotate_left
           ·simp only [Act.put, Qp1, Qp2, Qp3, i64_w, i32_w]
            rfl
           refine pure_ (i := 11) (N := some 54) (v := ?_) (a' := ?_) (Qbz 20 4095) rfl rfl (by kernel_rfl) (fun _ _ _ h => h) (Or.inl ⟨by rfl, ?_⟩) ?_ ?_
           rotate_left
           ·intro w'
            go_simp
            with_reducible rfl
           rotate_left
           ·simp only [Act.put, Qp1, Qp2, Qp3, i64_w, i32_w]
            rfl
           refine pure_ (i := 12) (N := some 55) (v := ?_) (a' := ?_) (Qbz 20 8191) rfl rfl (by kernel_rfl) (fun _ _ _ h => h) (Or.inl ⟨by rfl, ?_⟩) ?_ ?_
           rotate_left
           ·intro w'
            go_simp
            with_reducible rfl
           rotate_left
           ·simp only [Act.put, Qp1, Qp2, Qp3, i64_w, i32_w]
            rfl
           refine pure_ (i := 13) (N := some 56) (v := ?_) (a' := ?_) (Qbz 20 16383) rfl rfl (by kernel_rfl) (fun _ _ _ h => h) (Or.inl ⟨by rfl, ?_⟩) ?_ ?_
           rotate_left
           ·intro w'
            go_simp
            with_reducible rfl
           rotate_left
           ·simp only [Act.put, Qp1, Qp2, Qp3, i64_w, i32_w]
            rfl
           refine pure_ (i := 14) (N := some 57) (v := ?_) (a' := ?_) (Qbz 20 32767) rfl rfl (by kernel_rfl) (fun _ _ _ h => h) (Or.inl ⟨by rfl, ?_⟩) ?_ ?_
           rotate_left
           ·intro w'
            go_simp
            with_reducible rfl
           rotate_left
           ·simp only [Act.put, Qp1, Qp2, Qp3, i64_w, i32_w]
            rfl
           refine take_ (i := 15) (N := some 58) (v := ?_) (a' := ?_) (Qbz 20 65535) rfl rfl (by kernel_rfl) (fun _ _ _ h => h) (Or.inl ⟨by rfl, ?_⟩) hHeld ?_ ?_
           rotate_left
           ·rintro w' ⟨s0, s1, s2⟩
            go_simp
            with_reducible rfl
           rotate_left
           ·simp only [Act.put, Qp1, Qp2, Qp3, i64_w, i32_w]
            rfl
           refine take_ (i := 16) (N := some 59) (v := ?_) (a' := ?_) (Qbz 20 131071) rfl rfl (by kernel_rfl) (fun _ _ _ h => h) (Or.inl ⟨by rfl, ?_⟩) hHeld ?_ ?_
           rotate_left
           ·rintro w' ⟨s0, s1, s2⟩
            go_simp
            with_reducible rfl
           rotate_left
           ·simp only [Act.put, Qp1, Qp2, Qp3, i64_w, i32_w]
            rfl
           refine one_ (i := 17) (N := some 60) (Qbz 20 262143) rfl rfl (by kernel_rfl) (by decide) (fun K hK => ?_)
           refine goes_ Tryd.func67 (by kernel_rfl) rfl #[.slice A5 G.length c5, .int .i64 (xn : Int)] (by rfl) rfl rfl (by simp only [List.map_toArray, List.map_cons, List.map_nil]; rfl) ?_
           with_reducible refine (CCON.out _ hHeld).mono ?_
           rintro e w11 ⟨rfl, k0, k1, kB⟩
           refine ⟨_, rfl, ?_⟩
           refine hK.out _ _ ⟨k0, k1, kB⟩ (fun hHeld => ?_)
           clear hK K
           refine norm_ (a' := ?_) ?_ ?_
           rotate_left
           ·show Act.put _ (some 60) _ = _
            simp only [Act.put, Qp1, Qp2, Qp3, i64_w, i32_w]
            rfl
           refine pure_ (i := 18) (N := some 61) (v := ?_) (a' := ?_) (Qbz 20 524287) rfl rfl (by kernel_rfl) (fun _ _ _ h => h) (Or.inl ⟨by rfl, ?_⟩) ?_ ?_
           rotate_left
           ·intro w'
            go_simp
            with_reducible rfl
           rotate_left
           ·simp only [Act.put, Qp1, Qp2, Qp3, i64_w, i32_w]
            rfl
           refine pure_ (i := 19) (N := some 62) (v := ?_) (a' := ?_) (Qbz 20 1048575) rfl rfl (by kernel_rfl) (fun _ _ _ h => h) (Or.inl ⟨by rfl, ?_⟩) ?_ ?_
           rotate_left
           ·intro w'
            go_simp
            with_reducible rfl
           rotate_left
           ·simp only [Act.put, Qp1, Qp2, Qp3, i64_w, i32_w]
            rfl
           refine done_ (by kernel_rfl) ?_
           go_wp2
           go_ret2
           exact ⟨rfl, below_step HB4.out (below_step HBW.out (below_step HB9.out hHeld.2.2))⟩
          ·rw [hcb] at CCON
           have hor : Go.bits .or .i64 (used : Int) (xn : Int) = ((used ||| xn : Nat) : Int) := b_or _ _ (by omega) (by omega)
           have horl : used ||| xn < 512 := Nat.or_lt_two_pow (n := 9) (by omega) (by omega)
           have HRES : Aside0 ((fitB G P M xn i && chkM G P (l2.drop (i + 1)) (M ++ [xn]) (used ||| xn)) = r1) := ⟨by
            have := HAH.out
            rw [hcb, decide_eq_true hna, HM.out.1] at this
            simpa using this⟩
           have HUL : Aside0 (used ||| xn < 2 ^ G.length) := ⟨Nat.or_lt_two_pow HM.out.2.2.2 HXL.out⟩
           clear hna hcb HAH
           go_wp2
           rw [← hw9]
           refine start_ (n := 20) (S := fun w' => w'.cell? ⟨sB, 0, none⟩ = some (.int .i64 (xn : Int)) ∧ w'.cell? ⟨w2.heap.size, 0, none⟩ = some (.slice A5 G.length c5) ∧ Below w9.heap.size w9 w') (ds := []) (Qbz 20 0) (by kernel_rfl) rfl rfl ⟨f0d, f1d, fBd⟩ (fun hHeld => ?_)
           refine take_ (i := 0) (N := some 43) (v := ?_) (a' := ?_) (Qbz 20 1) rfl rfl (by kernel_rfl) (fun _ _ _ h => h) (Or.inl ⟨by rfl, ?_⟩) hHeld ?_ ?_
           rotate_left
           ·rintro w' ⟨s0, s1, s2⟩
            go_simp
            with_reducible rfl
           rotate_left
           ·simp only [Act.put, Qp1, Qp2, Qp3, i64_w, i32_w]
            rfl
           refine pure_ (i := 1) (N := some 44) (v := ?_) (a' := ?_) (Qbz 20 3) rfl rfl (by kernel_rfl) (fun _ _ _ h => h) (Or.inl ⟨by rfl, ?_⟩) ?_ ?_
           rotate_left
           ·intro w'
            go_simp
            with_reducible rfl
           rotate_left
           ·simp only [Act.put, Qp1, Qp2, Qp3, i64_w, i32_w]
            rfl
           refine pure_ (i := 2) (N := some 45) (v := ?_) (a' := ?_) (Qbz 20 7) rfl rfl (by kernel_rfl) (fun _ _ _ h => h) (Or.inl ⟨by rfl, ?_⟩) ?_ ?_
           rotate_left
           ·intro w'
            go_simp
            with_reducible rfl
           rotate_left
           ·simp only [Act.put, Qp1, Qp2, Qp3, i64_w, i32_w]
            rfl
           refine take_ (i := 3) (N := some 46) (v := ?_) (a' := ?_) (Qbz 20 15) rfl rfl (by kernel_rfl) (fun _ _ _ h => h) (Or.inl ⟨by rfl, ?_⟩) hHeld ?_ ?_
           rotate_left
           ·rintro w' ⟨s0, s1, s2⟩
            go_simp
            with_reducible rfl
           rotate_left
           ·simp only [Act.put, Qp1, Qp2, Qp3, i64_w, i32_w]
            rfl
           refine take_ (i := 4) (N := some 47) (v := ?_) (a' := ?_) (Qbz 20 31) rfl rfl (by kernel_rfl) (fun _ _ _ h => h) (Or.inl ⟨by rfl, ?_⟩) hHeld ?_ ?_
           rotate_left
           ·rintro w' ⟨s0, s1, s2⟩
            go_simp
            with_reducible rfl
           rotate_left
           ·simp only [Act.put, Qp1, Qp2, Qp3, i64_w, i32_w]
            rfl
           refine one_ (i := 5) (N := some 48) (Qbz 20 63) rfl rfl (by kernel_rfl) (by decide) (fun K hK => ?_)
           refine goes_ Tryd.func66 (by kernel_rfl) rfl #[.slice A5 G.length c5] (by rfl) rfl rfl (by simp only [List.map_toArray, List.map_cons, List.map_nil]; rfl) ?_
           with_reducible refine (CALL.out _ hHeld).mono ?_
           rintro e w10 ⟨rfl, g0, g1, gB⟩
           refine ⟨_, rfl, ?_⟩
           refine hK.out _ _ ⟨g0, g1, gB⟩ (fun hHeld => ?_)
           clear hK K
           refine norm_ (a' := ?_) ?_ ?_
           rotate_left
           ·show Act.put _ (some 48) _ = _
            simp only [Act.put, Qp1, Qp2, Qp3, i64_w, i32_w]
            rfl
           refine pure_ (i := 6) (N := some 49) (v := ?_) (a' := ?_) (Qbz 20 127) rfl rfl (by kernel_rfl) (fun _ _ _ h => h) (Or.inl ⟨by rfl, ?_⟩) ?_ ?_
           rotate_left
           ·intro w'
            go_simp
            with_reducible rfl
           rotate_left
           ·simp only [Act.put, Qp1, Qp2, Qp3, i64_w, i32_w]
            rfl
           refine pure_ (i := 7) (N := some 50) (v := ?_) (a' := ?_) (Qbz 20 255) rfl rfl (by kernel_rfl) (fun _ _ _ h => h) (Or.inl ⟨by rfl, ?_⟩) ?_ ?_
           rotate_left
           ·intro w'
            go_simp
            with_reducible rfl
           rotate_left
           ·simp only [Act.put, Qp1, Qp2, Qp3, i64_w, i32_w]
            rfl
           refine pure_ (i := 8) (N := some 51) (v := ?_) (a' := ?_) (Qbz 20 511) rfl rfl (by kernel_rfl) (fun _ _ _ h => h) (Or.inl ⟨by rfl, ?_⟩) ?_ ?_
           rotate_left
           ·intro w'
            go_simp
            with_reducible rfl
           rotate_left
           ·simp only [Act.put, Qp1, Qp2, Qp3, i64_w, i32_w]
            rfl
           refine pure_ (i := 10) (N := some 53) (v := ?_) (a' := ?_) (Qbz 20 1535) rfl rfl (by kernel_rfl) (fun _ _ _ h => h) (Or.inl ⟨by rfl, ?_⟩) ?_ ?_
           rotate_left
           ·intro w'
            go_simp
            with_reducible rfl
           rotate_left
           ·simp only [Act.put, Qp1, Qp2, Qp3, i64_w, i32_w]
            rfl
           refine take_ (i := 9) (N := some 52) (v := ?_) (a' := ?_) (Qbz 20 2047) rfl rfl (by kernel_rfl) (fun _ _ _ h => h) (Or.inl ⟨by rfl, ?_⟩) hHeld ?_ ?_
           rotate_left
           ·rintro w' ⟨s0, s1, s2⟩
            go_simp
            with_reducible rfl
           rotate_left
           ·simp only [Act.put, Qp1, Qp2, Qp3, i64_w, i32_w]
            rfl
           refine pure_ (i := 11) (N := some 54) (v := ?_) (a' := ?_) (Qbz 20 4095) rfl rfl (by kernel_rfl) (fun _ _ _ h => h) (Or.inl ⟨by rfl, ?_⟩) ?_ ?_
           rotate_left
           ·intro w'
            go_simp
            with_reducible rfl
           rotate_left
           ·simp only [Act.put, Qp1, Qp2, Qp3, i64_w, i32_w]
            rfl
           refine pure_ (i := 12) (N := some 55) (v := ?_) (a' := ?_) (Qbz 20 8191) rfl rfl (by kernel_rfl) (fun _ _ _ h => h) (Or.inl ⟨by rfl, ?_⟩) ?_ ?_
           rotate_left
           ·intro w'
            go_simp
            with_reducible rfl
           rotate_left
           ·simp only [Act.put, Qp1, Qp2, Qp3, i64_w, i32_w]
            rfl
           refine pure_ (i := 13) (N := some 56) (v := ?_) (a' := ?_) (Qbz 20 16383) rfl rfl (by kernel_rfl) (fun _ _ _ h => h) (Or.inl ⟨by rfl, ?_⟩) ?_ ?_
           rotate_left
           ·intro w'
            go_simp
            with_reducible rfl
           rotate_left
           ·simp only [Act.put, Qp1, Qp2, Qp3, i64_w, i32_w]
            rfl
           refine pure_ (i := 14) (N := some 57) (v := ?_) (a' := ?_) (Qbz 20 32767) rfl rfl (by kernel_rfl) (fun _ _ _ h => h) (Or.inl ⟨by rfl, ?_⟩) ?_ ?_
           rotate_left
           ·intro w'
            go_simp
            with_reducible rfl
           rotate_left
           ·simp only [Act.put, Qp1, Qp2, Qp3, i64_w, i32_w]
            rfl
           refine take_ (i := 15) (N := some 58) (v := ?_) (a' := ?_) (Qbz 20 65535) rfl rfl (by kernel_rfl) (fun _ _ _ h => h) (Or.inl ⟨by rfl, ?_⟩) hHeld ?_ ?_
           rotate_left
           ·rintro w' ⟨s0, s1, s2⟩
            go_simp
            with_reducible rfl
           rotate_left
           ·simp only [Act.put, Qp1, Qp2, Qp3, i64_w, i32_w]
            rfl
           refine take_ (i := 16) (N := some 59) (v := ?_) (a' := ?_) (Qbz 20 131071) rfl rfl (by kernel_rfl) (fun _ _ _ h => h) (Or.inl ⟨by rfl, ?_⟩) hHeld ?_ ?_
           rotate_left
           ·rintro w' ⟨s0, s1, s2⟩
            go_simp
            with_reducible rfl
           rotate_left
           ·simp only [Act.put, Qp1, Qp2, Qp3, i64_w, i32_w]
            rfl
           refine one_ (i := 17) (N := some 60) (Qbz 20 262143) rfl rfl (by kernel_rfl) (by decide) (fun K hK => ?_)
           refine goes_ Tryd.func67 (by kernel_rfl) rfl #[.slice A5 G.length c5, .int .i64 (xn : Int)] (by rfl) rfl rfl (by simp only [List.map_toArray, List.map_cons, List.map_nil]; rfl) ?_
           with_reducible refine (CCON.out _ hHeld).mono ?_
           rintro e w11 ⟨rfl, k0, k1, kB⟩
           refine ⟨_, rfl, ?_⟩
           refine hK.out _ _ ⟨k0, k1, kB⟩ (fun hHeld => ?_)
           clear hK K
           refine norm_ (a' := ?_) ?_ ?_
           rotate_left
           ·show Act.put _ (some 60) _ = _
            simp only [Act.put, Qp1, Qp2, Qp3, i64_w, i32_w]
            rfl
           refine pure_ (i := 18) (N := some 61) (v := ?_) (a' := ?_) (Qbz 20 524287) rfl rfl (by kernel_rfl) (fun _ _ _ h => h) (Or.inl ⟨by rfl, ?_⟩) ?_ ?_
           rotate_left
           ·intro w'
            go_simp
            with_reducible rfl
           rotate_left
           ·simp only [Act.put, Qp1, Qp2, Qp3, i64_w, i32_w]
            rfl
           refine pure_ (i := 19) (N := some 62) (v := ?_) (a' := ?_) (Qbz 20 1048575) rfl rfl (by kernel_rfl) (fun _ _ _ h => h) (Or.inl ⟨by rfl, ?_⟩) ?_ ?_
           rotate_left
           ·intro w'
            go_simp
            with_reducible rfl
           rotate_left
           ·simp only [Act.put, Qp1, Qp2, Qp3, i64_w, i32_w]
            rfl
           refine done_ (by kernel_rfl) ?_
           go_wp2
           have HB11 := Aside0.mk (below_step HBF.out kB)
           have hbw := below_step HB4.out HB11.out
           obtain ⟨ap, e6, f2⟩ := Kd.at_int (Kd.C_below HC6.out HB11.out) (i : Int) (by omega) (by omega)
           subst e6
           rw [rd_gi, Int.toNat_natCast] at f2
           have hP5 : ∀ y ∈ P, y < 512 := fun y hy => small P (by omega) (by
            obtain ⟨q, hq, e⟩ := List.getElem_of_mem hy
            have := HP.out.row q
            rw [List.getD_eq_getElem?_getD, List.getElem?_eq_getElem hq] at this
            rw [← e]
            exact this)
           have hlt9 : P.getD i 0 < 2 ^ 62 := by have := hP5 (P.getD i 0) (by rw [List.getD_eq_getElem?_getD, List.getElem?_eq_getElem (by omega)]; exact List.getElem_mem _); omega
           obtain ⟨N, ⟨hS1, hS2, hS3⟩, hNv⟩ := shJ i (by omega)
           obtain ⟨N1, hN1⟩ : ∃ N1 : Int, wrap64 (N - 1) = N1 := ⟨_, rfl⟩
           have hN1v : N1 = ((2 ^ i - 1 : Nat) : Int) := by
            have hp0 := Nat.two_pow_pos i
            have hpw := (pow9 i (by omega)).1
            clear hS1 hS2 hS3
            generalize 2 ^ i = T at *
            rw [← hN1, hNv, w64_small _ (by omega) (by omega)]
            omega
           obtain ⟨q, hq⟩ : ∃ q : Nat, q = P.getD i 0 &&& (2 ^ i - 1) := ⟨_, rfl⟩
           have hq2 : Go.bits .and .i64 ((P.getD i 0 : Nat) : Int) N1 = (q : Int) := by
            rw [hN1v, b_and _ _ hlt9 (pow9 _ (by omega)).1, hq]
           have hq512 : q < 512 := by rw [hq]; exact Nat.lt_of_le_of_lt Nat.and_le_right (pow9 _ (by omega)).2
           have HQ := Aside0.mk hq
           have hin : ∀ j, j ∈ els q 9 → j < i := fun j hj => by
            have := (mem_els.1 hj).2
            rw [HQ.out, Nat.testBit_and, Bool.and_eq_true] at this
            exact (all_bit _ _).1 this.2
           have CND : Aside0 (∀ W, (W.cell? (ap.add i) = some (.int .i64 ((P.getD i 0 : Nat) : Int)) ∧ Below w11.heap.size w11 W) → Calls Tryd.prog 69 #[.int .i64 (q : Int)] W fun e w' => ∃ A c, e = .returned (.slice A (gi (els q 9)).length c) ∧ Kd.C (Kd.int .i64) w' A (gi (els q 9)).length (gi (els q 9)) ∧ (w'.cell? (ap.add i) = some (.int .i64 ((P.getD i 0 : Nat) : Int)) ∧ Below w11.heap.size w11 w')) := ⟨by
            rintro W ⟨s2, s3⟩
            obtain ⟨K, hK⟩ := nodes_ev q hq512
            refine (minor_nodes.calls K (q : Int) _ W (GL_below HGL.out (below_step hbw s3)) (hK K (Nat.le_refl _))).mono ?_
            rintro e w' ⟨u, rfl, hu, hb⟩
            obtain ⟨A, c, eu, hc, hC⟩ := Kd.R_reads hu
            subst eu
            exact ⟨A, c, rfl, hC, (hb.cell (World.block_lt_of_cell? W _ s2)).trans s2, below_step s3 hb⟩⟩
           have hBm := hbw
           have hm11 : w11.cell? ⟨mB, 0, none⟩ = some (.slice (some ad) l2.length c2) := (HB11.out.cell (World.block_lt_of_cell? w4 _ hm4)).trans hm4
           have CCF : Aside0 (∀ W A c, (W.cell? (ap.add i) = some (.int .i64 ((P.getD i 0 : Nat) : Int)) ∧ Below w11.heap.size w11 W) → Kd.C (Kd.int .i64) W A (gi (els q 9)).length (gi (els q 9)) → Calls Tryd.prog 68 #[.slice A (gi (els q 9)).length c, .func (.func 70) #[] #[.pointer (some ⟨mB, 0, none⟩), .pointer (some ⟨w2.heap.size, 0, none⟩), .pointer (some ⟨sB, 0, none⟩)]] W fun e w' => e = .returned (.bool ((gi (els q 9)).any (fitP M (Around G xn)))) ∧ (w'.cell? (ap.add i) = some (.int .i64 ((P.getD i 0 : Nat) : Int)) ∧ Below w11.heap.size w11 w')) := ⟨by
            rintro W A c ⟨s2, s3⟩ hC
            refine (contains_chk A c _ (fitP M (Around G xn)) mB w2.heap.size sB W hC (by rw [gi_length, els_length]; have := pc_le q 9; omega) ?_).mono ?_
            ·intro V hV y hy
             obtain ⟨j, hj, rfl⟩ := List.mem_map.1 hy
             have hjl := hin j hj
             have hB11 := below_step s3 hV
             have hBV := below_step hbw hB11
             have hB4V := below_step HB11.out hB11
             have := chk1 mB w2.heap.size sB (some ad) c2 l2 A5 c5 G HG.out hc5 xn HXL.out (j : Int) (by omega) (by omega) V (GL_below HGL.out hBV) (Kd.C_below HR2.out hBV) (by rw [gi_length]; exact Kd.C_below HC5b.out hB4V) ((hB11.cell (World.block_lt_of_cell? w11 _ hm11)).trans hm11) ((hB11.cell (World.block_lt_of_cell? w11 _ k1)).trans k1) ((hB11.cell (World.block_lt_of_cell? w11 _ k0)).trans k0)
             rw [rd_take HM.out.2.1 hjl (by omega)] at this
             exact this
            ·rintro e w' ⟨rfl, hb⟩
             exact ⟨rfl, (hb.cell (World.block_lt_of_cell? W _ s2)).trans s2, below_step s3 hb⟩⟩
           have HFIN : Aside0 ((!(gi (els q 9)).any (fitP M (Around G xn))) = fitB G P M xn i) := ⟨by
            rw [HQ.out]
            have hMl := HM.out.1
            subst hMl
            exact fitP_all G P M xn (fun y hy => small G (by omega) (HM.out.2.2.1 y hy)) (small G (by omega) (Around_lt HG.out xn))⟩
           have f2d : w11.drew.cell? (ap.add i) = some (.int .i64 ((P.getD i 0 : Nat) : Int)) := f2
           have fB2d : Below w11.heap.size w11 w11.drew := below_drew (Below.refl _ _)
           have HBW11 := Aside0.mk hbw
           clear hin hq hNv hN1v hlt9 hq512 HQ hP5 hbw hBm
           generalize (gi (els q 9)) = l at *
           generalize P.getD i 0 = pv at *
           generalize Around G xn = ar at *
           clear hHeld
           cases hany : l.any (fitP M ar)
           ·rw [hany] at CCF HFIN
            have HNX : Aside0 (chkM G P (l2.drop (i + 1)) (M ++ [xn]) (used ||| xn) = r1) := ⟨by
             have := HRES.out
             rw [← HFIN.out] at this
             simpa using this⟩
            clear hany
            refine start_ (n := 11) (S := fun w' => w'.cell? (ap.add i) = some (.int .i64 (pv : Int)) ∧ Below w11.heap.size w11 w') (ds := []) (Qbz 11 0) (by kernel_rfl) rfl rfl ⟨f2d, fB2d⟩ (fun hHeld => ?_)
            refine pure_ (i := 0) (N := some 66) (v := ?_) (a' := ?_) (Qbz 11 1) rfl rfl (by kernel_rfl) (fun _ _ _ h => h) (Or.inl ⟨by rfl, ?_⟩) ?_ ?_
            rotate_left
            ·intro w'
             go_simp
             with_reducible rfl
            rotate_left
            ·simp only [Act.put, Qp1, Qp2, Qp3, i64_w, i32_w]
             rfl
            refine pure_ (i := 1) (N := some 67) (v := ?_) (a' := ?_) (Qbz 11 3) rfl rfl (by kernel_rfl) (fun _ _ _ h => h) (Or.inl ⟨by rfl, ?_⟩) ?_ ?_
            rotate_left
            ·intro w'
             go_simp
             with_reducible rfl
            rotate_left
            ·simp only [Act.put, Qp1, Qp2, Qp3, i64_w, i32_w]
             rfl
            refine pure_ (i := 2) (N := some 68) (v := ?_) (a' := ?_) (Qbz 11 7) rfl rfl (by kernel_rfl) (fun _ _ _ h => h) (Or.inl ⟨by rfl, ?_⟩) ?_ ?_
            rotate_left
            ·intro w'
             go_simp
             with_reducible rfl
            rotate_left
            ·simp only [Act.put, Qp1, Qp2, Qp3, i64_w, i32_w]
             rfl
            refine pure_ (i := 4) (N := some 70) (v := ?_) (a' := ?_) (Qbz 11 23) rfl rfl (by kernel_rfl) (fun _ _ _ h => h) (Or.inl ⟨by rfl, ?_⟩) ?_ ?_
            rotate_left
            ·intro w'
             go_simp
             with_reducible rfl
            rotate_left
            ·simp only [Act.put, Qp1, Qp2, Qp3, i64_w, i32_w]
             rfl
            refine pure_ (i := 5) (N := some 71) (v := ?_) (a' := ?_) (Qbz 11 55) rfl rfl (by kernel_rfl) (fun _ _ _ h => h) (Or.inl ⟨by rfl, ?_⟩) ?_ ?_
            rotate_left
            ·intro w'
             go_simp
             with_reducible rfl
            rotate_left
            ·simp only [Act.put, Qp1, Qp2, Qp3, i64_w, i32_w]
             rfl
            refine pure_ (i := 6) (N := some 72) (v := ?_) (a' := ?_) (Qbz 11 119) rfl rfl (by kernel_rfl) (fun _ _ _ h => h) (Or.inl ⟨by rfl, ?_⟩) ?_ ?_
            rotate_left
            ·intro w'
             go_simp
             with_reducible rfl
            rotate_left
            ·simp only [Act.put, Qp1, Qp2, Qp3, i64_w, i32_w]
             rfl
            refine pure_ (i := 9) (N := some 75) (v := ?_) (a' := ?_) (Qbz 11 631) rfl rfl (by kernel_rfl) (fun _ _ _ h => h) (Or.inl ⟨by rfl, ?_⟩) ?_ ?_
            rotate_left
            ·intro w'
             go_simp
             with_reducible rfl
            rotate_left
            ·simp only [Act.put, Qp1, Qp2, Qp3, i64_w, i32_w]
             rfl
            refine take_ (i := 3) (N := some 69) (v := ?_) (a' := ?_) (Qbz 11 639) rfl rfl (by kernel_rfl) (fun _ _ _ h => h) (Or.inl ⟨by rfl, ?_⟩) hHeld ?_ ?_
            rotate_left
            ·rintro w' ⟨s0, s1⟩
             go_simp
             with_reducible rfl
            rotate_left
            ·simp only [Act.put, Qp1, Qp2, Qp3, i64_w, i32_w]
             rfl
            refine pure_ (i := 7) (N := some 73) (v := ?_) (a' := ?_) (Qbz 11 767) rfl rfl (by kernel_rfl) (fun _ _ _ h => h) (Or.inl ⟨by rfl, ?_⟩) ?_ ?_
            rotate_left
            ·intro w'
             go_simp
             with_reducible rfl
            rotate_left
            ·simp only [Act.put, Qp1, Qp2, Qp3, i64_w, i32_w]
             rfl
            refine one_ (i := 8) (N := some 74) (Qbz 11 1023) rfl rfl (by kernel_rfl) (by decide) (fun K hK => ?_)
            refine goes_ Tryd.func69 (by kernel_rfl) rfl #[.int .i64 (q : Int)] (by rfl) rfl rfl (by simp only [List.map_toArray, List.map_cons, List.map_nil]; rfl) ?_
            with_reducible refine (CND.out _ hHeld).mono ?_
            rintro e w12 ⟨A8, c8, rfl, hC8, g2, gB2⟩
            refine ⟨_, rfl, ?_⟩
            refine hK.out _ _ ⟨g2, gB2⟩ (fun hHeld => ?_)
            clear hK K
            refine norm_ (a' := ?_) ?_ ?_
            rotate_left
            ·show Act.put _ (some 74) _ = _
             simp only [Act.put, Qp1, Qp2, Qp3, i64_w, i32_w]
             rfl
            refine one_ (i := 10) (N := some 76) (Qbz 11 2047) rfl rfl (by kernel_rfl) (by decide) (fun K hK => ?_)
            refine goes_ Tryd.func68 (by kernel_rfl) rfl #[.slice A8 l.length c8, .func (.func 70) #[] #[.pointer (some ⟨mB, 0, none⟩), .pointer (some ⟨w2.heap.size, 0, none⟩), .pointer (some ⟨sB, 0, none⟩)]] (by rfl) rfl rfl (by simp only [List.map_toArray, List.map_cons, List.map_nil]; rfl) ?_
            with_reducible refine (CCF.out _ _ _ hHeld hC8).mono ?_
            rintro e w13 ⟨rfl, k2, kB2⟩
            refine ⟨_, rfl, ?_⟩
            refine hK.out _ _ ⟨k2, kB2⟩ (fun hHeld => ?_)
            clear hK K
            refine norm_ (a' := ?_) ?_ ?_
            rotate_left
            ·show Act.put _ (some 76) _ = _
             simp only [Act.put, Qp1, Qp2, Qp3, i64_w, i32_w]
             rfl
            refine done_ (by kernel_rfl) ?_
            go_wp2
            go_roundg gi'
            case measure => omega
            case rel =>
             refine ⟨i + 1, used ||| xn, M ++ [xn], rfl, by go_num, by omega, horl, ⟨by rw [List.length_append, HM.out.1]; rfl, by rw [HTK.out, HM.out.2.1]; simp [gi], fun y hy => ?_, HUL.out⟩, HNX, ⟨below_step HB11.out hHeld.2⟩⟩
             rcases List.mem_append.1 hy with hy | hy
             ·exact HM.out.2.2.1 y hy
             ·rw [List.mem_singleton.1 hy]; exact HXL.out
           ·rw [hany] at CCF HFIN
            have hr1 : false = r1 := by
             have := HRES.out
             rw [← HFIN.out] at this
             simpa using this
            subst hr1
            clear hany
            refine start_ (n := 11) (S := fun w' => w'.cell? (ap.add i) = some (.int .i64 (pv : Int)) ∧ Below w11.heap.size w11 w') (ds := []) (Qbz 11 0) (by kernel_rfl) rfl rfl ⟨f2d, fB2d⟩ (fun hHeld => ?_)
            refine pure_ (i := 0) (N := some 66) (v := ?_) (a' := ?_) (Qbz 11 1) rfl rfl (by kernel_rfl) (fun _ _ _ h => h) (Or.inl ⟨by rfl, ?_⟩) ?_ ?_
            rotate_left
            ·intro w'
             go_simp
             with_reducible rfl
            rotate_left
            ·simp only [Act.put, Qp1, Qp2, Qp3, i64_w, i32_w]
             rfl
            refine pure_ (i := 1) (N := some 67) (v := ?_) (a' := ?_) (Qbz 11 3) rfl rfl (by kernel_rfl) (fun _ _ _ h => h) (Or.inl ⟨by rfl, ?_⟩) ?_ ?_
            rotate_left
            ·intro w'
             go_simp
             with_reducible rfl
            rotate_left
            ·simp only [Act.put, Qp1, Qp2, Qp3, i64_w, i32_w]
             rfl
            refine pure_ (i := 2) (N := some 68) (v := ?_) (a' := ?_) (Qbz 11 7) rfl rfl (by kernel_rfl) (fun _ _ _ h => h) (Or.inl ⟨by rfl, ?_⟩) ?_ ?_
            rotate_left
            ·intro w'
             go_simp
             with_reducible rfl
            rotate_left
            ·simp only [Act.put, Qp1, Qp2, Qp3, i64_w, i32_w]
             rfl
            refine pure_ (i := 4) (N := some 70) (v := ?_) (a' := ?_) (Qbz 11 23) rfl rfl (by kernel_rfl) (fun _ _ _ h => h) (Or.inl ⟨by rfl, ?_⟩) ?_ ?_
            rotate_left
            ·intro w'
             go_simp
             with_reducible rfl
            rotate_left
            ·simp only [Act.put, Qp1, Qp2, Qp3, i64_w, i32_w]
             rfl
            refine pure_ (i := 5) (N := some 71) (v := ?_) (a' := ?_) (Qbz 11 55) rfl rfl (by kernel_rfl) (fun _ _ _ h => h) (Or.inl ⟨by rfl, ?_⟩) ?_ ?_
            rotate_left
            ·intro w'
             go_simp
             with_reducible rfl
            rotate_left
            ·simp only [Act.put, Qp1, Qp2, Qp3, i64_w, i32_w]
             rfl
            refine pure_ (i := 6) (N := some 72) (v := ?_) (a' := ?_) (Qbz 11 119) rfl rfl (by kernel_rfl) (fun _ _ _ h => h) (Or.inl ⟨by rfl, ?_⟩) ?_ ?_
            rotate_left
            ·intro w'
             go_simp
             with_reducible rfl
            rotate_left
            ·simp only [Act.put, Qp1, Qp2, Qp3, i64_w, i32_w]
             rfl
            refine pure_ (i := 9) (N := some 75) (v := ?_) (a' := ?_) (Qbz 11 631) rfl rfl (by kernel_rfl) (fun _ _ _ h => h) (Or.inl ⟨by rfl, ?_⟩) ?_ ?_
            rotate_left
            ·intro w'
             go_simp
             with_reducible rfl
            rotate_left
            ·simp only [Act.put, Qp1, Qp2, Qp3, i64_w, i32_w]
             rfl
            refine take_ (i := 3) (N := some 69) (v := ?_) (a' := ?_) (Qbz 11 639) rfl rfl (by kernel_rfl) (fun _ _ _ h => h) (Or.inl ⟨by rfl, ?_⟩) hHeld ?_ ?_
            rotate_left
            ·rintro w' ⟨s0, s1⟩
             go_simp
             with_reducible rfl
            rotate_left
            ·simp only [Act.put, Qp1, Qp2, Qp3, i64_w, i32_w]
             rfl
            refine pure_ (i := 7) (N := some 73) (v := ?_) (a' := ?_) (Qbz 11 767) rfl rfl (by kernel_rfl) (fun _ _ _ h => h) (Or.inl ⟨by rfl, ?_⟩) ?_ ?_
            rotate_left
            ·intro w'
             go_simp
             with_reducible rfl
            rotate_left
            ·simp only [Act.put, Qp1, Qp2, Qp3, i64_w, i32_w]
             rfl
            refine one_ (i := 8) (N := some 74) (Qbz 11 1023) rfl rfl (by kernel_rfl) (by decide) (fun K hK => ?_)
            refine goes_ Tryd.func69 (by kernel_rfl) rfl #[.int .i64 (q : Int)] (by rfl) rfl rfl (by simp only [List.map_toArray, List.map_cons, List.map_nil]; rfl) ?_
            with_reducible refine (CND.out _ hHeld).mono ?_
            rintro e w12 ⟨A8, c8, rfl, hC8, g2, gB2⟩
            refine ⟨_, rfl, ?_⟩
            refine hK.out _ _ ⟨g2, gB2⟩ (fun hHeld => ?_)
            clear hK K
            refine norm_ (a' := ?_) ?_ ?_
            rotate_left
            ·show Act.put _ (some 74) _ = _
             simp only [Act.put, Qp1, Qp2, Qp3, i64_w, i32_w]
             rfl
            refine one_ (i := 10) (N := some 76) (Qbz 11 2047) rfl rfl (by kernel_rfl) (by decide) (fun K hK => ?_)
            refine goes_ Tryd.func68 (by kernel_rfl) rfl #[.slice A8 l.length c8, .func (.func 70) #[] #[.pointer (some ⟨mB, 0, none⟩), .pointer (some ⟨w2.heap.size, 0, none⟩), .pointer (some ⟨sB, 0, none⟩)]] (by rfl) rfl rfl (by simp only [List.map_toArray, List.map_cons, List.map_nil]; rfl) ?_
            with_reducible refine (CCF.out _ _ _ hHeld hC8).mono ?_
            rintro e w13 ⟨rfl, k2, kB2⟩
            refine ⟨_, rfl, ?_⟩
            refine hK.out _ _ ⟨k2, kB2⟩ (fun hHeld => ?_)
            clear hK K
            refine norm_ (a' := ?_) ?_ ?_
            rotate_left
            ·show Act.put _ (some 76) _ = _
             simp only [Act.put, Qp1, Qp2, Qp3, i64_w, i32_w]
             rfl
            refine done_ (by kernel_rfl) ?_
            go_wp2
            go_ret2
            exact ⟨rfl, below_step HBW11.out hHeld.2⟩
         ·have ht1 : ((((xn &&& used : Nat) : Int)) != 0) = true := by simp; omega
          have HNO : Aside0 (false = r1) := ⟨by
           have := HAH.out
           rw [decide_eq_false hna] at this
           simpa using this⟩
          have hr1 := HNO.out
          subst hr1
          clear hna
          go_wp2
          rw [← hw9]
          refine start_ (n := 20) (S := fun w' => w'.cell? ⟨sB, 0, none⟩ = some (.int .i64 (xn : Int)) ∧ w'.cell? ⟨w2.heap.size, 0, none⟩ = some (.slice A5 G.length c5) ∧ Below w9.heap.size w9 w') (ds := []) (Qbz 20 0) (by kernel_rfl) rfl rfl ⟨f0d, f1d, fBd⟩ (fun hHeld => ?_)
          refine take_ (i := 0) (N := some 43) (v := ?_) (a' := ?_) (Qbz 20 1) rfl rfl (by kernel_rfl) (fun _ _ _ h => h) (Or.inl ⟨by rfl, ?_⟩) hHeld ?_ ?_
          rotate_left
          ·rintro w' ⟨s0, s1, s2⟩
           go_simp
           with_reducible rfl
          rotate_left
          ·simp only [Act.put, Qp1, Qp2, Qp3, i64_w, i32_w]
           rfl
          refine pure_ (i := 1) (N := some 44) (v := ?_) (a' := ?_) (Qbz 20 3) rfl rfl (by kernel_rfl) (fun _ _ _ h => h) (Or.inl ⟨by rfl, ?_⟩) ?_ ?_
          rotate_left
          ·intro w'
           go_simp
           with_reducible rfl
          rotate_left
          ·simp only [Act.put, Qp1, Qp2, Qp3, i64_w, i32_w]
           rfl
          refine pure_ (i := 2) (N := some 45) (v := ?_) (a' := ?_) (Qbz 20 7) rfl rfl (by kernel_rfl) (fun _ _ _ h => h) (Or.inl ⟨by rfl, ?_⟩) ?_ ?_
          rotate_left
          ·intro w'
           go_simp
           with_reducible rfl
          rotate_left
          ·simp only [Act.put, Qp1, Qp2, Qp3, i64_w, i32_w]
           rfl
          refine take_ (i := 3) (N := some 46) (v := ?_) (a' := ?_) (Qbz 20 15) rfl rfl (by kernel_rfl) (fun _ _ _ h => h) (Or.inl ⟨by rfl, ?_⟩) hHeld ?_ ?_
          rotate_left
          ·rintro w' ⟨s0, s1, s2⟩
           go_simp
           with_reducible rfl
          rotate_left
          ·simp only [Act.put, Qp1, Qp2, Qp3, i64_w, i32_w]
           rfl
          refine take_ (i := 4) (N := some 47) (v := ?_) (a' := ?_) (Qbz 20 31) rfl rfl (by kernel_rfl) (fun _ _ _ h => h) (Or.inl ⟨by rfl, ?_⟩) hHeld ?_ ?_
          rotate_left
          ·rintro w' ⟨s0, s1, s2⟩
           go_simp
           with_reducible rfl
          rotate_left
          ·simp only [Act.put, Qp1, Qp2, Qp3, i64_w, i32_w]
           rfl
          refine one_ (i := 5) (N := some 48) (Qbz 20 63) rfl rfl (by kernel_rfl) (by decide) (fun K hK => ?_)
          refine goes_ Tryd.func66 (by kernel_rfl) rfl #[.slice A5 G.length c5] (by rfl) rfl rfl (by simp only [List.map_toArray, List.map_cons, List.map_nil]; rfl) ?_
          with_reducible refine (CALL.out _ hHeld).mono ?_
          rintro e w10 ⟨rfl, g0, g1, gB⟩
          refine ⟨_, rfl, ?_⟩
          refine hK.out _ _ ⟨g0, g1, gB⟩ (fun hHeld => ?_)
          clear hK K
          refine norm_ (a' := ?_) ?_ ?_
          rotate_left
          ·show Act.put _ (some 48) _ = _
           simp only [Act.put, Qp1, Qp2, Qp3, i64_w, i32_w]
           rfl
          refine pure_ (i := 6) (N := some 49) (v := ?_) (a' := ?_) (Qbz 20 127) rfl rfl (by kernel_rfl) (fun _ _ _ h => h) (Or.inl ⟨by rfl, ?_⟩) ?_ ?_
          rotate_left
          ·intro w'
           go_simp
           with_reducible rfl
          rotate_left
          ·simp only [Act.put, Qp1, Qp2, Qp3, i64_w, i32_w]
           rfl
          refine pure_ (i := 7) (N := some 50) (v := ?_) (a' := ?_) (Qbz 20 255) rfl rfl (by kernel_rfl) (fun _ _ _ h => h) (Or.inl ⟨by rfl, ?_⟩) ?_ ?_
          rotate_left
          ·intro w'
           go_simp
           with_reducible rfl
          rotate_left
          ·simp only [Act.put, Qp1, Qp2, Qp3, i64_w, i32_w]
           rfl
          refine pure_ (i := 8) (N := some 51) (v := ?_) (a' := ?_) (Qbz 20 511) rfl rfl (by kernel_rfl) (fun _ _ _ h => h) (Or.inl ⟨by rfl, ?_⟩) ?_ ?_
          rotate_left
          ·intro w'
           go_simp
           with_reducible rfl
          rotate_left
          ·simp only [Act.put, Qp1, Qp2, Qp3, i64_w, i32_w]
           rfl
          refine pure_ (i := 10) (N := some 53) (v := ?_) (a' := ?_) (Qbz 20 1535) rfl rfl (by kernel_rfl) (fun _ _ _ h => h) (Or.inl ⟨by rfl, ?_⟩) ?_ ?_
          rotate_left
          ·intro w'
           go_simp
           with_reducible rfl
          rotate_left
          ·simp only [Act.put, Qp1, Qp2, Qp3, i64_w, i32_w]
           rfl
          refine take_ (i := 9) (N := some 52) (v := ?_) (a' := ?_) (Qbz 20 2047) rfl rfl (by kernel_rfl) (fun _ _ _ h => h) (Or.inl ⟨by rfl, ?_⟩) hHeld ?_ ?_
          rotate_left
          ·rintro w' ⟨s0, s1, s2⟩
           go_simp
           with_reducible rfl
          rotate_left
          ·simp only [Act.put, Qp1, Qp2, Qp3, i64_w, i32_w]
           rfl
          refine pure_ (i := 11) (N := some 54) (v := ?_) (a' := ?_) (Qbz 20 4095) rfl rfl (by kernel_rfl) (fun _ _ _ h => h) (Or.inl ⟨by rfl, ?_⟩) ?_ ?_
          rotate_left
          ·intro w'
           go_simp
           with_reducible rfl
          rotate_left
          ·simp only [Act.put, Qp1, Qp2, Qp3, i64_w, i32_w]
           rfl
          refine pure_ (i := 12) (N := some 55) (v := ?_) (a' := ?_) (Qbz 20 8191) rfl rfl (by kernel_rfl) (fun _ _ _ h => h) (Or.inl ⟨by rfl, ?_⟩) ?_ ?_
          rotate_left
          ·intro w'
           go_simp
           with_reducible rfl
          rotate_left
          ·simp only [Act.put, Qp1, Qp2, Qp3, i64_w, i32_w]
           rfl
          refine pure_ (i := 13) (N := some 56) (v := ?_) (a' := ?_) (Qbz 20 16383) rfl rfl (by kernel_rfl) (fun _ _ _ h => h) (Or.inl ⟨by rfl, ?_⟩) ?_ ?_
          rotate_left
          ·intro w'
           go_simp
           with_reducible rfl
          rotate_left
          ·simp only [Act.put, Qp1, Qp2, Qp3, i64_w, i32_w]
           rfl
          refine pure_ (i := 14) (N := some 57) (v := ?_) (a' := ?_) (Qbz 20 32767) rfl rfl (by kernel_rfl) (fun _ _ _ h => h) (Or.inl ⟨by rfl, ?_⟩) ?_ ?_
          rotate_left
          ·intro w'
           go_simp
           with_reducible rfl
          rotate_left
          ·simp only [Act.put, Qp1, Qp2, Qp3, i64_w, i32_w]
           rfl
          refine pure_ (i := 15) (N := some 58) (v := undef) (a' := ?_) (Qbz 20 65535) rfl rfl (by kernel_rfl) (fun _ _ _ h => h) (Or.inr ⟨by rfl, rfl⟩) ?_ ?_
          rotate_left
          ·simp only [Act.put, Qp1, Qp2, Qp3, i64_w, i32_w]
           rfl
          refine pure_ (i := 16) (N := some 59) (v := undef) (a' := ?_) (Qbz 20 131071) rfl rfl (by kernel_rfl) (fun _ _ _ h => h) (Or.inr ⟨by rfl, rfl⟩) ?_ ?_
          rotate_left
          ·simp only [Act.put, Qp1, Qp2, Qp3, i64_w, i32_w]
           rfl
          refine pure_ (i := 17) (N := some 60) (v := undef) (a' := ?_) (Qbz 20 262143) rfl rfl (by kernel_rfl) (fun _ _ _ h => h) (Or.inr ⟨by rfl, rfl⟩) ?_ ?_
          rotate_left
          ·simp only [Act.put, Qp1, Qp2, Qp3, i64_w, i32_w]
           rfl
          refine pure_ (i := 18) (N := some 61) (v := undef) (a' := ?_) (Qbz 20 524287) rfl rfl (by kernel_rfl) (fun _ _ _ h => h) (Or.inr ⟨by rfl, rfl⟩) ?_ ?_
          rotate_left
          ·simp only [Act.put, Qp1, Qp2, Qp3, i64_w, i32_w]
           rfl
          refine pure_ (i := 19) (N := some 62) (v := ?_) (a' := ?_) (Qbz 20 1048575) rfl rfl (by kernel_rfl) (fun _ _ _ h => h) (Or.inl ⟨by rfl, ?_⟩) ?_ ?_
          rotate_left
          ·intro w'
           go_simp
           with_reducible rfl
          rotate_left
          ·simp only [Act.put, Qp1, Qp2, Qp3, i64_w, i32_w]
           rfl
          refine done_ (by kernel_rfl) ?_
          go_wp2
          go_ret2
          exact ⟨rfl, below_step HB4.out (below_step HBW.out (below_step HB9.out hHeld.2.2))⟩
      ·have hi1 : ((i : Int) < (l2.length : Int)) = False := eq_false (by omega)
       have hi2 : decide ((i : Int) < (l2.length : Int)) = false := decide_eq_false (by omega)
       have ha := HA.out
       rw [List.drop_eq_nil_of_le (by omega)] at ha
       have hr : r1 = true := ha.symm
       subst hr
       clear ha HA
       go_wp2
       go_ret2
       exact ⟨rfl, below_step HB4.out HBW.out⟩
    ·have hlp1 : ((l2.length : Int) != (P.length : Int)) = true := by simp; omega
     simp only [Bool.and_self, if_true, if_neg hLP] at h
     injection h with h1 h2
     subst h1 h2
     go_enter Tryd.func23, Tryd.ntmps23
     go_wp2_with (first
      | ((with_reducible refine gate_dst (N := 5) rfl ?_); refine box_event ?hg (N := 5) ?hd (cs := #[.slice A2 l2.length c2]) (t := 22) ?hr ?_; (case hd => rfl); (case hg => rfl); (case hr => first | (go_simp; done) | (go_simp; rfl)); intro mB hga w1 hbox hb1; have HB1 := Aside0.mk hb1; have HM1 := Aside0.mk hbox; clear hga hbox hb1)
      | (go_at_call 63; refine (HC2.out _ (below_alloc HB2.out _)).mono ?_; rintro e w4 ⟨v2, rfl, hv2, hb4⟩; obtain ⟨A6, c6, rfl, hc6, hC6⟩ := hv2 trivial; have HB4 := Aside0.mk (below_step (below_alloc HB2.out _) hb4); have hm2 : w2.heap[mB]? = some (.cells #[.slice A2 l2.length c2] 22 (0, 0)) := blk_below HM1.out HB12.out; have hm4 : w4.cell? ⟨mB, 0, none⟩ = some (.slice A2 l2.length c2) := (blk_cell (blk_below (blk_alloc hm2 _) hb4) 0).trans rfl; clear hb4 hv2 hC6 hm2)
      | (go_at_call 63; refine (HC1.out _ HB1.out).mono ?_; rintro e w2 ⟨v1, rfl, hv1, hb2⟩; obtain ⟨A5, c5, rfl, hc5, hC5⟩ := hv1 trivial; have HC5 := Aside0.mk hC5; clear hC5; have HB2 := Aside0.mk (below_step HB1.out hb2); have HB12 := Aside0.mk hb2; clear hb2 hv1))
     go_ret2
     exact ⟨rfl, HB4.out⟩
 ·rw [if_neg hlen] at h
  cases h
end Go.Proofs.YtjloppfdagfpmaaDoor.X
end
section
namespace Go.Proofs.YtjloppfdagfpmaaDoor.X
open Go.RowKit YtjloppfdagfpmaaDoorW.PrintWords YtjloppfdagfpmaaDoorW.PrintLast YtjloppfdagfpmaaDoorW.PrintMore
attribute [local go_sem] max2_int min2_int max_two min_two max_three min_three max_four min_four
/-! ### slices_Equal_int_int: function 27 -/
def slices_Equal_int_int.l0 : Nat → List Int → List Int → Int → Int → Option (Bool)
 | 0, _, _, _, _ => none
 | k + 1, x0, x1, x12, x13 => if x13 < x12 then (if 0 ≤ x13 then (if x13 < (x0.length : Int) then (if x13 < (x1.length : Int) then (if (rd x0 x13) = (rd x1 x13) then (slices_Equal_int_int.l0 k x0 x1 x12 (wrap64 (x13 + 1))) else (some false)) else (none)) else (none)) else (none)) else (some true)
def slices_Equal_int_int.f (k : Nat) (l0 : List Int) (l1 : List Int) : Option (Bool) := if (l0.length : Int) = (l1.length : Int) then (slices_Equal_int_int.l0 k l0 l1 (l0.length : Int) 0) else (some false)
theorem slices_Equal_int_int.mono_l : ∀ k, (∀ y0 y1 y2 y3, LeO (slices_Equal_int_int.l0 k y0 y1 y2 y3) (slices_Equal_int_int.l0 (k + 1) y0 y1 y2 y3))
 | 0 => fun _ _ _ _ r h => by simp [slices_Equal_int_int.l0] at h
 | k + 1 => by
  have ih0 := slices_Equal_int_int.mono_l k
  ·intro y0 y1 y2 y3
   unfold slices_Equal_int_int.l0
   repeat' first
   | (with_reducible exact ih0 _ _ _ _)
   | (with_reducible exact LeO.refl _)
   | (with_reducible exact LeO.none _)
   | (with_reducible refine LeO.ite ?_ ?_)
   | (with_reducible refine LeO.bind ?_ (fun _ => ?_))
   | exact ih0 _ _ _ _
   | exact LeO.none _
   | refine LeO.ite ?_ ?_
   | refine LeO.bind ?_ (fun _ => ?_)
theorem slices_Equal_int_int.mono : ∀ a0 a1 k, LeO (slices_Equal_int_int.f k a0 a1) (slices_Equal_int_int.f (k + 1) a0 a1) := by
 intro a0 a1 k
 have ih0 := slices_Equal_int_int.mono_l k
 unfold slices_Equal_int_int.f
 repeat' first
   | (with_reducible exact ih0 _ _ _ _)
   | (with_reducible exact LeO.refl _)
   | (with_reducible exact LeO.none _)
   | (with_reducible refine LeO.ite ?_ ?_)
   | (with_reducible refine LeO.bind ?_ (fun _ => ?_))
   | exact ih0 _ _ _ _
   | exact LeO.none _
   | refine LeO.ite ?_ ?_
   | refine LeO.bind ?_ (fun _ => ?_)
set_option maxHeartbeats 8000000 in
set_option maxRecDepth 100000 in
theorem slices_Equal_int_int.calls (k : Nat) (A0 : Option Addr) (c0 : Nat) (l0 : List Int) (A1 : Option Addr) (c1 : Nat) (l1 : List Int) (r : Bool) (w : World) (hr0 : Kd.C (Kd.int .i64) w A0 l0.length l0) (hc0 : l0.length ≤ c0) (hr1 : Kd.C (Kd.int .i64) w A1 l1.length l1) (hc1 : l1.length ≤ c1) (h : slices_Equal_int_int.f k l0 l1 = some r) :
  Calls Tryd.prog 27 #[.slice A0 l0.length c0, .slice A1 l1.length c1] w fun e w' => e = .returned (.bool r) ∧ Drawn0 w w' := by
 have HR0 := Aside0.mk hr0
 have HC0 := Aside0.mk hc0
 clear hr0 hc0
 have HR1 := Aside0.mk hr1
 have HC1 := Aside0.mk hc1
 clear hr1 hc1
 have H : (if (l0.length : Int) = (l1.length : Int) then (slices_Equal_int_int.l0 k l0 l1 (l0.length : Int) 0) else (some false)) = some r := h
 clear h
 by_cases c3 : (l0.length : Int) = (l1.length : Int)
 ·rw [if_pos c3] at H
  have c3b0 : ((l0.length : Int) == (l1.length : Int)) = true := beq_iff_eq.mpr c3
  have c3b1 : ((l0.length : Int) != (l1.length : Int)) = false := bne_eq_false_iff_eq.mpr c3
  have c3b2 : (l0.length == l1.length) = true := by first | simpa using c3 | (simp at c3 ⊢; omega)
  clear c3
  have H' := Aside0.mk H
  clear H
  go_enter Tryd.func27, Tryd.ntmps27
  go_wp2
  repeat (go_quiet (fail); try go_wp2)
  go_loopg [13] k (fun kq v13 w' => ∃ (x13_1 : Int), v13 = .int .i64 x13_1 ∧ Aside0 (slices_Equal_int_int.l0 kq l0 l1 (l0.length : Int) x13_1 = some r) ∧ Aside0 (kq ≤ k) ∧ Drawn0 w w')
  case atStart => exact ⟨(0), (by first | rfl | (simp; done) | (simp [*]; done)), H', ⟨Nat.le_refl _⟩, by repeat (first | exact Drawn0.refl _ | apply Drawn0.step)⟩
  case round =>
   clear H'
   try clear c1
   try clear c2
   try clear p2
   try clear c3
   try clear c3b0
   try clear c3b1
   try clear c3b2
   obtain ⟨x13_1, rfl, HA, HK1, ⟨m1, rfl⟩⟩ := hrel
   cases gk with
   | zero => exact absurd HA.out (by simp [slices_Equal_int_int.l0])
   | succ k1 =>
    have H := HA.out
    clear HA
    simp only [slices_Equal_int_int.l0] at H
    by_cases c4 : x13_1 < (l0.length : Int)
    ·rw [if_pos c4] at H
     have c4b0 : decide (x13_1 < (l0.length : Int)) = true := decide_eq_true c4
     clear c4
     by_cases c5 : 0 ≤ x13_1
     ·rw [if_pos c5] at H
      have c5b0 : decide (0 ≤ x13_1) = true := decide_eq_true c5
      clear c5
      by_cases c6 : x13_1 < (l0.length : Int)
      ·rw [if_pos c6] at H
       have c6b0 : decide (x13_1 < (l0.length : Int)) = true := decide_eq_true c6
       clear c6
       by_cases c7 : x13_1 < (l1.length : Int)
       ·rw [if_pos c7] at H
        have c7b0 : decide (x13_1 < (l1.length : Int)) = true := decide_eq_true c7
        clear c7
        by_cases c8 : (rd l0 x13_1) = (rd l1 x13_1)
        ·rw [if_pos c8] at H
         have c8b0 : ((rd l0 x13_1) == (rd l1 x13_1)) = true := beq_iff_eq.mpr c8
         have c8b1 : ((rd l0 x13_1) != (rd l1 x13_1)) = false := bne_eq_false_iff_eq.mpr c8
         clear c8
         have H' := Aside0.mk H
         clear H
         have p127 : 0 ≤ (x13_1 : Int) := of_decide_eq_true (by first | (with_reducible assumption) | assumption)
         have q127 : x13_1 < (l0.length : Int) := of_decide_eq_true (by first | (with_reducible assumption) | assumption)
         obtain ⟨ad127, e127, hx127_0⟩ := Kd.at_int HR0.out x13_1 p127 q127
         cases e127
         replace p127 := eq_true p127
         replace q127 := eq_true q127
         have p128 : 0 ≤ (x13_1 : Int) := of_decide_eq_true (by first | (with_reducible assumption) | assumption)
         have q128 : x13_1 < (l1.length : Int) := of_decide_eq_true (by first | (with_reducible assumption) | assumption)
         obtain ⟨ad128, e128, hx128_0⟩ := Kd.at_int HR1.out x13_1 p128 q128
         cases e128
         replace p128 := eq_true p128
         replace q128 := eq_true q128
         go_wp2
         repeat (go_quiet (fail); try go_wp2)
         go_roundg k1
         case measure => have := HK1.out; omega
         case rel => exact ⟨(wrap64 (x13_1 + 1)), (by first | rfl | (simp; done) | (simp [*]; done)), H', ⟨by have := HK1.out; omega⟩, by repeat (first | exact Drawn0.refl _ | apply Drawn0.step)⟩
        ·rw [if_neg c8] at H
         have c8b0 : ((rd l0 x13_1) == (rd l1 x13_1)) = false := beq_eq_false_iff_ne.mpr c8
         have c8b1 : ((rd l0 x13_1) != (rd l1 x13_1)) = true := bne_iff_ne.mpr c8
         obtain rfl := Option.some.inj H
         have p127 : 0 ≤ (x13_1 : Int) := of_decide_eq_true (by first | (with_reducible assumption) | assumption)
         have q127 : x13_1 < (l0.length : Int) := of_decide_eq_true (by first | (with_reducible assumption) | assumption)
         obtain ⟨ad127, e127, hx127_0⟩ := Kd.at_int HR0.out x13_1 p127 q127
         cases e127
         replace p127 := eq_true p127
         replace q127 := eq_true q127
         have p128 : 0 ≤ (x13_1 : Int) := of_decide_eq_true (by first | (with_reducible assumption) | assumption)
         have q128 : x13_1 < (l1.length : Int) := of_decide_eq_true (by first | (with_reducible assumption) | assumption)
         obtain ⟨ad128, e128, hx128_0⟩ := Kd.at_int HR1.out x13_1 p128 q128
         cases e128
         replace p128 := eq_true p128
         replace q128 := eq_true q128
         go_wp2
         repeat (go_quiet (fail); try go_wp2)
         go_ret
         exact ⟨by first | rfl | (simp; done) | (simp [*]; done), by repeat (first | exact Drawn0.refl _ | apply Drawn0.step)⟩
       ·rw [if_neg c7] at H
        exact absurd H (by simp)
      ·rw [if_neg c6] at H
       exact absurd H (by simp)
     ·rw [if_neg c5] at H
      exact absurd H (by simp)
    ·rw [if_neg c4] at H
     have c4b0 : decide (x13_1 < (l0.length : Int)) = false := decide_eq_false c4
     clear c4
     obtain rfl := Option.some.inj H
     go_wp2
     repeat (go_quiet (fail); try go_wp2)
     go_ret
     exact ⟨by first | rfl | (simp; done) | (simp [*]; done), by repeat (first | exact Drawn0.refl _ | apply Drawn0.step)⟩
 ·rw [if_neg c3] at H
  have c3b0 : ((l0.length : Int) == (l1.length : Int)) = false := beq_eq_false_iff_ne.mpr c3
  have c3b1 : ((l0.length : Int) != (l1.length : Int)) = true := bne_iff_ne.mpr c3
  have c3b2 : (l0.length == l1.length) = false := by first | simpa using c3 | (simp at c3 ⊢; omega)
  obtain rfl := Option.some.inj H
  go_enter Tryd.func27, Tryd.ntmps27
  go_wp2
  repeat (go_quiet (fail); try go_wp2)
  go_ret
  exact ⟨by first | rfl | (simp; done) | (simp [*]; done), by repeat (first | exact Drawn0.refl _ | apply Drawn0.step)⟩
end Go.Proofs.YtjloppfdagfpmaaDoor.X
end
section
namespace Go.Proofs.YtjloppfdagfpmaaDoor.X
open Go.RowKit YtjloppfdagfpmaaDoorW.PrintWords YtjloppfdagfpmaaDoorW.PrintLast YtjloppfdagfpmaaDoorW.PrintMore
attribute [local go_sem] max2_int min2_int max_two min_two max_three min_three max_four min_four
/-! ### lampblacklaw07_awake: function 17 -/
def lampblacklaw07_awake.f (k : Nat)  : Option (Bool) := (minor_Model.f (([2, 1] : List Int)) (([2, 1] : List Int))).bind fun bt135 => (if bt135.2 = 0 then ((slices_Equal_int_int.f k bt135.1 (([1, 2] : List Int))).bind fun t142 => (some t142)) else (some false))
theorem lampblacklaw07_awake.mono : ∀ k, LeO (lampblacklaw07_awake.f k ) (lampblacklaw07_awake.f (k + 1) ) := by
 intro  k
 unfold lampblacklaw07_awake.f
 repeat' first
   | (with_reducible exact slices_Equal_int_int.mono _ _ _)
   | (with_reducible exact LeO.refl _)
   | (with_reducible exact LeO.none _)
   | (with_reducible refine LeO.ite ?_ ?_)
   | (with_reducible refine LeO.bind ?_ (fun _ => ?_))
   | exact slices_Equal_int_int.mono _ _ _
   | exact LeO.none _
   | refine LeO.ite ?_ ?_
   | refine LeO.bind ?_ (fun _ => ?_)
set_option maxHeartbeats 8000000 in
set_option maxRecDepth 100000 in
theorem lampblacklaw07_awake.calls (k : Nat)  (r : Bool) (w : World) (hGL : GL w) (h : lampblacklaw07_awake.f k  = some r) :
  Calls Tryd.prog 17 #[] w fun e w' => e = .returned (.bool r) ∧ Below w.heap.size w w' := by
 have HGL := Aside0.mk hGL
 clear hGL
 have HB := Aside0.mk (Below.refl w.heap.size w)
 have H : ((minor_Model.f (([2, 1] : List Int)) (([2, 1] : List Int))).bind fun bt135 => (if bt135.2 = 0 then ((slices_Equal_int_int.f k bt135.1 (([1, 2] : List Int))).bind fun t142 => (some t142)) else (some false))) = some r := h
 clear h
 obtain ⟨y129, hy129⟩ : ∃ y_ : List Int, y_ = (([2, 1] : List Int)) := ⟨_, rfl⟩
 replace H : ((minor_Model.f y129 (([2, 1] : List Int))).bind fun bt135 => (if bt135.2 = 0 then ((slices_Equal_int_int.f k bt135.1 (([1, 2] : List Int))).bind fun t142 => (some t142)) else (some false))) = some r := by first | (rw [hy129]; with_reducible exact H) | (have H2_ := (Option.bind_some _ _).symm.trans H; rw [hy129]; with_reducible exact H2_) | (have H2_ := (Option.bind_some _ _).symm.trans H; with_reducible exact H2_) | with_reducible exact H | (rw [hy129]; exact H) | exact H
 have Ny129 := Aside0.mk hy129
 clear hy129
 obtain ⟨y132, hy132⟩ : ∃ y_ : List Int, y_ = (([2, 1] : List Int)) := ⟨_, rfl⟩
 replace H : ((minor_Model.f y129 y132).bind fun bt135 => (if bt135.2 = 0 then ((slices_Equal_int_int.f k bt135.1 (([1, 2] : List Int))).bind fun t142 => (some t142)) else (some false))) = some r := by first | (rw [hy132]; with_reducible exact H) | (have H2_ := (Option.bind_some _ _).symm.trans H; rw [hy132]; with_reducible exact H2_) | (have H2_ := (Option.bind_some _ _).symm.trans H; with_reducible exact H2_) | with_reducible exact H | (rw [hy132]; exact H) | exact H
 have Ny132 := Aside0.mk hy132
 clear hy132
 replace H := Option.bind_eq_some_iff.mp H
 obtain ⟨⟨t135, t136⟩, A10, H⟩ := H
 replace H : (if t136 = 0 then ((slices_Equal_int_int.f k t135 (([1, 2] : List Int))).bind fun t142 => (some t142)) else (some false)) = some r := H
 have A1 := Aside0.mk A10
 clear A10
 by_cases c2 : t136 = 0
 ·rw [if_pos c2] at H
  have c2b0 : (t136 == 0) = true := beq_iff_eq.mpr c2
  have c2b1 : (t136 != 0) = false := bne_eq_false_iff_eq.mpr c2
  clear c2
  obtain ⟨y139, hy139⟩ : ∃ y_ : List Int, y_ = (([1, 2] : List Int)) := ⟨_, rfl⟩
  replace H : ((slices_Equal_int_int.f k t135 y139).bind fun t142 => (some t142)) = some r := by first | (rw [hy139]; with_reducible exact H) | (have H2_ := (Option.bind_some _ _).symm.trans H; rw [hy139]; with_reducible exact H2_) | (have H2_ := (Option.bind_some _ _).symm.trans H; with_reducible exact H2_) | with_reducible exact H | (rw [hy139]; exact H) | exact H
  have Ny139 := Aside0.mk hy139
  clear hy139
  replace H := Option.bind_eq_some_iff.mp H
  obtain ⟨t142, A30, H⟩ := H
  replace H : (some t142) = some r := H
  have A3 := Aside0.mk A30
  clear A30
  obtain rfl := Option.some.inj H
  go_enter Tryd.func17, Tryd.ntmps17
  go_wp2_with (first | ((with_reducible refine gate_dst (N := 4) rfl ?_); (try (refine gate_guard (by rfl) ?_; dsimp only)); refine Kd.R_lit (Kd.int .i64) _ 3 ?hg (N := 4) ?hd (xs := ([2, 1] : List Int)) (inner := [.int .i64 2, .int .i64 1]) (ok := fun _ => True) (okp := fun _ => True) ?hr ?hp (fun _ hk => hk) trivial (Below.refl _ _) (Nat.le_refl _) (by simp) ?_; (case hd => rfl); (case hg => rfl); (case hr => first | (go_simp; done) | (go_simp; rfl)); (case hp => exact (Reps.one (show Kd.M (Kd.int .i64) _ _ _ 2 [.int .i64 2] from rfl) (Reps.one (show Kd.M (Kd.int .i64) _ _ _ 1 [.int .i64 1] from rfl) (Reps.none _ _)))); intro v130 w4 ho5 hb hg_ hnew_; clear hg_ hnew_; (first | rw [← Ny129.out] at ho5 | (simp only [Int.reduceToNat] at ho5; rw [← Ny129.out] at ho5)); have n0_ := Aside0.mk (Kd.R_lower ho5 (below_size (Qaw))); have n1_ := Aside0.mk (below_step (Qaw) hb); clear HB; have HO131 := n0_; have HB := n1_; clear n0_ n1_; clear hb ho5) | ((with_reducible refine gate_dst (N := 5) rfl ?_); (try (refine gate_guard (by rfl) ?_; dsimp only)); refine Kd.R_lit (Kd.int .i64) _ 3 ?hg (N := 5) ?hd (xs := ([2, 1] : List Int)) (inner := [.int .i64 2, .int .i64 1]) (ok := fun _ => True) (okp := fun _ => True) ?hr ?hp (fun _ hk => hk) trivial (Below.refl _ _) (Nat.le_refl _) (by simp) ?_; (case hd => rfl); (case hg => rfl); (case hr => first | (go_simp; done) | (go_simp; rfl)); (case hp => exact (Reps.one (show Kd.M (Kd.int .i64) _ _ _ 2 [.int .i64 2] from rfl) (Reps.one (show Kd.M (Kd.int .i64) _ _ _ 1 [.int .i64 1] from rfl) (Reps.none _ _)))); intro v133 w6 ho7 hb hg_ hnew_; clear hg_ hnew_; (first | rw [← Ny132.out] at ho7 | (simp only [Int.reduceToNat] at ho7; rw [← Ny132.out] at ho7)); have n0_ := Aside0.mk (Kd.R_elder' (Qro HO131.out) (Kd.R_base ho7) hb); have n1_ := Aside0.mk (Kd.R_lower (Kd.R_new' ho7 (Kd.R_lt (Qro HO131.out))) (below_size (Qaw))); have n2_ := Aside0.mk (below_step (Qaw) hb); clear HO131; clear HB; have HO131 := n0_; have HO134 := n1_; have HB := n2_; clear n0_ n1_ n2_; clear hb ho7; obtain ⟨Ao8, co8, eo8⟩ := Kd.R_slice HO131.out; subst eo8; obtain ⟨Ao9, co9, eo9⟩ := Kd.R_slice HO134.out; subst eo9) | ((with_reducible refine gate_callee (f := 21) rfl ?_); refine goesL_ (some 6) rfl rfl Tryd.func21 (by kernel_rfl) rfl #[.slice Ao8 y129.length co8, .slice Ao9 y132.length co9] rfl (Qls) ?_; (with_reducible refine (minor_Model.calls (hGL := (Qlg)) _ _ y129 _ _ y132 t135 t136 _ ?side1 ?side2 ?side3 ?side4 A1.out).mono ?_); (case side1 => exact Qsc (Kd.R_reads' HO131.out).2.2); (case side2 => exact (Kd.R_reads' HO131.out).2.1); (case side3 => exact Qsc (Kd.R_reads' HO134.out).2.2); (case side4 => exact (Kd.R_reads' HO134.out).2.1); rintro e w10 ⟨v137, rfl, ho0, hb⟩; refine ⟨_, rfl, ?_⟩; have n0_ := Aside0.mk (Kd.R_elder' (Qro HO131.out) (Kd.R_base ho0) hb); have n1_ := Aside0.mk (Kd.R_elder' (Qro HO134.out) (Kd.R_base ho0) hb); have n2_ := Aside0.mk (Kd.R_lower (Kd.R_new' (Kd.R_new' ho0 (Kd.R_lt (Qro HO131.out))) (Kd.R_lt (Qro HO134.out))) (below_size (Qaw))); have n3_ := Aside0.mk (below_step (Qaw) hb); clear HO131; clear HO134; clear HB; have HO131 := n0_; have HO134 := n1_; have HO138 := n2_; have HB := n3_; clear n0_ n1_ n2_ n3_; (try clear hb); (try clear hb2); (try clear hk); (try clear hi); (try clear ho0)) | ((with_reducible refine gate_dst (N := 13) rfl ?_); (try (refine gate_guard (by rfl) ?_; dsimp only)); refine Kd.R_lit (Kd.int .i64) _ 3 ?hg (N := 13) ?hd (xs := ([1, 2] : List Int)) (inner := [.int .i64 1, .int .i64 2]) (ok := fun _ => True) (okp := fun _ => True) ?hr ?hp (fun _ hk => hk) trivial (Below.refl _ _) (Nat.le_refl _) (by simp) ?_; (case hd => rfl); (case hg => rfl); (case hr => first | (go_simp; done) | (go_simp; rfl)); (case hp => exact (Reps.one (show Kd.M (Kd.int .i64) _ _ _ 1 [.int .i64 1] from rfl) (Reps.one (show Kd.M (Kd.int .i64) _ _ _ 2 [.int .i64 2] from rfl) (Reps.none _ _)))); intro v140 w11 ho12 hb hg_ hnew_; clear hg_ hnew_; (first | rw [← Ny139.out] at ho12 | (simp only [Int.reduceToNat] at ho12; rw [← Ny139.out] at ho12)); have n0_ := Aside0.mk (Kd.R_elder' (Qro HO131.out) (Kd.R_base ho12) hb); have n1_ := Aside0.mk (Kd.R_elder' (Qro HO134.out) (Kd.R_base ho12) hb); have n2_ := Aside0.mk (Kd.R_elder' (Qro HO138.out) (Kd.R_base ho12) hb); have n3_ := Aside0.mk (Kd.R_lower (Kd.R_new' (Kd.R_new' (Kd.R_new' ho12 (Kd.R_lt (Qro HO131.out))) (Kd.R_lt (Qro HO134.out))) (Kd.R_lt (Qro HO138.out))) (below_size (Qaw))); have n4_ := Aside0.mk (below_step (Qaw) hb); clear HO131; clear HO134; clear HO138; clear HB; have HO131 := n0_; have HO134 := n1_; have HO138 := n2_; have HO141 := n3_; have HB := n4_; clear n0_ n1_ n2_ n3_ n4_; clear hb ho12; obtain ⟨Ao13, co13, eo13⟩ := Kd.R_slice HO138.out; subst eo13; obtain ⟨Ao14, co14, eo14⟩ := Kd.R_slice HO141.out; subst eo14) | (go_at_call 27; (with_reducible refine (slices_Equal_int_int.calls k _ _ t135 _ _ y139 t142 _ ?side1 ?side2 ?side3 ?side4 A3.out).mono ?_); (case side1 => exact Qsc (Kd.R_reads' HO138.out).2.2); (case side2 => exact (Kd.R_reads' HO138.out).2.1); (case side3 => exact Qsc (Kd.R_reads' HO141.out).2.2); (case side4 => exact (Kd.R_reads' HO141.out).2.1); rintro e w' ⟨rfl, ⟨nd, rfl⟩⟩))
  go_ret
  exact ⟨by first | rfl | (simp [errW_none, errW_some] <;> rfl) | (simp [*, errW_none, errW_some] <;> rfl), by repeat (first | (with_reducible first | exact HB.out | apply below_alloc | apply pw_below_drewN | apply below_drew1) | exact HB.out)⟩
 ·rw [if_neg c2] at H
  have c2b0 : (t136 == 0) = false := beq_eq_false_iff_ne.mpr c2
  have c2b1 : (t136 != 0) = true := bne_iff_ne.mpr c2
  obtain rfl := Option.some.inj H
  go_enter Tryd.func17, Tryd.ntmps17
  go_wp2_with (first | ((with_reducible refine gate_dst (N := 4) rfl ?_); (try (refine gate_guard (by rfl) ?_; dsimp only)); refine Kd.R_lit (Kd.int .i64) _ 3 ?hg (N := 4) ?hd (xs := ([2, 1] : List Int)) (inner := [.int .i64 2, .int .i64 1]) (ok := fun _ => True) (okp := fun _ => True) ?hr ?hp (fun _ hk => hk) trivial (Below.refl _ _) (Nat.le_refl _) (by simp) ?_; (case hd => rfl); (case hg => rfl); (case hr => first | (go_simp; done) | (go_simp; rfl)); (case hp => exact (Reps.one (show Kd.M (Kd.int .i64) _ _ _ 2 [.int .i64 2] from rfl) (Reps.one (show Kd.M (Kd.int .i64) _ _ _ 1 [.int .i64 1] from rfl) (Reps.none _ _)))); intro v130 w15 ho16 hb hg_ hnew_; clear hg_ hnew_; (first | rw [← Ny129.out] at ho16 | (simp only [Int.reduceToNat] at ho16; rw [← Ny129.out] at ho16)); have n0_ := Aside0.mk (Kd.R_lower ho16 (below_size (Qaw))); have n1_ := Aside0.mk (below_step (Qaw) hb); clear HB; have HO131 := n0_; have HB := n1_; clear n0_ n1_; clear hb ho16) | ((with_reducible refine gate_dst (N := 5) rfl ?_); (try (refine gate_guard (by rfl) ?_; dsimp only)); refine Kd.R_lit (Kd.int .i64) _ 3 ?hg (N := 5) ?hd (xs := ([2, 1] : List Int)) (inner := [.int .i64 2, .int .i64 1]) (ok := fun _ => True) (okp := fun _ => True) ?hr ?hp (fun _ hk => hk) trivial (Below.refl _ _) (Nat.le_refl _) (by simp) ?_; (case hd => rfl); (case hg => rfl); (case hr => first | (go_simp; done) | (go_simp; rfl)); (case hp => exact (Reps.one (show Kd.M (Kd.int .i64) _ _ _ 2 [.int .i64 2] from rfl) (Reps.one (show Kd.M (Kd.int .i64) _ _ _ 1 [.int .i64 1] from rfl) (Reps.none _ _)))); intro v133 w17 ho18 hb hg_ hnew_; clear hg_ hnew_; (first | rw [← Ny132.out] at ho18 | (simp only [Int.reduceToNat] at ho18; rw [← Ny132.out] at ho18)); have n0_ := Aside0.mk (Kd.R_elder' (Qro HO131.out) (Kd.R_base ho18) hb); have n1_ := Aside0.mk (Kd.R_lower (Kd.R_new' ho18 (Kd.R_lt (Qro HO131.out))) (below_size (Qaw))); have n2_ := Aside0.mk (below_step (Qaw) hb); clear HO131; clear HB; have HO131 := n0_; have HO134 := n1_; have HB := n2_; clear n0_ n1_ n2_; clear hb ho18; obtain ⟨Ao19, co19, eo19⟩ := Kd.R_slice HO131.out; subst eo19; obtain ⟨Ao20, co20, eo20⟩ := Kd.R_slice HO134.out; subst eo20) | ((with_reducible refine gate_callee (f := 21) rfl ?_); refine goesL_ (some 6) rfl rfl Tryd.func21 (by kernel_rfl) rfl #[.slice Ao19 y129.length co19, .slice Ao20 y132.length co20] rfl (Qls) ?_; (with_reducible refine (minor_Model.calls (hGL := (Qlg)) _ _ y129 _ _ y132 t135 t136 _ ?side1 ?side2 ?side3 ?side4 A1.out).mono ?_); (case side1 => exact Qsc (Kd.R_reads' HO131.out).2.2); (case side2 => exact (Kd.R_reads' HO131.out).2.1); (case side3 => exact Qsc (Kd.R_reads' HO134.out).2.2); (case side4 => exact (Kd.R_reads' HO134.out).2.1); rintro e w21 ⟨v137, rfl, ho0, hb⟩; refine ⟨_, rfl, ?_⟩; have n0_ := Aside0.mk (Kd.R_elder' (Qro HO131.out) (Kd.R_base ho0) hb); have n1_ := Aside0.mk (Kd.R_elder' (Qro HO134.out) (Kd.R_base ho0) hb); have n2_ := Aside0.mk (Kd.R_lower (Kd.R_new' (Kd.R_new' ho0 (Kd.R_lt (Qro HO131.out))) (Kd.R_lt (Qro HO134.out))) (below_size (Qaw))); have n3_ := Aside0.mk (below_step (Qaw) hb); clear HO131; clear HO134; clear HB; have HO131 := n0_; have HO134 := n1_; have HO138 := n2_; have HB := n3_; clear n0_ n1_ n2_ n3_; (try clear hb); (try clear hb2); (try clear hk); (try clear hi); (try clear ho0)))
  go_ret
  exact ⟨by first | rfl | (simp [errW_none, errW_some] <;> rfl) | (simp [*, errW_none, errW_some] <;> rfl), by repeat (first | (with_reducible first | exact HB.out | apply below_alloc | apply pw_below_drewN | apply below_drew1) | exact HB.out)⟩
end Go.Proofs.YtjloppfdagfpmaaDoor.X
end
section
namespace Go.Proofs.YtjloppfdagfpmaaDoor.X
open Go.RowKit YtjloppfdagfpmaaDoorW.PrintWords YtjloppfdagfpmaaDoorW.PrintLast YtjloppfdagfpmaaDoorW.PrintMore
attribute [local go_sem] max2_int min2_int max_two min_two max_three min_three max_four min_four
/-! ### slices_Clone_Graph: function 65 -/
def slices_Clone_Graph.f (l0 : List Int) : Option (List Int) := (some (([] : List Int) : List Int)).bind fun y154 => (if y154.length + l0.length < 17592186044416 then (some (y154 ++ l0)) else (none))
set_option maxHeartbeats 8000000 in
set_option maxRecDepth 100000 in
theorem slices_Clone_Graph.calls_some (a0 : Addr) (c0 : Nat) (l0 : List Int) (r : List Int) (w : World) (hr0 : Kd.C (Kd.int .i64) w (some a0) l0.length l0) (hc0 : l0.length ≤ c0) (h : slices_Clone_Graph.f l0 = some r) :
  Calls Tryd.prog 65 #[.slice (some a0) l0.length c0] w fun e w' => ∃ v0_ : Value, e = .returned (v0_) ∧ Kd.R (Kd.int .i64) 3 w' w.heap.size (fun _ => True) v0_ r ∧ Below w.heap.size w w' := by
 have HR0 := Aside0.mk hr0
 have HC0 := Aside0.mk hc0
 clear hr0 hc0
 have HB := Aside0.mk (Below.refl w.heap.size w)
 have H : ((some (([] : List Int) : List Int)).bind fun y154 => (if y154.length + l0.length < 17592186044416 then (some (y154 ++ l0)) else (none))) = some r := h
 clear h
 obtain ⟨y154, hy154⟩ : ∃ y_ : List Int, y_ = (([] : List Int)) := ⟨_, rfl⟩
 replace H : (if y154.length + l0.length < 17592186044416 then (some (y154 ++ l0)) else (none)) = some r := by first | (rw [hy154]; with_reducible exact H) | (have H2_ := (Option.bind_some _ _).symm.trans H; rw [hy154]; with_reducible exact H2_) | (have H2_ := (Option.bind_some _ _).symm.trans H; with_reducible exact H2_) | with_reducible exact H | (rw [hy154]; exact H) | exact H
 have Ny154 := Aside0.mk hy154
 clear hy154
 by_cases c2 : y154.length + l0.length < 17592186044416
 ·rw [if_pos c2] at H
  have LMc2 := Aside0.mk c2
  clear c2
  obtain ⟨y157, hy157⟩ : ∃ y_ : List Int, y_ = (y154 ++ l0) := ⟨_, rfl⟩
  replace H : (some y157) = some r := by first | (rw [hy157]; with_reducible exact H) | (have H2_ := (Option.bind_some _ _).symm.trans H; rw [hy157]; with_reducible exact H2_) | (have H2_ := (Option.bind_some _ _).symm.trans H; with_reducible exact H2_) | with_reducible exact H | (rw [hy157]; exact H) | exact H
  have Ny157 := Aside0.mk hy157
  clear hy157
  obtain rfl := Option.some.inj H
  have heq_ := fun (w : World) => Lib.run_eql_slice_nil (P := Tryd.prog) w 23 3 (some a0) l0.length c0 0 0 Tryd.underlying23
  go_enter Tryd.func65, Tryd.ntmps65
  go_wp2_with (first | ((with_reducible refine gate_dst (N := 5) rfl ?_); refine Kd.R_lit (Kd.int .i64) _ 3 ?hg (N := 5) ?hd (xs := ([] : List Int)) (inner := []) (ok := fun _ => True) (okp := fun _ => True) ?hr ?hp (fun _ hk => hk) trivial (Below.refl _ _) (Nat.le_refl _) (by simp) ?_; (case hd => rfl); (case hg => rfl); (case hr => first | (go_simp; done) | (go_simp; rfl)); (case hp => exact (Reps.none _ _)); intro v155 w3 ho4 hb hg_ hnew_; clear hg_ hnew_; (first | rw [← Ny154.out] at ho4 | (simp only [Int.reduceToNat] at ho4; rw [← Ny154.out] at ho4)); have n0_ := Aside0.mk (Kd.R_lower ho4 (below_size (Qaw))); have n1_ := Aside0.mk (below_step (Qaw) hb); clear HB; have HO156 := n0_; have HB := n1_; clear n0_ n1_; clear hb ho4) | ((with_reducible refine gate_builtin (b := .append) (xs := #[.tmp 5, .tmp 6]) rfl ?_); at_builtin; refine Kd.R_append_rows (Kd.int .i64) (w0 := w) w.heap.size rfl (.tmp 5) (.tmp 6) 23 3 (.int .i64 0) 8 rfl Tryd.underlying23 info3 rfl (by decide) (by omega) v155 y154 l0 _ _ _ (fun _ => True) (fun _ => False) rfl rfl ?aO ?aR (fun _ _ h => h) (fun _ h => h.elim) ?aF ?aB ?aS ?aL ?_; (case aR => exact Qsc (Kd.C_below HR0.out HB.out)); (case aB => exact (Qaw)); (case aF => exact (fun _ _ => trivial)); (case aO => exact (Qro HO156.out)); (case aS => exact (below_size (Qaw))); (case aL => have := LMc2.out; omega); intro v158 w5 ho hb hg hat; rw [← Ny157.out] at ho; have n0_ := Aside0.mk (hb); have n1_ := Aside0.mk (ho); clear HB; clear HO156; have HB := n0_; have HO159 := n1_; clear n0_ n1_; clear ho hb hg hat))
  go_ret
  exact ⟨_, by first | rfl | (simp [errW_none, errW_some] <;> rfl) | (simp [*, errW_none, errW_some] <;> rfl), by (with_reducible repeat (first | apply Kd.R_alloc | apply Kd.R_drewN | apply Kd.R_drew)); exact HO159.out, by repeat (first | (with_reducible first | exact HB.out | apply below_alloc | apply pw_below_drewN | apply below_drew1) | exact HB.out)⟩
 ·rw [if_neg c2] at H
  exact absurd H (by simp)
theorem slices_Clone_Graph.calls (A0 : Option Addr) (c0 : Nat) (l0 : List Int) (r : List Int) (w : World) (hr0 : Kd.C (Kd.int .i64) w A0 l0.length l0) (hc0 : l0.length ≤ c0) (h : slices_Clone_Graph.f l0 = some r) :
  Calls Tryd.prog 65 #[.slice A0 l0.length c0] w fun e w' => ∃ v0_ : Value, e = .returned (v0_) ∧ Kd.R (Kd.int .i64) 3 w' w.heap.size (fun _ => True) v0_ r ∧ Below w.heap.size w w' := by
 cases A0 with
 | some a0 => exact slices_Clone_Graph.calls_some a0 c0 l0 r w hr0 hc0 h
 | none =>
  have hl : l0 = [] := by
   rcases Nat.eq_zero_or_pos l0.length with h0 | h0
   ·exact List.length_eq_zero_iff.mp h0
   ·obtain ⟨ad, he, _⟩ := hr0.2.2 h0
    cases he
  subst hl
  obtain rfl : [] = r := by simpa [slices_Clone_Graph.f] using h
  clear h hr0 hc0
  have heq_ := fun (w : World) => Lib.run_eql_slice_nil (P := Tryd.prog) w 23 3 none 0 c0 0 0 Tryd.underlying23
  go_enter Tryd.func65, Tryd.ntmps65
  go_wp2
  go_ret
  exact ⟨_, rfl, Kd.R_nil _ _ _ _ _, Below.refl _ _⟩
end Go.Proofs.YtjloppfdagfpmaaDoor.X
end
section
namespace Go.Proofs.YtjloppfdagfpmaaDoor.X
open Go.RowKit YtjloppfdagfpmaaDoorW.PrintWords YtjloppfdagfpmaaDoorW.PrintLast YtjloppfdagfpmaaDoorW.PrintMore
attribute [local go_sem] max2_int min2_int max_two min_two max_three min_three max_four min_four
/-! ### lampblacklaw07_Few: function 22 -/
def lampblacklaw07_Few.f (l0 : List Int) : Option (List Int) := if 0 ≤ (mn (l0.length : Int) 12) then (if (mn (l0.length : Int) 12) ≤ (l0.length : Int) then ((slices_Clone_Graph.f (l0.take ((mn (l0.length : Int) 12) : Int).toNat)).bind fun t161 => (some t161)) else (none)) else (none)
set_option maxHeartbeats 8000000 in
set_option maxRecDepth 100000 in
theorem lampblacklaw07_Few.calls (A0 : Option Addr) (c0 : Nat) (l0 : List Int) (r : List Int) (w : World) (hr0 : Kd.C (Kd.int .i64) w A0 l0.length l0) (hc0 : l0.length ≤ c0) (h : lampblacklaw07_Few.f l0 = some r) :
  Calls Tryd.prog 22 #[.slice A0 l0.length c0] w fun e w' => ∃ v0_ : Value, e = .returned (v0_) ∧ Kd.R (Kd.int .i64) 3 w' w.heap.size (fun _ => True) v0_ r ∧ Below w.heap.size w w' := by
 have HR0 := Aside0.mk hr0
 have HC0 := Aside0.mk hc0
 clear hr0 hc0
 have HB := Aside0.mk (Below.refl w.heap.size w)
 have H : (if 0 ≤ (mn (l0.length : Int) 12) then (if (mn (l0.length : Int) 12) ≤ (l0.length : Int) then ((slices_Clone_Graph.f (l0.take ((mn (l0.length : Int) 12) : Int).toNat)).bind fun t161 => (some t161)) else (none)) else (none)) = some r := h
 clear h
 obtain ⟨ji2, hji2⟩ : ∃ j_ : Int, (mn (l0.length : Int) 12) = j_ := ⟨_, rfl⟩
 replace H : (if 0 ≤ (ji2) then (if (ji2) ≤ (l0.length : Int) then ((slices_Clone_Graph.f (l0.take ((ji2) : Int).toNat)).bind fun t161 => (some t161)) else (none)) else (none)) = some r := by first | (rw [hji2] at H; exact H) | (simp only [hji2] at H ⊢; exact H)
 (try (have hji2h : ji2 ≤ 12 := by (rw [← hji2]; unfold mn; (repeat' split) <;> omega)))
 (try (have hji2g : ji2 ≤ 64 := by omega))
 (try (have hji2l : 0 ≤ ji2 := by (rw [← hji2]; unfold mn; (repeat' split) <;> omega)))
 (try (have hji2m : 0 ≤ ji2 := by omega))
 have hji2_ : (if 12 < (l0.length : Int) then 12 else (l0.length : Int)) = ji2 := hji2
 by_cases c3 : 0 ≤ (ji2)
 ·rw [if_pos c3] at H
  have c3b0 := eq_true c3
  have c3b1 : decide (0 ≤ (ji2)) = true := decide_eq_true c3
  clear c3
  by_cases c4 : (ji2) ≤ (l0.length : Int)
  ·rw [if_pos c4] at H
   have c4b0 := eq_true c4
   have c4b1 : decide ((ji2) ≤ (l0.length : Int)) = true := decide_eq_true c4
   clear c4
   replace H := Option.bind_eq_some_iff.mp H
   obtain ⟨t161, A50, H⟩ := H
   replace H : (some t161) = some r := H
   have A5 := Aside0.mk A50
   clear A50
   obtain rfl := Option.some.inj H
   obtain ⟨i06, hi06, _, hsz6, _⟩ := info_parts info3
   obtain ⟨hcut6, hA6, hC6⟩ := print_take_of (P := Tryd.prog) (Value.int .i64) 0 23 3 .i64 Tryd.underlying23 hi06 hsz6 A0 c0 l0 (ji2) (of_decide_eq_true (by first | (with_reducible assumption) | assumption)) (of_decide_eq_true (by first | (with_reducible assumption) | assumption)) HC0.out
   have HR160 := Aside0.mk (Kd.C_of_reads (h1 := fun _ => rfl) (hA6 _ (Kd.reads_of_C HR0.out)))
   have HC160 := Aside0.mk hC6
   clear hA6 hC6 hi06 hsz6
   go_enter Tryd.func22, Tryd.ntmps22
   go_wp2_with (first | ((with_reducible refine gate_callee (f := 65) rfl ?_); refine goesL_ (some 8) rfl rfl Tryd.func65 (by kernel_rfl) rfl #[.slice A0 (l0.take ((ji2) : Int).toNat).length c0] rfl (by (try simp only [List.map_toArray, List.map_cons, List.map_nil]); first | done | (rw [show (l0.take ((ji2) : Int).toNat).length = (ji2).toNat from (by rw [List.length_take]; have h_ : ((ji2) : Int) ≤ (l0.length : Int) := of_decide_eq_true (by first | (with_reducible assumption) | assumption); omega)] <;> rfl) | (simp only [hji2]; rfl) | rfl | (simp only [List.length_drop, List.length_take]; rfl)) ?_; (with_reducible refine (slices_Clone_Graph.calls _ _ (l0.take ((ji2) : Int).toNat) t161 _ ?side1 ?side2 A5.out).mono ?_); (case side1 => exact Qsc HR160.out); (case side2 => exact HC160.out); rintro e w7 ⟨v162, rfl, ho0, hb⟩; refine ⟨_, rfl, ?_⟩; have n0_ := Aside0.mk (Kd.R_lower ho0 (below_size (Qaw))); have n1_ := Aside0.mk (below_step (Qaw) hb); clear HB; have HO163 := n0_; have HB := n1_; clear n0_ n1_; (try clear hb); (try clear hb2); (try clear hk); (try clear hi); (try clear ho0)))
   go_ret
   exact ⟨_, by first | rfl | (simp [errW_none, errW_some] <;> rfl) | (simp only [← hji2]; first | rfl | (simp [errW_none, errW_some] <;> rfl)) | (simp [*, errW_none, errW_some] <;> rfl), by (with_reducible repeat (first | apply Kd.R_alloc | apply Kd.R_drewN | apply Kd.R_drew)); exact HO163.out, by repeat (first | (with_reducible first | exact HB.out | apply below_alloc | apply pw_below_drewN | apply below_drew1) | exact HB.out)⟩
  ·rw [if_neg c4] at H
   exact absurd H (by simp)
 ·rw [if_neg c3] at H
  exact absurd H (by simp)
end Go.Proofs.YtjloppfdagfpmaaDoor.X
end
section
namespace Go.Proofs.YtjloppfdagfpmaaDoor.X
open Go.RowKit YtjloppfdagfpmaaDoorW.PrintWords YtjloppfdagfpmaaDoorW.PrintLast YtjloppfdagfpmaaDoorW.PrintMore
attribute [local go_sem] max2_int min2_int max_two min_two max_three min_three max_four min_four
/-! ### slices_Clone_int_int: function 57 -/
def slices_Clone_int_int.f (l0 : List Int) : Option (List Int) := (some (([] : List Int) : List Int)).bind fun y184 => (if y184.length + l0.length < 17592186044416 then (some (y184 ++ l0)) else (none))
set_option maxHeartbeats 8000000 in
set_option maxRecDepth 100000 in
theorem slices_Clone_int_int.calls_some (a0 : Addr) (c0 : Nat) (l0 : List Int) (r : List Int) (w : World) (hr0 : Kd.C (Kd.int .i64) w (some a0) l0.length l0) (hc0 : l0.length ≤ c0) (h : slices_Clone_int_int.f l0 = some r) :
  Calls Tryd.prog 57 #[.slice (some a0) l0.length c0] w fun e w' => ∃ v0_ : Value, e = .returned (v0_) ∧ Kd.R (Kd.int .i64) 3 w' w.heap.size (fun _ => True) v0_ r ∧ Below w.heap.size w w' := by
 have HR0 := Aside0.mk hr0
 have HC0 := Aside0.mk hc0
 clear hr0 hc0
 have HB := Aside0.mk (Below.refl w.heap.size w)
 have H : ((some (([] : List Int) : List Int)).bind fun y184 => (if y184.length + l0.length < 17592186044416 then (some (y184 ++ l0)) else (none))) = some r := h
 clear h
 obtain ⟨y184, hy184⟩ : ∃ y_ : List Int, y_ = (([] : List Int)) := ⟨_, rfl⟩
 replace H : (if y184.length + l0.length < 17592186044416 then (some (y184 ++ l0)) else (none)) = some r := by first | (rw [hy184]; with_reducible exact H) | (have H2_ := (Option.bind_some _ _).symm.trans H; rw [hy184]; with_reducible exact H2_) | (have H2_ := (Option.bind_some _ _).symm.trans H; with_reducible exact H2_) | with_reducible exact H | (rw [hy184]; exact H) | exact H
 have Ny184 := Aside0.mk hy184
 clear hy184
 by_cases c2 : y184.length + l0.length < 17592186044416
 ·rw [if_pos c2] at H
  have LMc2 := Aside0.mk c2
  clear c2
  obtain ⟨y187, hy187⟩ : ∃ y_ : List Int, y_ = (y184 ++ l0) := ⟨_, rfl⟩
  replace H : (some y187) = some r := by first | (rw [hy187]; with_reducible exact H) | (have H2_ := (Option.bind_some _ _).symm.trans H; rw [hy187]; with_reducible exact H2_) | (have H2_ := (Option.bind_some _ _).symm.trans H; with_reducible exact H2_) | with_reducible exact H | (rw [hy187]; exact H) | exact H
  have Ny187 := Aside0.mk hy187
  clear hy187
  obtain rfl := Option.some.inj H
  have heq_ := fun (w : World) => Lib.run_eql_slice_nil (P := Tryd.prog) w 22 3 (some a0) l0.length c0 0 0 Tryd.underlying22
  go_enter Tryd.func57, Tryd.ntmps57
  go_wp2_with (first | ((with_reducible refine gate_dst (N := 5) rfl ?_); refine Kd.R_lit (Kd.int .i64) _ 3 ?hg (N := 5) ?hd (xs := ([] : List Int)) (inner := []) (ok := fun _ => True) (okp := fun _ => True) ?hr ?hp (fun _ hk => hk) trivial (Below.refl _ _) (Nat.le_refl _) (by simp) ?_; (case hd => rfl); (case hg => rfl); (case hr => first | (go_simp; done) | (go_simp; rfl)); (case hp => exact (Reps.none _ _)); intro v185 w3 ho4 hb hg_ hnew_; clear hg_ hnew_; (first | rw [← Ny184.out] at ho4 | (simp only [Int.reduceToNat] at ho4; rw [← Ny184.out] at ho4)); have n0_ := Aside0.mk (Kd.R_lower ho4 (below_size (Qaw))); have n1_ := Aside0.mk (below_step (Qaw) hb); clear HB; have HO186 := n0_; have HB := n1_; clear n0_ n1_; clear hb ho4) | ((with_reducible refine gate_builtin (b := .append) (xs := #[.tmp 5, .tmp 6]) rfl ?_); at_builtin; refine Kd.R_append_rows (Kd.int .i64) (w0 := w) w.heap.size rfl (.tmp 5) (.tmp 6) 22 3 (.int .i64 0) 8 rfl Tryd.underlying22 info3 rfl (by decide) (by omega) v185 y184 l0 _ _ _ (fun _ => True) (fun _ => False) rfl rfl ?aO ?aR (fun _ _ h => h) (fun _ h => h.elim) ?aF ?aB ?aS ?aL ?_; (case aR => exact Qsc (Kd.C_below HR0.out HB.out)); (case aB => exact (Qaw)); (case aF => exact (fun _ _ => trivial)); (case aO => exact (Qro HO186.out)); (case aS => exact (below_size (Qaw))); (case aL => have := LMc2.out; omega); intro v188 w5 ho hb hg hat; rw [← Ny187.out] at ho; have n0_ := Aside0.mk (hb); have n1_ := Aside0.mk (ho); clear HB; clear HO186; have HB := n0_; have HO189 := n1_; clear n0_ n1_; clear ho hb hg hat))
  go_ret
  exact ⟨_, by first | rfl | (simp [errW_none, errW_some] <;> rfl) | (simp [*, errW_none, errW_some] <;> rfl), by (with_reducible repeat (first | apply Kd.R_alloc | apply Kd.R_drewN | apply Kd.R_drew)); exact HO189.out, by repeat (first | (with_reducible first | exact HB.out | apply below_alloc | apply pw_below_drewN | apply below_drew1) | exact HB.out)⟩
 ·rw [if_neg c2] at H
  exact absurd H (by simp)
theorem slices_Clone_int_int.calls (A0 : Option Addr) (c0 : Nat) (l0 : List Int) (r : List Int) (w : World) (hr0 : Kd.C (Kd.int .i64) w A0 l0.length l0) (hc0 : l0.length ≤ c0) (h : slices_Clone_int_int.f l0 = some r) :
  Calls Tryd.prog 57 #[.slice A0 l0.length c0] w fun e w' => ∃ v0_ : Value, e = .returned (v0_) ∧ Kd.R (Kd.int .i64) 3 w' w.heap.size (fun _ => True) v0_ r ∧ Below w.heap.size w w' := by
 cases A0 with
 | some a0 => exact slices_Clone_int_int.calls_some a0 c0 l0 r w hr0 hc0 h
 | none =>
  have hl : l0 = [] := by
   rcases Nat.eq_zero_or_pos l0.length with h0 | h0
   ·exact List.length_eq_zero_iff.mp h0
   ·obtain ⟨ad, he, _⟩ := hr0.2.2 h0
    cases he
  subst hl
  obtain rfl : [] = r := by simpa [slices_Clone_int_int.f] using h
  clear h hr0 hc0
  have heq_ := fun (w : World) => Lib.run_eql_slice_nil (P := Tryd.prog) w 22 3 none 0 c0 0 0 Tryd.underlying22
  go_enter Tryd.func57, Tryd.ntmps57
  go_wp2
  go_ret
  exact ⟨_, rfl, Kd.R_nil _ _ _ _ _, Below.refl _ _⟩
end Go.Proofs.YtjloppfdagfpmaaDoor.X
end
section
namespace Go.Proofs.YtjloppfdagfpmaaDoor.X
open Go.RowKit YtjloppfdagfpmaaDoorW.PrintWords YtjloppfdagfpmaaDoorW.PrintLast YtjloppfdagfpmaaDoorW.PrintMore
attribute [local go_sem] max2_int min2_int max_two min_two max_three min_three max_four min_four
/-! ### lampblacklaw07_list: function 24 -/
def lampblacklaw07_list.f (l0 : List Int) : Option (List Int) := if 0 ≤ (mn (l0.length : Int) 12) then (if (mn (l0.length : Int) 12) ≤ (l0.length : Int) then ((slices_Clone_int_int.f (l0.take ((mn (l0.length : Int) 12) : Int).toNat)).bind fun t191 => (some t191)) else (none)) else (none)
set_option maxHeartbeats 8000000 in
set_option maxRecDepth 100000 in
theorem lampblacklaw07_list.calls (A0 : Option Addr) (c0 : Nat) (l0 : List Int) (r : List Int) (w : World) (hr0 : Kd.C (Kd.int .i64) w A0 l0.length l0) (hc0 : l0.length ≤ c0) (h : lampblacklaw07_list.f l0 = some r) :
  Calls Tryd.prog 24 #[.slice A0 l0.length c0] w fun e w' => ∃ v0_ : Value, e = .returned (v0_) ∧ Kd.R (Kd.int .i64) 3 w' w.heap.size (fun _ => True) v0_ r ∧ Below w.heap.size w w' := by
 have HR0 := Aside0.mk hr0
 have HC0 := Aside0.mk hc0
 clear hr0 hc0
 have HB := Aside0.mk (Below.refl w.heap.size w)
 have H : (if 0 ≤ (mn (l0.length : Int) 12) then (if (mn (l0.length : Int) 12) ≤ (l0.length : Int) then ((slices_Clone_int_int.f (l0.take ((mn (l0.length : Int) 12) : Int).toNat)).bind fun t191 => (some t191)) else (none)) else (none)) = some r := h
 clear h
 obtain ⟨ji2, hji2⟩ : ∃ j_ : Int, (mn (l0.length : Int) 12) = j_ := ⟨_, rfl⟩
 replace H : (if 0 ≤ (ji2) then (if (ji2) ≤ (l0.length : Int) then ((slices_Clone_int_int.f (l0.take ((ji2) : Int).toNat)).bind fun t191 => (some t191)) else (none)) else (none)) = some r := by first | (rw [hji2] at H; exact H) | (simp only [hji2] at H ⊢; exact H)
 (try (have hji2h : ji2 ≤ 12 := by (rw [← hji2]; unfold mn; (repeat' split) <;> omega)))
 (try (have hji2g : ji2 ≤ 64 := by omega))
 (try (have hji2l : 0 ≤ ji2 := by (rw [← hji2]; unfold mn; (repeat' split) <;> omega)))
 (try (have hji2m : 0 ≤ ji2 := by omega))
 have hji2_ : (if 12 < (l0.length : Int) then 12 else (l0.length : Int)) = ji2 := hji2
 by_cases c3 : 0 ≤ (ji2)
 ·rw [if_pos c3] at H
  have c3b0 := eq_true c3
  have c3b1 : decide (0 ≤ (ji2)) = true := decide_eq_true c3
  clear c3
  by_cases c4 : (ji2) ≤ (l0.length : Int)
  ·rw [if_pos c4] at H
   have c4b0 := eq_true c4
   have c4b1 : decide ((ji2) ≤ (l0.length : Int)) = true := decide_eq_true c4
   clear c4
   replace H := Option.bind_eq_some_iff.mp H
   obtain ⟨t191, A50, H⟩ := H
   replace H : (some t191) = some r := H
   have A5 := Aside0.mk A50
   clear A50
   obtain rfl := Option.some.inj H
   obtain ⟨i06, hi06, _, hsz6, _⟩ := info_parts info3
   obtain ⟨hcut6, hA6, hC6⟩ := print_take_of (P := Tryd.prog) (Value.int .i64) 0 22 3 .i64 Tryd.underlying22 hi06 hsz6 A0 c0 l0 (ji2) (of_decide_eq_true (by first | (with_reducible assumption) | assumption)) (of_decide_eq_true (by first | (with_reducible assumption) | assumption)) HC0.out
   have HR190 := Aside0.mk (Kd.C_of_reads (h1 := fun _ => rfl) (hA6 _ (Kd.reads_of_C HR0.out)))
   have HC190 := Aside0.mk hC6
   clear hA6 hC6 hi06 hsz6
   go_enter Tryd.func24, Tryd.ntmps24
   go_wp2_with (first | ((with_reducible refine gate_callee (f := 57) rfl ?_); refine goesL_ (some 8) rfl rfl Tryd.func57 (by kernel_rfl) rfl #[.slice A0 (l0.take ((ji2) : Int).toNat).length c0] rfl (by (try simp only [List.map_toArray, List.map_cons, List.map_nil]); first | done | (rw [show (l0.take ((ji2) : Int).toNat).length = (ji2).toNat from (by rw [List.length_take]; have h_ : ((ji2) : Int) ≤ (l0.length : Int) := of_decide_eq_true (by first | (with_reducible assumption) | assumption); omega)] <;> rfl) | (simp only [hji2]; rfl) | rfl | (simp only [List.length_drop, List.length_take]; rfl)) ?_; (with_reducible refine (slices_Clone_int_int.calls _ _ (l0.take ((ji2) : Int).toNat) t191 _ ?side1 ?side2 A5.out).mono ?_); (case side1 => exact Qsc HR190.out); (case side2 => exact HC190.out); rintro e w7 ⟨v192, rfl, ho0, hb⟩; refine ⟨_, rfl, ?_⟩; have n0_ := Aside0.mk (Kd.R_lower ho0 (below_size (Qaw))); have n1_ := Aside0.mk (below_step (Qaw) hb); clear HB; have HO193 := n0_; have HB := n1_; clear n0_ n1_; (try clear hb); (try clear hb2); (try clear hk); (try clear hi); (try clear ho0)))
   go_ret
   exact ⟨_, by first | rfl | (simp [errW_none, errW_some] <;> rfl) | (simp only [← hji2]; first | rfl | (simp [errW_none, errW_some] <;> rfl)) | (simp [*, errW_none, errW_some] <;> rfl), by (with_reducible repeat (first | apply Kd.R_alloc | apply Kd.R_drewN | apply Kd.R_drew)); exact HO193.out, by repeat (first | (with_reducible first | exact HB.out | apply below_alloc | apply pw_below_drewN | apply below_drew1) | exact HB.out)⟩
  ·rw [if_neg c4] at H
   exact absurd H (by simp)
 ·rw [if_neg c3] at H
  exact absurd H (by simp)
end Go.Proofs.YtjloppfdagfpmaaDoor.X
end
section
namespace Go.Proofs.YtjloppfdagfpmaaDoor.X
open Go.RowKit YtjloppfdagfpmaaDoorW.PrintWords YtjloppfdagfpmaaDoorW.PrintLast YtjloppfdagfpmaaDoorW.PrintMore
attribute [local go_sem] max2_int min2_int max_two min_two max_three min_three max_four min_four
/-! ### lampblackref01_Reached: function 52 -/
mutual
def lampblackref01_Reached.l0 : Nat → List Int → Int → Int → Int → Int → Option (Int)
 | 0, _, _, _, _, _ => none
 | k + 1, x0, x1, x7, x12, x13 => if x13 < x12 then (lampblackref01_Reached.l1 k x0 x1 x7 x12 x13 (x0.length : Int) 0) else (some x7)
def lampblackref01_Reached.l1 : Nat → List Int → Int → Int → Int → Int → Int → Int → Option (Int)
 | 0, _, _, _, _, _, _, _ => none
 | k + 1, x0, x1, x7, x12, x13, x16, x17 => if x17 < x16 then (if 0 ≤ x17 then (if (Go.bits .and .i64 (shr .i64 x7 x17) 1) = 1 then (if x17 < (x0.length : Int) then (lampblackref01_Reached.l1 k x0 x1 (Go.bits .or .i64 x7 (Go.bits .and .i64 (rd x0 x17) x1)) x12 x13 x16 (wrap64 (x17 + 1))) else (none)) else (lampblackref01_Reached.l1 k x0 x1 x7 x12 x13 x16 (wrap64 (x17 + 1)))) else (none)) else (lampblackref01_Reached.l0 k x0 x1 x7 x12 (wrap64 (x13 + 1)))
end
def lampblackref01_Reached.f (k : Nat) (l0 : List Int) (a1 : Int) (a2 : Int) : Option (Int) := if 0 ≤ a2 then (lampblackref01_Reached.l0 k l0 a1 (shl .i64 1 a2) (l0.length : Int) 0) else (none)
set_option maxHeartbeats 8000000 in
set_option maxRecDepth 100000 in
theorem lampblackref01_Reached.calls (k : Nat) (A0 : Option Addr) (c0 : Nat) (l0 : List Int) (a1 : Int) (a2 : Int) (r : Int) (w : World) (hr0 : Kd.C (Kd.int .i64) w A0 l0.length l0) (hc0 : l0.length ≤ c0) (h : lampblackref01_Reached.f k l0 a1 a2 = some r) :
  Calls Tryd.prog 52 #[.slice A0 l0.length c0, .int .i64 a1, .int .i64 a2] w fun e w' => e = .returned (.int .i64 r) ∧ Drawn0 w w' := by
 have HR0 := Aside0.mk hr0
 have HC0 := Aside0.mk hc0
 clear hr0 hc0
 have H : (if 0 ≤ a2 then (lampblackref01_Reached.l0 k l0 a1 (shl .i64 1 a2) (l0.length : Int) 0) else (none)) = some r := h
 clear h
 by_cases c4 : 0 ≤ a2
 ·rw [if_pos c4] at H
  have c4b0 := eq_true c4
  have c4b1 : decide (0 ≤ a2) = true := decide_eq_true c4
  clear c4
  obtain ⟨ji5, hji5⟩ : ∃ j_ : Int, (shl .i64 1 a2) = j_ := ⟨_, rfl⟩
  replace H : (lampblackref01_Reached.l0 k l0 a1 ji5 (l0.length : Int) 0) = some r := by first | (rw [hji5] at H; exact H) | (simp only [hji5] at H ⊢; exact H)
  have hji5_ : (IntKind.i64.wrap (1 * 2 ^ min a2.toNat 64)) = ji5 := hji5
  have hji5z : a2 ≤ 64 → (IntKind.i64.wrap (1 * 2 ^ a2.toNat)) = ji5 := shl_small hji5
  have hji5u : (IntKind.i64.wrap (2 ^ min a2.toNat 64)) = ji5 := by have h_ := hji5_; rw [Int.one_mul] at h_; exact h_
  have hji5v : a2 ≤ 64 → (IntKind.i64.wrap (2 ^ a2.toNat)) = ji5 := fun hle_ => by have h_ := hji5z hle_; rw [Int.one_mul] at h_; exact h_
  have hji5y : (wrap64 (1 * 2 ^ min a2.toNat 64)) = ji5 := (i64_w _).symm.trans hji5_
  have hji5x : a2 ≤ 64 → (wrap64 (1 * 2 ^ a2.toNat)) = ji5 := fun h_ => (i64_w _).symm.trans (hji5z h_)
  have H' := Aside0.mk H
  clear H
  go_enter Tryd.func52, Tryd.ntmps52
  go_wp2
  go_loopg [7, 13] k (fun kq v7 v13 w' => ∃ (x7_1 : Int) (x13_1 : Int), v7 = .int .i64 x7_1 ∧ v13 = .int .i64 x13_1 ∧ Aside0 (lampblackref01_Reached.l0 kq l0 a1 x7_1 (l0.length : Int) x13_1 = some r) ∧ Aside0 (kq ≤ k) ∧ Drawn0 w w')
  case atStart => exact ⟨(ji5), (0), (by first | rfl | (simp; done) | (simp only [← hji5] <;> (first | rfl | simp)) | (simp [*]; done)), (by first | rfl | (simp; done) | (simp [*]; done)), H', ⟨Nat.le_refl _⟩, by repeat (first | exact Drawn0.refl _ | apply Drawn0.step)⟩
  case round =>
   clear H'
   try clear p2
   try clear c4
   try clear c4b0
   try clear c4b1
   try clear c5
   obtain ⟨x7_1, x13_1, rfl, rfl, HA, HK1, ⟨m1, rfl⟩⟩ := hrel
   cases gk with
   | zero => exact absurd HA.out (by simp [lampblackref01_Reached.l0])
   | succ k1 =>
    have H := HA.out
    clear HA
    simp only [lampblackref01_Reached.l0] at H
    by_cases c6 : x13_1 < (l0.length : Int)
    ·rw [if_pos c6] at H
     have c6b0 : decide (x13_1 < (l0.length : Int)) = true := decide_eq_true c6
     clear c6
     have H' := Aside0.mk H
     clear H
     go_wp2
     go_loopg [7, 17] k1 (fun kq v7 v17 w' => ∃ (x7_2 : Int) (x17_2 : Int), v7 = .int .i64 x7_2 ∧ v17 = .int .i64 x17_2 ∧ Aside0 (lampblackref01_Reached.l1 kq l0 a1 x7_2 (l0.length : Int) x13_1 (l0.length : Int) x17_2 = some r) ∧ Aside0 (kq ≤ k1) ∧ Drawn0 w w')
     case atStart => exact ⟨(x7_1), (0), (by first | rfl | (simp; done) | (simp [*]; done)), (by first | rfl | (simp; done) | (simp [*]; done)), H', ⟨Nat.le_refl _⟩, by repeat (first | exact Drawn0.refl _ | apply Drawn0.step)⟩
     case round =>
      clear H'
      try clear p2
      try clear c4
      try clear c4b0
      try clear c4b1
      try clear c5
      try clear c6
      try clear c6b0
      try clear p6
      try clear p2
      obtain ⟨x7_2, x17_2, rfl, rfl, HA, HK2, ⟨m2, rfl⟩⟩ := hrel
      cases gk with
      | zero => exact absurd HA.out (by simp [lampblackref01_Reached.l1])
      | succ k2 =>
       have H := HA.out
       clear HA
       simp only [lampblackref01_Reached.l1] at H
       by_cases c7 : x17_2 < (l0.length : Int)
       ·rw [if_pos c7] at H
        have c7b0 : decide (x17_2 < (l0.length : Int)) = true := decide_eq_true c7
        clear c7
        by_cases c8 : 0 ≤ x17_2
        ·rw [if_pos c8] at H
         have c8b0 := eq_true c8
         have c8b1 : decide (0 ≤ x17_2) = true := decide_eq_true c8
         clear c8
         obtain ⟨ji9, hji9⟩ : ∃ j_ : Int, (shr .i64 x7_2 x17_2) = j_ := ⟨_, rfl⟩
         replace H : (if (Go.bits .and .i64 (ji9) 1) = 1 then (if x17_2 < (l0.length : Int) then (lampblackref01_Reached.l1 k2 l0 a1 (Go.bits .or .i64 x7_2 (Go.bits .and .i64 (rd l0 x17_2) a1)) (l0.length : Int) x13_1 (l0.length : Int) (wrap64 (x17_2 + 1))) else (none)) else (lampblackref01_Reached.l1 k2 l0 a1 x7_2 (l0.length : Int) x13_1 (l0.length : Int) (wrap64 (x17_2 + 1)))) = some r := by first | (rw [hji9] at H; exact H) | (simp only [hji9] at H ⊢; exact H)
         have hji9_ : (x7_2 / 2 ^ min x17_2.toNat 64) = ji9 := hji9
         have hji9z : x17_2 ≤ 64 → (x7_2 / 2 ^ x17_2.toNat) = ji9 := shr_small hji9
         by_cases c10 : (Go.bits .and .i64 (ji9) 1) = 1
         ·rw [if_pos c10] at H
          have c10b0 : ((Go.bits .and .i64 (ji9) 1) == 1) = true := beq_iff_eq.mpr c10
          have c10b1 : ((Go.bits .and .i64 (ji9) 1) != 1) = false := bne_eq_false_iff_eq.mpr c10
          clear c10
          by_cases c11 : x17_2 < (l0.length : Int)
          ·rw [if_pos c11] at H
           have c11b0 : decide (x17_2 < (l0.length : Int)) = true := decide_eq_true c11
           clear c11
           have H' := Aside0.mk H
           clear H
           have p143 : 0 ≤ (x17_2 : Int) := of_decide_eq_true (by first | (with_reducible assumption) | assumption)
           have q143 : x17_2 < (l0.length : Int) := of_decide_eq_true (by first | (with_reducible assumption) | assumption)
           obtain ⟨ad143, e143, hx143_0⟩ := Kd.at_int HR0.out x17_2 p143 q143
           cases e143
           replace p143 := eq_true p143
           replace q143 := eq_true q143
           go_wp2
           go_roundg k2
           case measure => have := HK1.out; have := HK2.out; omega
           case rel => exact ⟨(Go.bits .or .i64 x7_2 (Go.bits .and .i64 (rd l0 x17_2) a1)), (wrap64 (x17_2 + 1)), (by first | rfl | (simp; done) | (simp [*]; done)), (by first | rfl | (simp; done) | (simp [*]; done)), H', ⟨by have := HK1.out; have := HK2.out; omega⟩, by repeat (first | exact Drawn0.refl _ | apply Drawn0.step)⟩
          ·rw [if_neg c11] at H
           exact absurd H (by simp)
         ·rw [if_neg c10] at H
          have c10b0 : ((Go.bits .and .i64 (ji9) 1) == 1) = false := beq_eq_false_iff_ne.mpr c10
          have c10b1 : ((Go.bits .and .i64 (ji9) 1) != 1) = true := bne_iff_ne.mpr c10
          have H' := Aside0.mk H
          clear H
          go_wp2
          go_roundg k2
          case measure => have := HK1.out; have := HK2.out; omega
          case rel => exact ⟨(x7_2), (wrap64 (x17_2 + 1)), (by first | rfl | (simp; done) | (simp [*]; done)), (by first | rfl | (simp; done) | (simp [*]; done)), H', ⟨by have := HK1.out; have := HK2.out; omega⟩, by repeat (first | exact Drawn0.refl _ | apply Drawn0.step)⟩
        ·rw [if_neg c8] at H
         exact absurd H (by simp)
       ·rw [if_neg c7] at H
        have c7b0 : decide (x17_2 < (l0.length : Int)) = false := decide_eq_false c7
        clear c7
        have H' := Aside0.mk H
        clear H
        go_wp2
        go_roundg k2
        case measure => have := HK1.out; have := HK2.out; omega
        case rel => exact ⟨(x7_2), (wrap64 (x13_1 + 1)), (by first | rfl | (simp; done) | (simp [*]; done)), (by first | rfl | (simp; done) | (simp [*]; done)), H', ⟨by have := HK1.out; have := HK2.out; omega⟩, by repeat (first | exact Drawn0.refl _ | apply Drawn0.step)⟩
    ·rw [if_neg c6] at H
     have c6b0 : decide (x13_1 < (l0.length : Int)) = false := decide_eq_false c6
     clear c6
     obtain rfl := Option.some.inj H
     go_wp2
     go_ret
     exact ⟨by first | rfl | (simp; done) | (simp only [← hji5] <;> (first | rfl | simp)) | (simp [*]; done), by repeat (first | exact Drawn0.refl _ | apply Drawn0.step)⟩
 ·rw [if_neg c4] at H
  exact absurd H (by simp)
end Go.Proofs.YtjloppfdagfpmaaDoor.X
end
section
namespace Go.Proofs.YtjloppfdagfpmaaDoor.X
open Go.RowKit YtjloppfdagfpmaaDoorW.PrintWords YtjloppfdagfpmaaDoorW.PrintLast YtjloppfdagfpmaaDoorW.PrintMore
attribute [local go_sem] max2_int min2_int max_two min_two max_three min_three max_four min_four
/-! ### lampblackref02_Connected: function 18 -/
mutual
def lampblackref02_Connected.j0 : Nat → List Int → Int → Bool → Option (Bool)
 | 0, _, _, _ => none
 | k + 1, x0, x1, x14 => if x14 = true then (some false) else (lampblackref02_Connected.l0 k x0 x1 0)
def lampblackref02_Connected.l0 : Nat → List Int → Int → Int → Option (Bool)
 | 0, _, _, _ => none
 | k + 1, x0, x1, x5 => if 0 ≤ x5 then (if (Go.bits .and .i64 (shr .i64 x1 x5) 1) = 0 then (lampblackref02_Connected.l0 k x0 x1 (wrap64 (x5 + 1))) else ((lampblackref01_Reached.f k x0 x1 x5).bind fun t144 => (some (t144 == x1)))) else (none)
end
def lampblackref02_Connected.f (k : Nat) (l0 : List Int) (a1 : Int) : Option (Bool) := if a1 ≤ 0 then (lampblackref02_Connected.j0 k l0 a1 true) else (lampblackref02_Connected.j0 k l0 a1 (decide (a1 ≥ (shl .i64 1 (l0.length : Int)))))
set_option maxHeartbeats 8000000 in
set_option maxRecDepth 100000 in
theorem lampblackref02_Connected.calls (k : Nat) (A0 : Option Addr) (c0 : Nat) (l0 : List Int) (a1 : Int) (r : Bool) (w : World) (hr0 : Kd.C (Kd.int .i64) w A0 l0.length l0) (hc0 : l0.length ≤ c0) (h : lampblackref02_Connected.f k l0 a1 = some r) :
  Calls Tryd.prog 18 #[.slice A0 l0.length c0, .int .i64 a1] w fun e w' => e = .returned (.bool r) ∧ Drawn0 w w' := by
 have HR0 := Aside0.mk hr0
 have HC0 := Aside0.mk hc0
 clear hr0 hc0
 have H : (if a1 ≤ 0 then (lampblackref02_Connected.j0 k l0 a1 true) else (lampblackref02_Connected.j0 k l0 a1 (decide (a1 ≥ (shl .i64 1 (l0.length : Int)))))) = some r := h
 clear h
 have HC3 := Aside0.mk H
 clear H
 go_enter Tryd.func18, Tryd.ntmps18
 go_upto_region 1 with (fail)
 go_cut [14] (fun v14 wc => ∃ (kq : Nat) (x14_2 : Bool), v14 = .bool x14_2 ∧ Aside0 (lampblackref02_Connected.j0 kq l0 a1 x14_2 = some r) ∧ Aside0 (kq ≤ k) ∧ Drawn0 w wc)
 case first =>
  have H := HC3.out
  clear HC3
  by_cases c4 : a1 ≤ 0
  ·rw [if_pos c4] at H
   have c4b0 : decide (a1 ≤ 0) = true := decide_eq_true c4
   clear c4
   (first | rw [c4b0] | (simp only [i64_w, i32_w]; rw [c4b0]) | skip)
   have H' := Aside0.mk H
   clear H
   go_wp2
   go_meet
   case rel => exact ⟨_, (true), (by first | rfl | (simp; done) | (simp [*]; done)), H', ⟨by first | omega | exact Nat.le_refl _⟩, by repeat (first | exact Drawn0.refl _ | apply Drawn0.step)⟩
  ·rw [if_neg c4] at H
   have c4b0 : decide (a1 ≤ 0) = false := decide_eq_false c4
   clear c4
   (first | rw [c4b0] | (simp only [i64_w, i32_w]; rw [c4b0]) | skip)
   obtain ⟨ji5, hji5⟩ : ∃ j_ : Int, (shl .i64 1 (l0.length : Int)) = j_ := ⟨_, rfl⟩
   replace H : (lampblackref02_Connected.j0 k l0 a1 (decide (a1 ≥ (ji5)))) = some r := by first | (rw [hji5] at H; exact H) | (simp only [hji5] at H ⊢; exact H)
   have hji5_ : (IntKind.i64.wrap (1 * 2 ^ min (l0.length : Int).toNat 64)) = ji5 := hji5
   have hji5z : (l0.length : Int) ≤ 64 → (IntKind.i64.wrap (1 * 2 ^ (l0.length : Int).toNat)) = ji5 := shl_small hji5
   have hji5p : (IntKind.i64.wrap (1 * 2 ^ min l0.length 64)) = ji5 := hji5_
   have hji5q : (l0.length : Int) ≤ 64 → (IntKind.i64.wrap (1 * 2 ^ l0.length)) = ji5 := hji5z
   have hji5r : (IntKind.i64.wrap (2 ^ min l0.length 64)) = ji5 := by have h_ := hji5p; rw [Int.one_mul] at h_; exact h_
   have hji5s : (l0.length : Int) ≤ 64 → (IntKind.i64.wrap (2 ^ l0.length)) = ji5 := fun hle_ => by have h_ := hji5q hle_; rw [Int.one_mul] at h_; exact h_
   have hji5u : (IntKind.i64.wrap (2 ^ min (l0.length : Int).toNat 64)) = ji5 := by have h_ := hji5_; rw [Int.one_mul] at h_; exact h_
   have hji5v : (l0.length : Int) ≤ 64 → (IntKind.i64.wrap (2 ^ (l0.length : Int).toNat)) = ji5 := fun hle_ => by have h_ := hji5z hle_; rw [Int.one_mul] at h_; exact h_
   have hji5y : (wrap64 (1 * 2 ^ min (l0.length : Int).toNat 64)) = ji5 := (i64_w _).symm.trans hji5_
   have hji5x : (l0.length : Int) ≤ 64 → (wrap64 (1 * 2 ^ (l0.length : Int).toNat)) = ji5 := fun h_ => (i64_w _).symm.trans (hji5z h_)
   have H' := Aside0.mk H
   clear H
   go_wp2
   go_meet
   case rel => exact ⟨_, (decide (a1 ≥ (ji5))), (by first | rfl | (simp; done) | (simp only [← hji5] <;> (first | rfl | simp)) | (simp [*]; done)), H', ⟨by first | omega | exact Nat.le_refl _⟩, by repeat (first | exact Drawn0.refl _ | apply Drawn0.step)⟩
 case rest =>
  clear HC3
  try clear c1
  try clear p2
  try clear c4
  try clear c4b0
  obtain ⟨kq, x14_2, rfl, HA, HJ2, ⟨mc2, rfl⟩⟩ := hcut
  cases kq with
  | zero => exact absurd HA.out (by simp [lampblackref02_Connected.j0])
  | succ kj2 =>
   have H := HA.out
   clear HA
   simp only [lampblackref02_Connected.j0] at H
   by_cases c6 : x14_2 = true
   ·subst c6
    have H1 : (some false) = some r := by rw [if_pos rfl] at H; exact H
    clear H
    have H := H1
    clear H1
    obtain rfl := Option.some.inj H
    go_wp2
    go_ret
    exact ⟨by first | rfl | (simp; done) | (simp [*]; done), by repeat (first | exact Drawn0.refl _ | apply Drawn0.step)⟩
   ·replace c6 := Bool.eq_false_iff.mpr c6
    subst c6
    have H1 : (lampblackref02_Connected.l0 kj2 l0 a1 0) = some r := by rw [if_neg (show ¬ (false = true) by decide)] at H; exact H
    clear H
    have H := H1
    clear H1
    have H' := Aside0.mk H
    clear H
    go_wp2
    go_loopg [5] kj2 (fun kq v5 w' => ∃ (x5_2 : Int), v5 = .int .i64 x5_2 ∧ Aside0 (lampblackref02_Connected.l0 kq l0 a1 x5_2 = some r) ∧ Aside0 (kq ≤ kj2) ∧ Drawn0 w w')
    case atStart => exact ⟨(0), (by first | rfl | (simp; done) | (simp [*]; done)), H', ⟨Nat.le_refl _⟩, by repeat (first | exact Drawn0.refl _ | apply Drawn0.step)⟩
    case round =>
     clear H'
     try clear c1
     try clear c2
     try clear p2
     try clear c4
     try clear c4b0
     try clear c6
     try clear p6
     try clear p2
     obtain ⟨x5_2, rfl, HA, HK2, ⟨m2, rfl⟩⟩ := hrel
     cases gk with
     | zero => exact absurd HA.out (by simp [lampblackref02_Connected.l0])
     | succ k2 =>
      have H := HA.out
      clear HA
      simp only [lampblackref02_Connected.l0] at H
      by_cases c7 : 0 ≤ x5_2
      ·rw [if_pos c7] at H
       have c7b0 := eq_true c7
       have c7b1 : decide (0 ≤ x5_2) = true := decide_eq_true c7
       clear c7
       obtain ⟨ji8, hji8⟩ : ∃ j_ : Int, (shr .i64 a1 x5_2) = j_ := ⟨_, rfl⟩
       replace H : (if (Go.bits .and .i64 (ji8) 1) = 0 then (lampblackref02_Connected.l0 k2 l0 a1 (wrap64 (x5_2 + 1))) else ((lampblackref01_Reached.f k2 l0 a1 x5_2).bind fun t144 => (some (t144 == a1)))) = some r := by first | (rw [hji8] at H; exact H) | (simp only [hji8] at H ⊢; exact H)
       have hji8_ : (a1 / 2 ^ min x5_2.toNat 64) = ji8 := hji8
       have hji8z : x5_2 ≤ 64 → (a1 / 2 ^ x5_2.toNat) = ji8 := shr_small hji8
       by_cases c9 : (Go.bits .and .i64 (ji8) 1) = 0
       ·rw [if_pos c9] at H
        have c9b0 : ((Go.bits .and .i64 (ji8) 1) == 0) = true := beq_iff_eq.mpr c9
        have c9b1 : ((Go.bits .and .i64 (ji8) 1) != 0) = false := bne_eq_false_iff_eq.mpr c9
        clear c9
        have H' := Aside0.mk H
        clear H
        go_wp2
        go_roundg k2
        case measure => have := HJ2.out; have := HK2.out; omega
        case rel => exact ⟨(wrap64 (x5_2 + 1)), (by first | rfl | (simp; done) | (simp [*]; done)), H', ⟨by have := HJ2.out; have := HK2.out; omega⟩, by repeat (first | exact Drawn0.refl _ | apply Drawn0.step)⟩
       ·rw [if_neg c9] at H
        have c9b0 : ((Go.bits .and .i64 (ji8) 1) == 0) = false := beq_eq_false_iff_ne.mpr c9
        have c9b1 : ((Go.bits .and .i64 (ji8) 1) != 0) = true := bne_iff_ne.mpr c9
        replace H := Option.bind_eq_some_iff.mp H
        obtain ⟨t144, A100, H⟩ := H
        replace H : (some (t144 == a1)) = some r := H
        have A10 := Aside0.mk A100
        clear A100
        obtain rfl := Option.some.inj H
        go_wp2_with (first | ((with_reducible refine gate_callee (f := 52) rfl ?_); refine goesL_ (some 25) rfl rfl Tryd.func52 (by kernel_rfl) rfl #[.slice A0 l0.length c0, .int .i64 a1, .int .i64 x5_2] rfl (Qls) ?_; (with_reducible refine (lampblackref01_Reached.calls k2 _ _ l0 a1 x5_2 t144 _ ?side1 ?side2 A10.out).mono ?_); (case side1 => exact Qsc HR0.out); (case side2 => exact HC0.out); rintro e w' ⟨rfl, ⟨nd, rfl⟩⟩; refine ⟨_, rfl, ?_⟩))
        go_ret
        exact ⟨by first | rfl | (simp; done) | (simp only [← hji8] <;> (first | rfl | simp)) | (simp [*]; done), by repeat (first | exact Drawn0.refl _ | apply Drawn0.step)⟩
      ·rw [if_neg c7] at H
       exact absurd H (by simp)
end Go.Proofs.YtjloppfdagfpmaaDoor.X
end
section
namespace Go.Proofs.YtjloppfdagfpmaaDoor.X
open Go.RowKit YtjloppfdagfpmaaDoorW.PrintWords YtjloppfdagfpmaaDoorW.PrintLast YtjloppfdagfpmaaDoorW.PrintMore
attribute [local go_sem] max2_int min2_int max_two min_two max_three min_three max_four min_four
/-! ### lampblackref02_Around: function 95 -/
def lampblackref02_Around.l0 : Nat → List Int → Int → Int → Int → Int → Option (Int)
 | 0, _, _, _, _, _ => none
 | k + 1, x0, x1, x5, x8, x9 => if x9 < x8 then (if 0 ≤ x9 then (if (Go.bits .and .i64 (shr .i64 x1 x9) 1) = 1 then (if x9 < (x0.length : Int) then (lampblackref02_Around.l0 k x0 x1 (Go.bits .or .i64 x5 (rd x0 x9)) x8 (wrap64 (x9 + 1))) else (none)) else (lampblackref02_Around.l0 k x0 x1 x5 x8 (wrap64 (x9 + 1)))) else (none)) else (some x5)
def lampblackref02_Around.f (k : Nat) (l0 : List Int) (a1 : Int) : Option (Int) := lampblackref02_Around.l0 k l0 a1 0 (l0.length : Int) 0
set_option maxHeartbeats 8000000 in
set_option maxRecDepth 100000 in
theorem lampblackref02_Around.calls (k : Nat) (A0 : Option Addr) (c0 : Nat) (l0 : List Int) (a1 : Int) (r : Int) (w : World) (hr0 : Kd.C (Kd.int .i64) w A0 l0.length l0) (hc0 : l0.length ≤ c0) (h : lampblackref02_Around.f k l0 a1 = some r) :
  Calls Tryd.prog 95 #[.slice A0 l0.length c0, .int .i64 a1] w fun e w' => e = .returned (.int .i64 r) ∧ Drawn0 w w' := by
 have HR0 := Aside0.mk hr0
 have HC0 := Aside0.mk hc0
 clear hr0 hc0
 have H : (lampblackref02_Around.l0 k l0 a1 0 (l0.length : Int) 0) = some r := h
 clear h
 have H' := Aside0.mk H
 clear H
 go_enter Tryd.func95, Tryd.ntmps95
 go_wp2
 go_loopg [5, 9] k (fun kq v5 v9 w' => ∃ (x5_1 : Int) (x9_1 : Int), v5 = .int .i64 x5_1 ∧ v9 = .int .i64 x9_1 ∧ Aside0 (lampblackref02_Around.l0 kq l0 a1 x5_1 (l0.length : Int) x9_1 = some r) ∧ Aside0 (kq ≤ k) ∧ Drawn0 w w')
 case atStart => exact ⟨(0), (0), (by first | rfl | (simp; done) | (simp [*]; done)), (by first | rfl | (simp; done) | (simp [*]; done)), H', ⟨Nat.le_refl _⟩, by repeat (first | exact Drawn0.refl _ | apply Drawn0.step)⟩
 case round =>
  clear H'
  try clear p2
  obtain ⟨x5_1, x9_1, rfl, rfl, HA, HK1, ⟨m1, rfl⟩⟩ := hrel
  cases gk with
  | zero => exact absurd HA.out (by simp [lampblackref02_Around.l0])
  | succ k1 =>
   have H := HA.out
   clear HA
   simp only [lampblackref02_Around.l0] at H
   by_cases c3 : x9_1 < (l0.length : Int)
   ·rw [if_pos c3] at H
    have c3b0 : decide (x9_1 < (l0.length : Int)) = true := decide_eq_true c3
    clear c3
    by_cases c4 : 0 ≤ x9_1
    ·rw [if_pos c4] at H
     have c4b0 := eq_true c4
     have c4b1 : decide (0 ≤ x9_1) = true := decide_eq_true c4
     clear c4
     obtain ⟨ji5, hji5⟩ : ∃ j_ : Int, (shr .i64 a1 x9_1) = j_ := ⟨_, rfl⟩
     replace H : (if (Go.bits .and .i64 (ji5) 1) = 1 then (if x9_1 < (l0.length : Int) then (lampblackref02_Around.l0 k1 l0 a1 (Go.bits .or .i64 x5_1 (rd l0 x9_1)) (l0.length : Int) (wrap64 (x9_1 + 1))) else (none)) else (lampblackref02_Around.l0 k1 l0 a1 x5_1 (l0.length : Int) (wrap64 (x9_1 + 1)))) = some r := by first | (rw [hji5] at H; exact H) | (simp only [hji5] at H ⊢; exact H)
     have hji5_ : (a1 / 2 ^ min x9_1.toNat 64) = ji5 := hji5
     have hji5z : x9_1 ≤ 64 → (a1 / 2 ^ x9_1.toNat) = ji5 := shr_small hji5
     by_cases c6 : (Go.bits .and .i64 (ji5) 1) = 1
     ·rw [if_pos c6] at H
      have c6b0 : ((Go.bits .and .i64 (ji5) 1) == 1) = true := beq_iff_eq.mpr c6
      have c6b1 : ((Go.bits .and .i64 (ji5) 1) != 1) = false := bne_eq_false_iff_eq.mpr c6
      clear c6
      by_cases c7 : x9_1 < (l0.length : Int)
      ·rw [if_pos c7] at H
       have c7b0 : decide (x9_1 < (l0.length : Int)) = true := decide_eq_true c7
       clear c7
       have H' := Aside0.mk H
       clear H
       have p195 : 0 ≤ (x9_1 : Int) := of_decide_eq_true (by first | (with_reducible assumption) | assumption)
       have q195 : x9_1 < (l0.length : Int) := of_decide_eq_true (by first | (with_reducible assumption) | assumption)
       obtain ⟨ad195, e195, hx195_0⟩ := Kd.at_int HR0.out x9_1 p195 q195
       cases e195
       replace p195 := eq_true p195
       replace q195 := eq_true q195
       go_wp2
       go_roundg k1
       case measure => have := HK1.out; omega
       case rel => exact ⟨(Go.bits .or .i64 x5_1 (rd l0 x9_1)), (wrap64 (x9_1 + 1)), (by first | rfl | (simp; done) | (simp [*]; done)), (by first | rfl | (simp; done) | (simp [*]; done)), H', ⟨by have := HK1.out; omega⟩, by repeat (first | exact Drawn0.refl _ | apply Drawn0.step)⟩
      ·rw [if_neg c7] at H
       exact absurd H (by simp)
     ·rw [if_neg c6] at H
      have c6b0 : ((Go.bits .and .i64 (ji5) 1) == 1) = false := beq_eq_false_iff_ne.mpr c6
      have c6b1 : ((Go.bits .and .i64 (ji5) 1) != 1) = true := bne_iff_ne.mpr c6
      have H' := Aside0.mk H
      clear H
      go_wp2
      go_roundg k1
      case measure => have := HK1.out; omega
      case rel => exact ⟨(x5_1), (wrap64 (x9_1 + 1)), (by first | rfl | (simp; done) | (simp [*]; done)), (by first | rfl | (simp; done) | (simp [*]; done)), H', ⟨by have := HK1.out; omega⟩, by repeat (first | exact Drawn0.refl _ | apply Drawn0.step)⟩
    ·rw [if_neg c4] at H
     exact absurd H (by simp)
   ·rw [if_neg c3] at H
    have c3b0 : decide (x9_1 < (l0.length : Int)) = false := decide_eq_false c3
    clear c3
    obtain rfl := Option.some.inj H
    go_wp2
    go_ret
    exact ⟨by first | rfl | (simp; done) | (simp [*]; done), by repeat (first | exact Drawn0.refl _ | apply Drawn0.step)⟩
end Go.Proofs.YtjloppfdagfpmaaDoor.X
end
section
namespace Go.Proofs.YtjloppfdagfpmaaDoor.X
open Go.RowKit YtjloppfdagfpmaaDoorW.PrintWords YtjloppfdagfpmaaDoorW.PrintLast YtjloppfdagfpmaaDoorW.PrintMore
attribute [local go_sem] max2_int min2_int max_two min_two max_three min_three max_four min_four
/-! ### lampblackref07_fits: function 73 -/
def lampblackref07_fits.l0 : Nat → List Int → List Int → List Int → Int → Int → Int → Int → Option (Bool)
 | 0, _, _, _, _, _, _, _ => none
 | k + 1, x0, x1, x2, x3, x4, x12, x13 => if x13 < x12 then (if 0 ≤ x3 then (if x3 < (x1.length : Int) then (if 0 ≤ x13 then (if (Go.bits .and .i64 (shr .i64 (rd x1 x3) x13) 1) = 1 then ((lampblackref02_Around.f k x0 x4).bind fun t197 => (if x13 < (x2.length : Int) then (if (Go.bits .and .i64 t197 (rd x2 x13)) = 0 then (some false) else (lampblackref07_fits.l0 k x0 x1 x2 x3 x4 x12 (wrap64 (x13 + 1)))) else (none))) else (lampblackref07_fits.l0 k x0 x1 x2 x3 x4 x12 (wrap64 (x13 + 1)))) else (none)) else (none)) else (none)) else (some true)
def lampblackref07_fits.f (k : Nat) (l0 : List Int) (l1 : List Int) (l2 : List Int) (a3 : Int) (a4 : Int) : Option (Bool) := lampblackref07_fits.l0 k l0 l1 l2 a3 a4 a3 0
set_option maxHeartbeats 8000000 in
set_option maxRecDepth 100000 in
theorem lampblackref07_fits.calls (k : Nat) (A0 : Option Addr) (c0 : Nat) (l0 : List Int) (A1 : Option Addr) (c1 : Nat) (l1 : List Int) (A2 : Option Addr) (c2 : Nat) (l2 : List Int) (a3 : Int) (a4 : Int) (r : Bool) (w : World) (hr0 : Kd.C (Kd.int .i64) w A0 l0.length l0) (hc0 : l0.length ≤ c0) (hr1 : Kd.C (Kd.int .i64) w A1 l1.length l1) (hc1 : l1.length ≤ c1) (hr2 : Kd.C (Kd.int .i64) w A2 l2.length l2) (hc2 : l2.length ≤ c2) (h : lampblackref07_fits.f k l0 l1 l2 a3 a4 = some r) :
  Calls Tryd.prog 73 #[.slice A0 l0.length c0, .slice A1 l1.length c1, .slice A2 l2.length c2, .int .i64 a3, .int .i64 a4] w fun e w' => e = .returned (.bool r) ∧ Drawn0 w w' := by
 have HR0 := Aside0.mk hr0
 have HC0 := Aside0.mk hc0
 clear hr0 hc0
 have HR1 := Aside0.mk hr1
 have HC1 := Aside0.mk hc1
 clear hr1 hc1
 have HR2 := Aside0.mk hr2
 have HC2 := Aside0.mk hc2
 clear hr2 hc2
 have H : (lampblackref07_fits.l0 k l0 l1 l2 a3 a4 a3 0) = some r := h
 clear h
 have H' := Aside0.mk H
 clear H
 go_enter Tryd.func73, Tryd.ntmps73
 go_wp2
 repeat (go_quiet (fail); try go_wp2)
 go_loopg [13] k (fun kq v13 w' => ∃ (x13_1 : Int), v13 = .int .i64 x13_1 ∧ Aside0 (lampblackref07_fits.l0 kq l0 l1 l2 a3 a4 a3 x13_1 = some r) ∧ Aside0 (kq ≤ k) ∧ Drawn0 w w')
 case atStart => exact ⟨(0), (by first | rfl | (simp; done) | (simp [*]; done)), H', ⟨Nat.le_refl _⟩, by repeat (first | exact Drawn0.refl _ | apply Drawn0.step)⟩
 case round =>
  clear H'
  try clear c1
  try clear c2
  try clear p2
  obtain ⟨x13_1, rfl, HA, HK1, ⟨m1, rfl⟩⟩ := hrel
  cases gk with
  | zero => exact absurd HA.out (by simp [lampblackref07_fits.l0])
  | succ k1 =>
   have H := HA.out
   clear HA
   simp only [lampblackref07_fits.l0] at H
   by_cases c6 : x13_1 < a3
   ·rw [if_pos c6] at H
    have c6b0 : decide (x13_1 < a3) = true := decide_eq_true c6
    clear c6
    by_cases c7 : 0 ≤ a3
    ·rw [if_pos c7] at H
     have c7b0 : decide (0 ≤ a3) = true := decide_eq_true c7
     clear c7
     by_cases c8 : a3 < (l1.length : Int)
     ·rw [if_pos c8] at H
      have c8b0 : decide (a3 < (l1.length : Int)) = true := decide_eq_true c8
      clear c8
      by_cases c9 : 0 ≤ x13_1
      ·rw [if_pos c9] at H
       have c9b0 := eq_true c9
       have c9b1 : decide (0 ≤ x13_1) = true := decide_eq_true c9
       clear c9
       obtain ⟨ji10, hji10⟩ : ∃ j_ : Int, (shr .i64 (rd l1 a3) x13_1) = j_ := ⟨_, rfl⟩
       replace H : (if (Go.bits .and .i64 (ji10) 1) = 1 then ((lampblackref02_Around.f k1 l0 a4).bind fun t197 => (if x13_1 < (l2.length : Int) then (if (Go.bits .and .i64 t197 (rd l2 x13_1)) = 0 then (some false) else (lampblackref07_fits.l0 k1 l0 l1 l2 a3 a4 a3 (wrap64 (x13_1 + 1)))) else (none))) else (lampblackref07_fits.l0 k1 l0 l1 l2 a3 a4 a3 (wrap64 (x13_1 + 1)))) = some r := by first | (rw [hji10] at H; exact H) | (simp only [hji10] at H ⊢; exact H)
       have hji10_ : ((rd l1 a3) / 2 ^ min x13_1.toNat 64) = ji10 := hji10
       have hji10z : x13_1 ≤ 64 → ((rd l1 a3) / 2 ^ x13_1.toNat) = ji10 := shr_small hji10
       by_cases c11 : (Go.bits .and .i64 (ji10) 1) = 1
       ·rw [if_pos c11] at H
        have c11b0 : ((Go.bits .and .i64 (ji10) 1) == 1) = true := beq_iff_eq.mpr c11
        have c11b1 : ((Go.bits .and .i64 (ji10) 1) != 1) = false := bne_eq_false_iff_eq.mpr c11
        clear c11
        replace H := Option.bind_eq_some_iff.mp H
        obtain ⟨t197, A120, H⟩ := H
        replace H : (if x13_1 < (l2.length : Int) then (if (Go.bits .and .i64 t197 (rd l2 x13_1)) = 0 then (some false) else (lampblackref07_fits.l0 k1 l0 l1 l2 a3 a4 a3 (wrap64 (x13_1 + 1)))) else (none)) = some r := H
        have A12 := Aside0.mk A120
        clear A120
        by_cases c13 : x13_1 < (l2.length : Int)
        ·rw [if_pos c13] at H
         have c13b0 : decide (x13_1 < (l2.length : Int)) = true := decide_eq_true c13
         clear c13
         by_cases c14 : (Go.bits .and .i64 t197 (rd l2 x13_1)) = 0
         ·rw [if_pos c14] at H
          have c14b0 : ((Go.bits .and .i64 t197 (rd l2 x13_1)) == 0) = true := beq_iff_eq.mpr c14
          have c14b1 : ((Go.bits .and .i64 t197 (rd l2 x13_1)) != 0) = false := bne_eq_false_iff_eq.mpr c14
          clear c14
          obtain rfl := Option.some.inj H
          have p196 : 0 ≤ (a3 : Int) := of_decide_eq_true (by first | (with_reducible assumption) | assumption)
          have q196 : a3 < (l1.length : Int) := of_decide_eq_true (by first | (with_reducible assumption) | assumption)
          obtain ⟨ad196, e196, hx196_0⟩ := Kd.at_int HR1.out a3 p196 q196
          cases e196
          replace p196 := eq_true p196
          replace q196 := eq_true q196
          go_wp2_with (first | (go_at_call 95; (with_reducible refine (lampblackref02_Around.calls k1 _ _ l0 a4 t197 _ ?side1 ?side2 A12.out).mono ?_); (case side1 => exact Qsc HR0.out); (case side2 => exact HC0.out); rintro e w' ⟨rfl, ⟨nd, rfl⟩⟩; (try first | exact ⟨rfl, _, World.drewN_drewN _ _ _⟩ | exact ⟨rfl, _, Eq.trans (World.drewN_drewN _ _ _) (congrArg (World.drewN _) (Nat.add_assoc _ _ _))⟩); have p198 : 0 ≤ (x13_1 : Int) := of_decide_eq_true (by first | (with_reducible assumption) | assumption); have q198 : x13_1 < (l2.length : Int) := of_decide_eq_true (by first | (with_reducible assumption) | assumption); obtain ⟨ad198, e198, hx198_0⟩ := Kd.at_int HR2.out x13_1 p198 q198; cases e198; replace p198 := eq_true p198; replace q198 := eq_true q198))
          repeat (go_quiet (first | (go_at_call 95; (with_reducible refine (lampblackref02_Around.calls k1 _ _ l0 a4 t197 _ ?side1 ?side2 A12.out).mono ?_); (case side1 => exact Qsc HR0.out); (case side2 => exact HC0.out); rintro e w' ⟨rfl, ⟨nd, rfl⟩⟩; (try first | exact ⟨rfl, _, World.drewN_drewN _ _ _⟩ | exact ⟨rfl, _, Eq.trans (World.drewN_drewN _ _ _) (congrArg (World.drewN _) (Nat.add_assoc _ _ _))⟩); have p198 : 0 ≤ (x13_1 : Int) := of_decide_eq_true (by first | (with_reducible assumption) | assumption); have q198 : x13_1 < (l2.length : Int) := of_decide_eq_true (by first | (with_reducible assumption) | assumption); obtain ⟨ad198, e198, hx198_0⟩ := Kd.at_int HR2.out x13_1 p198 q198; cases e198; replace p198 := eq_true p198; replace q198 := eq_true q198)); try go_wp2_with (first | (go_at_call 95; (with_reducible refine (lampblackref02_Around.calls k1 _ _ l0 a4 t197 _ ?side1 ?side2 A12.out).mono ?_); (case side1 => exact Qsc HR0.out); (case side2 => exact HC0.out); rintro e w' ⟨rfl, ⟨nd, rfl⟩⟩; (try first | exact ⟨rfl, _, World.drewN_drewN _ _ _⟩ | exact ⟨rfl, _, Eq.trans (World.drewN_drewN _ _ _) (congrArg (World.drewN _) (Nat.add_assoc _ _ _))⟩); have p198 : 0 ≤ (x13_1 : Int) := of_decide_eq_true (by first | (with_reducible assumption) | assumption); have q198 : x13_1 < (l2.length : Int) := of_decide_eq_true (by first | (with_reducible assumption) | assumption); obtain ⟨ad198, e198, hx198_0⟩ := Kd.at_int HR2.out x13_1 p198 q198; cases e198; replace p198 := eq_true p198; replace q198 := eq_true q198)))
          go_ret
          exact ⟨by first | rfl | (simp; done) | (simp only [← hji10] <;> (first | rfl | simp)) | (simp [*]; done), by repeat (first | exact Drawn0.refl _ | apply Drawn0.step)⟩
         ·rw [if_neg c14] at H
          have c14b0 : ((Go.bits .and .i64 t197 (rd l2 x13_1)) == 0) = false := beq_eq_false_iff_ne.mpr c14
          have c14b1 : ((Go.bits .and .i64 t197 (rd l2 x13_1)) != 0) = true := bne_iff_ne.mpr c14
          have H' := Aside0.mk H
          clear H
          have p196 : 0 ≤ (a3 : Int) := of_decide_eq_true (by first | (with_reducible assumption) | assumption)
          have q196 : a3 < (l1.length : Int) := of_decide_eq_true (by first | (with_reducible assumption) | assumption)
          obtain ⟨ad196, e196, hx196_0⟩ := Kd.at_int HR1.out a3 p196 q196
          cases e196
          replace p196 := eq_true p196
          replace q196 := eq_true q196
          go_wp2_with (first | (go_at_call 95; (with_reducible refine (lampblackref02_Around.calls k1 _ _ l0 a4 t197 _ ?side1 ?side2 A12.out).mono ?_); (case side1 => exact Qsc HR0.out); (case side2 => exact HC0.out); rintro e w' ⟨rfl, ⟨nd, rfl⟩⟩; (try first | exact ⟨rfl, _, World.drewN_drewN _ _ _⟩ | exact ⟨rfl, _, Eq.trans (World.drewN_drewN _ _ _) (congrArg (World.drewN _) (Nat.add_assoc _ _ _))⟩); have p198 : 0 ≤ (x13_1 : Int) := of_decide_eq_true (by first | (with_reducible assumption) | assumption); have q198 : x13_1 < (l2.length : Int) := of_decide_eq_true (by first | (with_reducible assumption) | assumption); obtain ⟨ad198, e198, hx198_0⟩ := Kd.at_int HR2.out x13_1 p198 q198; cases e198; replace p198 := eq_true p198; replace q198 := eq_true q198))
          repeat (go_quiet (first | (go_at_call 95; (with_reducible refine (lampblackref02_Around.calls k1 _ _ l0 a4 t197 _ ?side1 ?side2 A12.out).mono ?_); (case side1 => exact Qsc HR0.out); (case side2 => exact HC0.out); rintro e w' ⟨rfl, ⟨nd, rfl⟩⟩; (try first | exact ⟨rfl, _, World.drewN_drewN _ _ _⟩ | exact ⟨rfl, _, Eq.trans (World.drewN_drewN _ _ _) (congrArg (World.drewN _) (Nat.add_assoc _ _ _))⟩); have p198 : 0 ≤ (x13_1 : Int) := of_decide_eq_true (by first | (with_reducible assumption) | assumption); have q198 : x13_1 < (l2.length : Int) := of_decide_eq_true (by first | (with_reducible assumption) | assumption); obtain ⟨ad198, e198, hx198_0⟩ := Kd.at_int HR2.out x13_1 p198 q198; cases e198; replace p198 := eq_true p198; replace q198 := eq_true q198)); try go_wp2_with (first | (go_at_call 95; (with_reducible refine (lampblackref02_Around.calls k1 _ _ l0 a4 t197 _ ?side1 ?side2 A12.out).mono ?_); (case side1 => exact Qsc HR0.out); (case side2 => exact HC0.out); rintro e w' ⟨rfl, ⟨nd, rfl⟩⟩; (try first | exact ⟨rfl, _, World.drewN_drewN _ _ _⟩ | exact ⟨rfl, _, Eq.trans (World.drewN_drewN _ _ _) (congrArg (World.drewN _) (Nat.add_assoc _ _ _))⟩); have p198 : 0 ≤ (x13_1 : Int) := of_decide_eq_true (by first | (with_reducible assumption) | assumption); have q198 : x13_1 < (l2.length : Int) := of_decide_eq_true (by first | (with_reducible assumption) | assumption); obtain ⟨ad198, e198, hx198_0⟩ := Kd.at_int HR2.out x13_1 p198 q198; cases e198; replace p198 := eq_true p198; replace q198 := eq_true q198)))
          go_roundg k1
          case measure => have := HK1.out; omega
          case rel => exact ⟨(wrap64 (x13_1 + 1)), (by first | rfl | (simp; done) | (simp [*]; done)), H', ⟨by have := HK1.out; omega⟩, by repeat (first | exact Drawn0.refl _ | apply Drawn0.step)⟩
        ·rw [if_neg c13] at H
         exact absurd H (by simp)
       ·rw [if_neg c11] at H
        have c11b0 : ((Go.bits .and .i64 (ji10) 1) == 1) = false := beq_eq_false_iff_ne.mpr c11
        have c11b1 : ((Go.bits .and .i64 (ji10) 1) != 1) = true := bne_iff_ne.mpr c11
        have H' := Aside0.mk H
        clear H
        have p196 : 0 ≤ (a3 : Int) := of_decide_eq_true (by first | (with_reducible assumption) | assumption)
        have q196 : a3 < (l1.length : Int) := of_decide_eq_true (by first | (with_reducible assumption) | assumption)
        obtain ⟨ad196, e196, hx196_0⟩ := Kd.at_int HR1.out a3 p196 q196
        cases e196
        replace p196 := eq_true p196
        replace q196 := eq_true q196
        go_wp2
        repeat (go_quiet (fail); try go_wp2)
        go_roundg k1
        case measure => have := HK1.out; omega
        case rel => exact ⟨(wrap64 (x13_1 + 1)), (by first | rfl | (simp; done) | (simp [*]; done)), H', ⟨by have := HK1.out; omega⟩, by repeat (first | exact Drawn0.refl _ | apply Drawn0.step)⟩
      ·rw [if_neg c9] at H
       exact absurd H (by simp)
     ·rw [if_neg c8] at H
      exact absurd H (by simp)
    ·rw [if_neg c7] at H
     exact absurd H (by simp)
   ·rw [if_neg c6] at H
    have c6b0 : decide (x13_1 < a3) = false := decide_eq_false c6
    clear c6
    obtain rfl := Option.some.inj H
    go_wp2
    repeat (go_quiet (fail); try go_wp2)
    go_ret
    exact ⟨by first | rfl | (simp; done) | (simp [*]; done), by repeat (first | exact Drawn0.refl _ | apply Drawn0.step)⟩
end Go.Proofs.YtjloppfdagfpmaaDoor.X
end
section
namespace Go.Proofs.YtjloppfdagfpmaaDoor.X
open Go.RowKit YtjloppfdagfpmaaDoorW.PrintWords YtjloppfdagfpmaaDoorW.PrintLast YtjloppfdagfpmaaDoorW.PrintMore
attribute [local go_sem] max2_int min2_int max_two min_two max_three min_three max_four min_four
/-! ### lampblackref07_IsModel: function 28 -/
def lampblackref07_IsModel.l0 : Nat → List Int → List Int → List Int → Int → List Int → Int → Int → Option (Bool)
 | 0, _, _, _, _, _, _, _ => none
 | k + 1, x0, x1, x2, x7, x10, x11, x12 => if x12 < x11 then (if 0 ≤ x12 then (if x12 < (x10.length : Int) then (if x12 ≥ (x1.length : Int) then (some false) else ((lampblackref02_Connected.f k x0 (rd x10 x12)).bind fun t203 => (if t203 = true then (if (Go.bits .and .i64 x7 (rd x10 x12)) = 0 then ((lampblackref07_fits.f k x0 x1 x2 x12 (rd x10 x12)).bind fun t204 => (if t204 = true then (lampblackref07_IsModel.l0 k x0 x1 x2 (Go.bits .or .i64 x7 (rd x10 x12)) x10 x11 (wrap64 (x12 + 1))) else (some false))) else (some false)) else (some false)))) else (none)) else (none)) else (some ((x2.length : Int) == (x1.length : Int)))
def lampblackref07_IsModel.f (k : Nat) (l0 : List Int) (l1 : List Int) (l2 : List Int) : Option (Bool) := lampblackref07_IsModel.l0 k l0 l1 l2 0 l2 (l2.length : Int) 0
set_option maxHeartbeats 8000000 in
set_option maxRecDepth 100000 in
theorem lampblackref07_IsModel.calls (k : Nat) (A0 : Option Addr) (c0 : Nat) (l0 : List Int) (A1 : Option Addr) (c1 : Nat) (l1 : List Int) (A2 : Option Addr) (c2 : Nat) (l2 : List Int) (r : Bool) (w : World) (hr0 : Kd.C (Kd.int .i64) w A0 l0.length l0) (hc0 : l0.length ≤ c0) (hr1 : Kd.C (Kd.int .i64) w A1 l1.length l1) (hc1 : l1.length ≤ c1) (hr2 : Kd.C (Kd.int .i64) w A2 l2.length l2) (hc2 : l2.length ≤ c2) (h : lampblackref07_IsModel.f k l0 l1 l2 = some r) :
  Calls Tryd.prog 28 #[.slice A0 l0.length c0, .slice A1 l1.length c1, .slice A2 l2.length c2] w fun e w' => e = .returned (.bool r) ∧ Drawn0 w w' := by
 have HR0 := Aside0.mk hr0
 have HC0 := Aside0.mk hc0
 clear hr0 hc0
 have HR1 := Aside0.mk hr1
 have HC1 := Aside0.mk hc1
 clear hr1 hc1
 have HR2 := Aside0.mk hr2
 have HC2 := Aside0.mk hc2
 clear hr2 hc2
 have H : (lampblackref07_IsModel.l0 k l0 l1 l2 0 l2 (l2.length : Int) 0) = some r := h
 clear h
 have H' := Aside0.mk H
 clear H
 go_enter Tryd.func28, Tryd.ntmps28
 go_wp2
 go_loopg [7, 12] k (fun kq v7 v12 w' => ∃ (x7_1 : Int) (x12_1 : Int), v7 = .int .i64 x7_1 ∧ v12 = .int .i64 x12_1 ∧ Aside0 (lampblackref07_IsModel.l0 kq l0 l1 l2 x7_1 l2 (l2.length : Int) x12_1 = some r) ∧ Aside0 (kq ≤ k) ∧ Drawn0 w w')
 case atStart => exact ⟨(0), (0), (by first | rfl | (simp; done) | (simp [*]; done)), (by first | rfl | (simp; done) | (simp [*]; done)), H', ⟨Nat.le_refl _⟩, by repeat (first | exact Drawn0.refl _ | apply Drawn0.step)⟩
 case round =>
  clear H'
  try clear c1
  try clear c2
  try clear p2
  obtain ⟨x7_1, x12_1, rfl, rfl, HA, HK1, ⟨m1, rfl⟩⟩ := hrel
  cases gk with
  | zero => exact absurd HA.out (by simp [lampblackref07_IsModel.l0])
  | succ k1 =>
   have H := HA.out
   clear HA
   simp only [lampblackref07_IsModel.l0] at H
   by_cases c4 : x12_1 < (l2.length : Int)
   ·rw [if_pos c4] at H
    have c4b0 : decide (x12_1 < (l2.length : Int)) = true := decide_eq_true c4
    clear c4
    by_cases c5 : 0 ≤ x12_1
    ·rw [if_pos c5] at H
     have c5b0 : decide (0 ≤ x12_1) = true := decide_eq_true c5
     clear c5
     by_cases c6 : x12_1 < (l2.length : Int)
     ·rw [if_pos c6] at H
      have c6b0 : decide (x12_1 < (l2.length : Int)) = true := decide_eq_true c6
      clear c6
      by_cases c7 : x12_1 ≥ (l1.length : Int)
      ·rw [if_pos c7] at H
       have c7b0 : decide ((l1.length : Int) ≤ x12_1) = true := decide_eq_true c7
       clear c7
       obtain rfl := Option.some.inj H
       have p202 : 0 ≤ (x12_1 : Int) := of_decide_eq_true (by first | (with_reducible assumption) | assumption)
       have q202 : x12_1 < (l2.length : Int) := of_decide_eq_true (by first | (with_reducible assumption) | assumption)
       obtain ⟨ad202, e202, hx202_0⟩ := Kd.at_int HR2.out x12_1 p202 q202
       cases e202
       replace p202 := eq_true p202
       replace q202 := eq_true q202
       go_wp2
       go_ret
       exact ⟨by first | rfl | (simp; done) | (simp [*]; done), by repeat (first | exact Drawn0.refl _ | apply Drawn0.step)⟩
      ·rw [if_neg c7] at H
       have c7b0 : decide ((l1.length : Int) ≤ x12_1) = false := decide_eq_false c7
       clear c7
       replace H := Option.bind_eq_some_iff.mp H
       obtain ⟨t203, A80, H⟩ := H
       replace H : (if t203 = true then (if (Go.bits .and .i64 x7_1 (rd l2 x12_1)) = 0 then ((lampblackref07_fits.f k1 l0 l1 l2 x12_1 (rd l2 x12_1)).bind fun t204 => (if t204 = true then (lampblackref07_IsModel.l0 k1 l0 l1 l2 (Go.bits .or .i64 x7_1 (rd l2 x12_1)) l2 (l2.length : Int) (wrap64 (x12_1 + 1))) else (some false))) else (some false)) else (some false)) = some r := H
       have A8 := Aside0.mk A80
       clear A80
       by_cases c9 : t203 = true
       ·subst c9
        have H1 : (if (Go.bits .and .i64 x7_1 (rd l2 x12_1)) = 0 then ((lampblackref07_fits.f k1 l0 l1 l2 x12_1 (rd l2 x12_1)).bind fun t204 => (if t204 = true then (lampblackref07_IsModel.l0 k1 l0 l1 l2 (Go.bits .or .i64 x7_1 (rd l2 x12_1)) l2 (l2.length : Int) (wrap64 (x12_1 + 1))) else (some false))) else (some false)) = some r := by rw [if_pos rfl] at H; exact H
        clear H
        have H := H1
        clear H1
        by_cases c10 : (Go.bits .and .i64 x7_1 (rd l2 x12_1)) = 0
        ·rw [if_pos c10] at H
         have c10b0 : ((Go.bits .and .i64 x7_1 (rd l2 x12_1)) == 0) = true := beq_iff_eq.mpr c10
         have c10b1 : ((Go.bits .and .i64 x7_1 (rd l2 x12_1)) != 0) = false := bne_eq_false_iff_eq.mpr c10
         clear c10
         replace H := Option.bind_eq_some_iff.mp H
         obtain ⟨t204, A110, H⟩ := H
         replace H : (if t204 = true then (lampblackref07_IsModel.l0 k1 l0 l1 l2 (Go.bits .or .i64 x7_1 (rd l2 x12_1)) l2 (l2.length : Int) (wrap64 (x12_1 + 1))) else (some false)) = some r := H
         have A11 := Aside0.mk A110
         clear A110
         by_cases c12 : t204 = true
         ·subst c12
          have H1 : (lampblackref07_IsModel.l0 k1 l0 l1 l2 (Go.bits .or .i64 x7_1 (rd l2 x12_1)) l2 (l2.length : Int) (wrap64 (x12_1 + 1))) = some r := by rw [if_pos rfl] at H; exact H
          clear H
          have H := H1
          clear H1
          have H' := Aside0.mk H
          clear H
          have p202 : 0 ≤ (x12_1 : Int) := of_decide_eq_true (by first | (with_reducible assumption) | assumption)
          have q202 : x12_1 < (l2.length : Int) := of_decide_eq_true (by first | (with_reducible assumption) | assumption)
          obtain ⟨ad202, e202, hx202_0⟩ := Kd.at_int HR2.out x12_1 p202 q202
          cases e202
          replace p202 := eq_true p202
          replace q202 := eq_true q202
          go_wp2_with (first | (go_at_call 18; (with_reducible refine (lampblackref02_Connected.calls k1 _ _ l0 (rd l2 x12_1) true _ ?side1 ?side2 A8.out).mono ?_); (case side1 => exact Qsc HR0.out); (case side2 => exact HC0.out); rintro e w' ⟨rfl, ⟨nd, rfl⟩⟩) | (go_at_call 73; (with_reducible refine (lampblackref07_fits.calls k1 _ _ l0 _ _ l1 _ _ l2 x12_1 (rd l2 x12_1) true _ ?side1 ?side2 ?side3 ?side4 ?side5 ?side6 A11.out).mono ?_); (case side1 => exact Qsc HR0.out); (case side2 => exact HC0.out); (case side3 => exact Qsc HR1.out); (case side4 => exact HC1.out); (case side5 => exact Qsc HR2.out); (case side6 => exact HC2.out); rintro e w' ⟨rfl, ⟨nd, rfl⟩⟩))
          go_roundg k1
          case measure => have := HK1.out; omega
          case rel => exact ⟨(Go.bits .or .i64 x7_1 (rd l2 x12_1)), (wrap64 (x12_1 + 1)), (by first | rfl | (simp; done) | (simp [*]; done)), (by first | rfl | (simp; done) | (simp [*]; done)), H', ⟨by have := HK1.out; omega⟩, by repeat (first | exact Drawn0.refl _ | apply Drawn0.step)⟩
         ·replace c12 := Bool.eq_false_iff.mpr c12
          subst c12
          have H1 : (some false) = some r := by rw [if_neg (show ¬ (false = true) by decide)] at H; exact H
          clear H
          have H := H1
          clear H1
          obtain rfl := Option.some.inj H
          have p202 : 0 ≤ (x12_1 : Int) := of_decide_eq_true (by first | (with_reducible assumption) | assumption)
          have q202 : x12_1 < (l2.length : Int) := of_decide_eq_true (by first | (with_reducible assumption) | assumption)
          obtain ⟨ad202, e202, hx202_0⟩ := Kd.at_int HR2.out x12_1 p202 q202
          cases e202
          replace p202 := eq_true p202
          replace q202 := eq_true q202
          go_wp2_with (first | (go_at_call 18; (with_reducible refine (lampblackref02_Connected.calls k1 _ _ l0 (rd l2 x12_1) true _ ?side1 ?side2 A8.out).mono ?_); (case side1 => exact Qsc HR0.out); (case side2 => exact HC0.out); rintro e w' ⟨rfl, ⟨nd, rfl⟩⟩) | (go_at_call 73; (with_reducible refine (lampblackref07_fits.calls k1 _ _ l0 _ _ l1 _ _ l2 x12_1 (rd l2 x12_1) false _ ?side1 ?side2 ?side3 ?side4 ?side5 ?side6 A11.out).mono ?_); (case side1 => exact Qsc HR0.out); (case side2 => exact HC0.out); (case side3 => exact Qsc HR1.out); (case side4 => exact HC1.out); (case side5 => exact Qsc HR2.out); (case side6 => exact HC2.out); rintro e w' ⟨rfl, ⟨nd, rfl⟩⟩))
          go_ret
          exact ⟨by first | rfl | (simp; done) | (simp [*]; done), by repeat (first | exact Drawn0.refl _ | apply Drawn0.step)⟩
        ·rw [if_neg c10] at H
         have c10b0 : ((Go.bits .and .i64 x7_1 (rd l2 x12_1)) == 0) = false := beq_eq_false_iff_ne.mpr c10
         have c10b1 : ((Go.bits .and .i64 x7_1 (rd l2 x12_1)) != 0) = true := bne_iff_ne.mpr c10
         obtain rfl := Option.some.inj H
         have p202 : 0 ≤ (x12_1 : Int) := of_decide_eq_true (by first | (with_reducible assumption) | assumption)
         have q202 : x12_1 < (l2.length : Int) := of_decide_eq_true (by first | (with_reducible assumption) | assumption)
         obtain ⟨ad202, e202, hx202_0⟩ := Kd.at_int HR2.out x12_1 p202 q202
         cases e202
         replace p202 := eq_true p202
         replace q202 := eq_true q202
         go_wp2_with (first | (go_at_call 18; (with_reducible refine (lampblackref02_Connected.calls k1 _ _ l0 (rd l2 x12_1) true _ ?side1 ?side2 A8.out).mono ?_); (case side1 => exact Qsc HR0.out); (case side2 => exact HC0.out); rintro e w' ⟨rfl, ⟨nd, rfl⟩⟩))
         go_ret
         exact ⟨by first | rfl | (simp; done) | (simp [*]; done), by repeat (first | exact Drawn0.refl _ | apply Drawn0.step)⟩
       ·replace c9 := Bool.eq_false_iff.mpr c9
        subst c9
        have H1 : (some false) = some r := by rw [if_neg (show ¬ (false = true) by decide)] at H; exact H
        clear H
        have H := H1
        clear H1
        obtain rfl := Option.some.inj H
        have p202 : 0 ≤ (x12_1 : Int) := of_decide_eq_true (by first | (with_reducible assumption) | assumption)
        have q202 : x12_1 < (l2.length : Int) := of_decide_eq_true (by first | (with_reducible assumption) | assumption)
        obtain ⟨ad202, e202, hx202_0⟩ := Kd.at_int HR2.out x12_1 p202 q202
        cases e202
        replace p202 := eq_true p202
        replace q202 := eq_true q202
        go_wp2_with (first | (go_at_call 18; (with_reducible refine (lampblackref02_Connected.calls k1 _ _ l0 (rd l2 x12_1) false _ ?side1 ?side2 A8.out).mono ?_); (case side1 => exact Qsc HR0.out); (case side2 => exact HC0.out); rintro e w' ⟨rfl, ⟨nd, rfl⟩⟩))
        go_ret
        exact ⟨by first | rfl | (simp; done) | (simp [*]; done), by repeat (first | exact Drawn0.refl _ | apply Drawn0.step)⟩
     ·rw [if_neg c6] at H
      exact absurd H (by simp)
    ·rw [if_neg c5] at H
     exact absurd H (by simp)
   ·rw [if_neg c4] at H
    have c4b0 : decide (x12_1 < (l2.length : Int)) = false := decide_eq_false c4
    clear c4
    obtain rfl := Option.some.inj H
    go_wp2
    go_ret
    exact ⟨by first | rfl | (simp; done) | (simp [*]; done), by repeat (first | exact Drawn0.refl _ | apply Drawn0.step)⟩
end Go.Proofs.YtjloppfdagfpmaaDoor.X
end
section
namespace Go.Proofs.YtjloppfdagfpmaaDoor.X
open Go.RowKit YtjloppfdagfpmaaDoorW.PrintWords YtjloppfdagfpmaaDoorW.PrintLast YtjloppfdagfpmaaDoorW.PrintMore
attribute [local go_sem] max2_int min2_int max_two min_two max_three min_three max_four min_four
/-! ### lampblackref01_IsGraph: function 61 -/
mutual
def lampblackref01_IsGraph.l0 : Nat → List Int → Int → List Int → Int → Int → Option (Bool)
 | 0, _, _, _, _, _ => none
 | k + 1, x0, x1, x8, x9, x10 => if x10 < x9 then (if 0 ≤ x10 then (if x10 < (x8.length : Int) then (if (x0.length : Int) > x1 then (lampblackref01_IsGraph.j1 k x0 x1 x10 (rd x8 x10) x8 x9 x10 true) else (if (rd x8 x10) < 0 then (lampblackref01_IsGraph.j1 k x0 x1 x10 (rd x8 x10) x8 x9 x10 true) else (if (rd x8 x10) ≥ (shl .i64 1 (x0.length : Int)) then (lampblackref01_IsGraph.j1 k x0 x1 x10 (rd x8 x10) x8 x9 x10 true) else (lampblackref01_IsGraph.j1 k x0 x1 x10 (rd x8 x10) x8 x9 x10 ((Go.bits .and .i64 (shr .i64 (rd x8 x10) x10) 1) == 1))))) else (none)) else (none)) else (if (x0.length : Int) ≥ 1 then (some (decide ((x0.length : Int) ≤ x1))) else (some false))
def lampblackref01_IsGraph.j1 : Nat → List Int → Int → Int → Int → List Int → Int → Int → Bool → Option (Bool)
 | 0, _, _, _, _, _, _, _, _ => none
 | k + 1, x0, x1, x5, x6, x8, x9, x10, x36 => if x36 = true then (some false) else (lampblackref01_IsGraph.l1 k x0 x1 x5 x6 x8 x9 x10 (x0.length : Int) 0)
def lampblackref01_IsGraph.l1 : Nat → List Int → Int → Int → Int → List Int → Int → Int → Int → Int → Option (Bool)
 | 0, _, _, _, _, _, _, _, _, _ => none
 | k + 1, x0, x1, x5, x6, x8, x9, x10, x38, x39 => if x39 < x38 then (if 0 ≤ x39 then (if x39 < (x0.length : Int) then (if 0 ≤ x5 then (if (Go.bits .and .i64 (shr .i64 x6 x39) 1) = (Go.bits .and .i64 (shr .i64 (rd x0 x39) x5) 1) then (lampblackref01_IsGraph.l1 k x0 x1 x5 x6 x8 x9 x10 x38 (wrap64 (x39 + 1))) else (some false)) else (none)) else (none)) else (none)) else (lampblackref01_IsGraph.l0 k x0 x1 x8 x9 (wrap64 (x10 + 1)))
end
def lampblackref01_IsGraph.f (k : Nat) (l0 : List Int) (a1 : Int) : Option (Bool) := lampblackref01_IsGraph.l0 k l0 a1 l0 (l0.length : Int) 0
set_option maxHeartbeats 8000000 in
set_option maxRecDepth 100000 in
theorem lampblackref01_IsGraph.calls (k : Nat) (A0 : Option Addr) (c0 : Nat) (l0 : List Int) (a1 : Int) (r : Bool) (w : World) (hr0 : Kd.C (Kd.int .i64) w A0 l0.length l0) (hc0 : l0.length ≤ c0) (h : lampblackref01_IsGraph.f k l0 a1 = some r) :
  Calls Tryd.prog 61 #[.slice A0 l0.length c0, .int .i64 a1] w fun e w' => e = .returned (.bool r) ∧ Drawn0 w w' := by
 have HR0 := Aside0.mk hr0
 have HC0 := Aside0.mk hc0
 clear hr0 hc0
 have H : (lampblackref01_IsGraph.l0 k l0 a1 l0 (l0.length : Int) 0) = some r := h
 clear h
 have H' := Aside0.mk H
 clear H
 go_enter Tryd.func61, Tryd.ntmps61
 go_wp2
 repeat (go_quiet (fail); try go_wp2)
 go_loopg [10] k (fun kq v10 w' => ∃ (x10_1 : Int), v10 = .int .i64 x10_1 ∧ Aside0 (lampblackref01_IsGraph.l0 kq l0 a1 l0 (l0.length : Int) x10_1 = some r) ∧ Aside0 (kq ≤ k) ∧ Drawn0 w w')
 case atStart => exact ⟨(0), (by first | rfl | (simp; done) | (simp [*]; done)), H', ⟨Nat.le_refl _⟩, by repeat (first | exact Drawn0.refl _ | apply Drawn0.step)⟩
 case round =>
  clear H'
  try clear p2
  obtain ⟨x10_1, rfl, HA, HK1, ⟨m1, rfl⟩⟩ := hrel
  cases gk with
  | zero => exact absurd HA.out (by simp [lampblackref01_IsGraph.l0])
  | succ k1 =>
   have H := HA.out
   clear HA
   simp only [lampblackref01_IsGraph.l0] at H
   by_cases c3 : x10_1 < (l0.length : Int)
   ·rw [if_pos c3] at H
    have c3b0 : decide (x10_1 < (l0.length : Int)) = true := decide_eq_true c3
    clear c3
    by_cases c4 : 0 ≤ x10_1
    ·rw [if_pos c4] at H
     have c4b0 : decide (0 ≤ x10_1) = true := decide_eq_true c4
     clear c4
     by_cases c5 : x10_1 < (l0.length : Int)
     ·rw [if_pos c5] at H
      have c5b0 : decide (x10_1 < (l0.length : Int)) = true := decide_eq_true c5
      clear c5
      have HC6 := Aside0.mk H
      clear H
      have p101 : 0 ≤ (x10_1 : Int) := of_decide_eq_true (by first | (with_reducible assumption) | assumption)
      have q101 : x10_1 < (l0.length : Int) := of_decide_eq_true (by first | (with_reducible assumption) | assumption)
      obtain ⟨ad101, e101, hx101_0⟩ := Kd.at_int HR0.out x10_1 p101 q101
      cases e101
      replace p101 := eq_true p101
      replace q101 := eq_true q101
      go_upto_region 4 with (fail)
      repeat (go_quiet (fail); go_upto_region 4 with (fail))
      go_cut [36] (fun v36 wc => ∃ (kq : Nat) (x36_5 : Bool), v36 = .bool x36_5 ∧ Aside0 (lampblackref01_IsGraph.j1 kq l0 a1 x10_1 (rd l0 x10_1) l0 (l0.length : Int) x10_1 x36_5 = some r) ∧ Aside0 (kq ≤ k1) ∧ Drawn0 w wc)
      case first =>
       have H := HC6.out
       clear HC6
       by_cases c7 : (l0.length : Int) > a1
       ·rw [if_pos c7] at H
        have c7b0 : decide (a1 < (l0.length : Int)) = true := decide_eq_true c7
        clear c7
        (first | rw [c7b0] | (simp only [i64_w, i32_w]; rw [c7b0]) | skip)
        have H' := Aside0.mk H
        clear H
        go_wp2
        repeat (go_quiet (fail); try go_wp2)
        go_meet
        case rel => exact ⟨_, (true), (by first | rfl | (simp; done) | (simp [*]; done)), H', ⟨by have := HK1.out; first | omega | exact Nat.le_refl _⟩, by repeat (first | exact Drawn0.refl _ | apply Drawn0.step)⟩
       ·rw [if_neg c7] at H
        have c7b0 : decide (a1 < (l0.length : Int)) = false := decide_eq_false c7
        clear c7
        (first | rw [c7b0] | (simp only [i64_w, i32_w]; rw [c7b0]) | skip)
        by_cases c8 : (rd l0 x10_1) < 0
        ·rw [if_pos c8] at H
         have c8b0 : decide ((rd l0 x10_1) < 0) = true := decide_eq_true c8
         clear c8
         have H' := Aside0.mk H
         clear H
         go_wp2
         repeat (go_quiet (fail); try go_wp2)
         go_meet
         case rel => exact ⟨_, (true), (by first | rfl | (simp; done) | (simp [*]; done)), H', ⟨by have := HK1.out; first | omega | exact Nat.le_refl _⟩, by repeat (first | exact Drawn0.refl _ | apply Drawn0.step)⟩
        ·rw [if_neg c8] at H
         have c8b0 : decide ((rd l0 x10_1) < 0) = false := decide_eq_false c8
         clear c8
         obtain ⟨ji9, hji9⟩ : ∃ j_ : Int, (shl .i64 1 (l0.length : Int)) = j_ := ⟨_, rfl⟩
         replace H : (if (rd l0 x10_1) ≥ (ji9) then (lampblackref01_IsGraph.j1 k1 l0 a1 x10_1 (rd l0 x10_1) l0 (l0.length : Int) x10_1 true) else (lampblackref01_IsGraph.j1 k1 l0 a1 x10_1 (rd l0 x10_1) l0 (l0.length : Int) x10_1 ((Go.bits .and .i64 (shr .i64 (rd l0 x10_1) x10_1) 1) == 1))) = some r := by first | (rw [hji9] at H; exact H) | (simp only [hji9] at H ⊢; exact H)
         have hji9_ : (IntKind.i64.wrap (1 * 2 ^ min (l0.length : Int).toNat 64)) = ji9 := hji9
         have hji9z : (l0.length : Int) ≤ 64 → (IntKind.i64.wrap (1 * 2 ^ (l0.length : Int).toNat)) = ji9 := shl_small hji9
         have hji9p : (IntKind.i64.wrap (1 * 2 ^ min l0.length 64)) = ji9 := hji9_
         have hji9q : (l0.length : Int) ≤ 64 → (IntKind.i64.wrap (1 * 2 ^ l0.length)) = ji9 := hji9z
         have hji9r : (IntKind.i64.wrap (2 ^ min l0.length 64)) = ji9 := by have h_ := hji9p; rw [Int.one_mul] at h_; exact h_
         have hji9s : (l0.length : Int) ≤ 64 → (IntKind.i64.wrap (2 ^ l0.length)) = ji9 := fun hle_ => by have h_ := hji9q hle_; rw [Int.one_mul] at h_; exact h_
         have hji9u : (IntKind.i64.wrap (2 ^ min (l0.length : Int).toNat 64)) = ji9 := by have h_ := hji9_; rw [Int.one_mul] at h_; exact h_
         have hji9v : (l0.length : Int) ≤ 64 → (IntKind.i64.wrap (2 ^ (l0.length : Int).toNat)) = ji9 := fun hle_ => by have h_ := hji9z hle_; rw [Int.one_mul] at h_; exact h_
         have hji9y : (wrap64 (1 * 2 ^ min (l0.length : Int).toNat 64)) = ji9 := (i64_w _).symm.trans hji9_
         have hji9x : (l0.length : Int) ≤ 64 → (wrap64 (1 * 2 ^ (l0.length : Int).toNat)) = ji9 := fun h_ => (i64_w _).symm.trans (hji9z h_)
         by_cases c10 : (rd l0 x10_1) ≥ (ji9)
         ·rw [if_pos c10] at H
          have c10b0 : decide ((ji9) ≤ (rd l0 x10_1)) = true := decide_eq_true c10
          clear c10
          have H' := Aside0.mk H
          clear H
          go_wp2
          repeat (go_quiet (fail); try go_wp2)
          go_meet
          case rel => exact ⟨_, (true), (by first | rfl | (simp; done) | (simp [*]; done)), H', ⟨by have := HK1.out; first | omega | exact Nat.le_refl _⟩, by repeat (first | exact Drawn0.refl _ | apply Drawn0.step)⟩
         ·rw [if_neg c10] at H
          have c10b0 : decide ((ji9) ≤ (rd l0 x10_1)) = false := decide_eq_false c10
          clear c10
          have c11b0 := eq_true (of_decide_eq_true (by first | (with_reducible assumption) | assumption) : 0 ≤ x10_1)
          obtain ⟨ji12, hji12⟩ : ∃ j_ : Int, (shr .i64 (rd l0 x10_1) x10_1) = j_ := ⟨_, rfl⟩
          replace H : (lampblackref01_IsGraph.j1 k1 l0 a1 x10_1 (rd l0 x10_1) l0 (l0.length : Int) x10_1 ((Go.bits .and .i64 (ji12) 1) == 1)) = some r := by first | (rw [hji12] at H; exact H) | (simp only [hji12] at H ⊢; exact H)
          have hji12_ : ((rd l0 x10_1) / 2 ^ min x10_1.toNat 64) = ji12 := hji12
          have hji12z : x10_1 ≤ 64 → ((rd l0 x10_1) / 2 ^ x10_1.toNat) = ji12 := shr_small hji12
          have H' := Aside0.mk H
          clear H
          go_wp2
          repeat (go_quiet (fail); try go_wp2)
          go_meet
          case rel => exact ⟨_, (((Go.bits .and .i64 (ji12) 1) == 1)), (by first | rfl | (simp; done) | (simp only [← hji12] <;> (first | rfl | simp)) | (simp [*]; done)), H', ⟨by have := HK1.out; first | omega | exact Nat.le_refl _⟩, by repeat (first | exact Drawn0.refl _ | apply Drawn0.step)⟩
      case rest =>
       clear HC6
       try clear c1
       try clear p1
       try clear q1
       try clear hx1
       try clear p2
       try clear c3
       try clear c3b0
       try clear c4
       try clear c4b0
       try clear c5
       try clear c5b0
       try clear c6
       try clear p6
       try clear c7
       try clear c7b0
       try clear c8
       try clear c8b0
       try clear c10
       try clear c10b0
       try clear p10
       try clear q10
       try clear hx10
       try clear c11
       try clear c11b0
       try clear hx101_0
       try clear p101
       try clear p2
       try clear q101
       obtain ⟨kq, x36_5, rfl, HA, HJ5, ⟨mc5, rfl⟩⟩ := hcut
       cases kq with
       | zero => exact absurd HA.out (by simp [lampblackref01_IsGraph.j1])
       | succ kj5 =>
        have H := HA.out
        clear HA
        simp only [lampblackref01_IsGraph.j1] at H
        by_cases c13 : x36_5 = true
        ·subst c13
         have H1 : (some false) = some r := by rw [if_pos rfl] at H; exact H
         clear H
         have H := H1
         clear H1
         obtain rfl := Option.some.inj H
         go_wp2
         repeat (go_quiet (fail); try go_wp2)
         go_ret
         exact ⟨by first | rfl | (simp; done) | (simp [*]; done), by repeat (first | exact Drawn0.refl _ | apply Drawn0.step)⟩
        ·replace c13 := Bool.eq_false_iff.mpr c13
         subst c13
         have H1 : (lampblackref01_IsGraph.l1 kj5 l0 a1 x10_1 (rd l0 x10_1) l0 (l0.length : Int) x10_1 (l0.length : Int) 0) = some r := by rw [if_neg (show ¬ (false = true) by decide)] at H; exact H
         clear H
         have H := H1
         clear H1
         have H' := Aside0.mk H
         clear H
         go_wp2
         repeat (go_quiet (fail); try go_wp2)
         go_loopg [39] kj5 (fun kq v39 w' => ∃ (x39_3 : Int), v39 = .int .i64 x39_3 ∧ Aside0 (lampblackref01_IsGraph.l1 kq l0 a1 x10_1 (rd l0 x10_1) l0 (l0.length : Int) x10_1 (l0.length : Int) x39_3 = some r) ∧ Aside0 (kq ≤ kj5) ∧ Drawn0 w w')
         case atStart => exact ⟨(0), (by first | rfl | (simp; done) | (simp [*]; done)), H', ⟨Nat.le_refl _⟩, by repeat (first | exact Drawn0.refl _ | apply Drawn0.step)⟩
         case round =>
          clear H'
          try clear c1
          try clear p1
          try clear q1
          try clear hx1
          try clear p2
          try clear c3
          try clear c3b0
          try clear c4
          try clear c4b0
          try clear c5
          try clear c5b0
          try clear c6
          try clear p6
          try clear c7
          try clear c7b0
          try clear c8
          try clear c8b0
          try clear c10
          try clear c10b0
          try clear p10
          try clear q10
          try clear hx10
          try clear c11
          try clear c11b0
          try clear c13
          try clear hx101_0
          try clear p1
          try clear p10
          try clear p101
          try clear p2
          try clear p6
          try clear q1
          try clear q10
          try clear q101
          obtain ⟨x39_3, rfl, HA, HK3, ⟨m3, rfl⟩⟩ := hrel
          cases gk with
          | zero => exact absurd HA.out (by simp [lampblackref01_IsGraph.l1])
          | succ k3 =>
           have H := HA.out
           clear HA
           simp only [lampblackref01_IsGraph.l1] at H
           by_cases c14 : x39_3 < (l0.length : Int)
           ·rw [if_pos c14] at H
            have c14b0 : decide (x39_3 < (l0.length : Int)) = true := decide_eq_true c14
            clear c14
            by_cases c15 : 0 ≤ x39_3
            ·rw [if_pos c15] at H
             have c15b0 := eq_true c15
             have c15b1 : decide (0 ≤ x39_3) = true := decide_eq_true c15
             clear c15
             obtain ⟨ji16, hji16⟩ : ∃ j_ : Int, (shr .i64 (rd l0 x10_1) x39_3) = j_ := ⟨_, rfl⟩
             replace H : (if x39_3 < (l0.length : Int) then (if 0 ≤ x10_1 then (if (Go.bits .and .i64 (ji16) 1) = (Go.bits .and .i64 (shr .i64 (rd l0 x39_3) x10_1) 1) then (lampblackref01_IsGraph.l1 k3 l0 a1 x10_1 (rd l0 x10_1) l0 (l0.length : Int) x10_1 (l0.length : Int) (wrap64 (x39_3 + 1))) else (some false)) else (none)) else (none)) = some r := by first | (rw [hji16] at H; exact H) | (simp only [hji16] at H ⊢; exact H)
             have hji16_ : ((rd l0 x10_1) / 2 ^ min x39_3.toNat 64) = ji16 := hji16
             have hji16z : x39_3 ≤ 64 → ((rd l0 x10_1) / 2 ^ x39_3.toNat) = ji16 := shr_small hji16
             by_cases c17 : x39_3 < (l0.length : Int)
             ·rw [if_pos c17] at H
              have c17b0 : decide (x39_3 < (l0.length : Int)) = true := decide_eq_true c17
              clear c17
              by_cases c18 : 0 ≤ x10_1
              ·rw [if_pos c18] at H
               have c18b0 := eq_true c18
               have c18b1 : decide (0 ≤ x10_1) = true := decide_eq_true c18
               clear c18
               obtain ⟨ji19, hji19⟩ : ∃ j_ : Int, (shr .i64 (rd l0 x39_3) x10_1) = j_ := ⟨_, rfl⟩
               replace H : (if (Go.bits .and .i64 (ji16) 1) = (Go.bits .and .i64 (ji19) 1) then (lampblackref01_IsGraph.l1 k3 l0 a1 x10_1 (rd l0 x10_1) l0 (l0.length : Int) x10_1 (l0.length : Int) (wrap64 (x39_3 + 1))) else (some false)) = some r := by first | (rw [hji19] at H; exact H) | (simp only [hji19] at H ⊢; exact H)
               have hji19_ : ((rd l0 x39_3) / 2 ^ min x10_1.toNat 64) = ji19 := hji19
               have hji19z : x10_1 ≤ 64 → ((rd l0 x39_3) / 2 ^ x10_1.toNat) = ji19 := shr_small hji19
               by_cases c20 : (Go.bits .and .i64 (ji16) 1) = (Go.bits .and .i64 (ji19) 1)
               ·rw [if_pos c20] at H
                have c20b0 : ((Go.bits .and .i64 (ji16) 1) == (Go.bits .and .i64 (ji19) 1)) = true := beq_iff_eq.mpr c20
                have c20b1 : ((Go.bits .and .i64 (ji16) 1) != (Go.bits .and .i64 (ji19) 1)) = false := bne_eq_false_iff_eq.mpr c20
                clear c20
                have H' := Aside0.mk H
                clear H
                have p102 : 0 ≤ (x39_3 : Int) := of_decide_eq_true (by first | (with_reducible assumption) | assumption)
                have q102 : x39_3 < (l0.length : Int) := of_decide_eq_true (by first | (with_reducible assumption) | assumption)
                obtain ⟨ad102, e102, hx102_0⟩ := Kd.at_int HR0.out x39_3 p102 q102
                obtain rfl : ad101 = ad102 := (by injection e102)
                replace p102 := eq_true p102
                replace q102 := eq_true q102
                go_wp2
                repeat (go_quiet (fail); try go_wp2)
                go_roundg k3
                case measure => have := HK1.out; have := HJ5.out; have := HK3.out; omega
                case rel => exact ⟨(wrap64 (x39_3 + 1)), (by first | rfl | (simp; done) | (simp [*]; done)), H', ⟨by have := HK1.out; have := HJ5.out; have := HK3.out; omega⟩, by repeat (first | exact Drawn0.refl _ | apply Drawn0.step)⟩
               ·rw [if_neg c20] at H
                have c20b0 : ((Go.bits .and .i64 (ji16) 1) == (Go.bits .and .i64 (ji19) 1)) = false := beq_eq_false_iff_ne.mpr c20
                have c20b1 : ((Go.bits .and .i64 (ji16) 1) != (Go.bits .and .i64 (ji19) 1)) = true := bne_iff_ne.mpr c20
                obtain rfl := Option.some.inj H
                have p102 : 0 ≤ (x39_3 : Int) := of_decide_eq_true (by first | (with_reducible assumption) | assumption)
                have q102 : x39_3 < (l0.length : Int) := of_decide_eq_true (by first | (with_reducible assumption) | assumption)
                obtain ⟨ad102, e102, hx102_0⟩ := Kd.at_int HR0.out x39_3 p102 q102
                obtain rfl : ad101 = ad102 := (by injection e102)
                replace p102 := eq_true p102
                replace q102 := eq_true q102
                go_wp2
                repeat (go_quiet (fail); try go_wp2)
                go_ret
                exact ⟨by first | rfl | (simp; done) | (simp only [← hji16, ← hji19] <;> (first | rfl | simp)) | (simp [*]; done), by repeat (first | exact Drawn0.refl _ | apply Drawn0.step)⟩
              ·rw [if_neg c18] at H
               exact absurd H (by simp)
             ·rw [if_neg c17] at H
              exact absurd H (by simp)
            ·rw [if_neg c15] at H
             exact absurd H (by simp)
           ·rw [if_neg c14] at H
            have c14b0 : decide (x39_3 < (l0.length : Int)) = false := decide_eq_false c14
            clear c14
            have H' := Aside0.mk H
            clear H
            go_wp2
            repeat (go_quiet (fail); try go_wp2)
            go_roundg k3
            case measure => have := HK1.out; have := HJ5.out; have := HK3.out; omega
            case rel => exact ⟨(wrap64 (x10_1 + 1)), (by first | rfl | (simp; done) | (simp [*]; done)), H', ⟨by have := HK1.out; have := HJ5.out; have := HK3.out; omega⟩, by repeat (first | exact Drawn0.refl _ | apply Drawn0.step)⟩
     ·rw [if_neg c5] at H
      exact absurd H (by simp)
    ·rw [if_neg c4] at H
     exact absurd H (by simp)
   ·rw [if_neg c3] at H
    have c3b0 : decide (x10_1 < (l0.length : Int)) = false := decide_eq_false c3
    clear c3
    by_cases c21 : (l0.length : Int) ≥ 1
    ·rw [if_pos c21] at H
     have c21b0 : decide (1 ≤ (l0.length : Int)) = true := decide_eq_true c21
     have c21b1 : decide (1 ≤ l0.length) = true := decide_eq_true (by omega)
     clear c21
     obtain rfl := Option.some.inj H
     go_wp2
     repeat (go_quiet (fail); try go_wp2)
     go_ret
     exact ⟨by first | rfl | (simp; done) | (simp [*]; done), by repeat (first | exact Drawn0.refl _ | apply Drawn0.step)⟩
    ·rw [if_neg c21] at H
     have c21b0 : decide (1 ≤ (l0.length : Int)) = false := decide_eq_false c21
     have c21b1 : decide (1 ≤ l0.length) = false := decide_eq_false (by omega)
     clear c21
     obtain rfl := Option.some.inj H
     go_wp2
     repeat (go_quiet (fail); try go_wp2)
     go_ret
     exact ⟨by first | rfl | (simp; done) | (simp [*]; done), by repeat (first | exact Drawn0.refl _ | apply Drawn0.step)⟩
end Go.Proofs.YtjloppfdagfpmaaDoor.X
end
section
namespace Go.Proofs.YtjloppfdagfpmaaDoor.X
open Go.RowKit YtjloppfdagfpmaaDoorW.PrintWords YtjloppfdagfpmaaDoorW.PrintLast YtjloppfdagfpmaaDoorW.PrintMore
attribute [local go_sem] max2_int min2_int max_two min_two max_three min_three max_four min_four
/-! ### lampblackref07_Pattern: function 25 -/
def lampblackref07_Pattern.f (k : Nat) (l0 : List Int) : Option (Bool) := (lampblackref01_IsGraph.f k l0 6).bind fun t194 => (some t194)
set_option maxHeartbeats 8000000 in
set_option maxRecDepth 100000 in
theorem lampblackref07_Pattern.calls (k : Nat) (A0 : Option Addr) (c0 : Nat) (l0 : List Int) (r : Bool) (w : World) (hr0 : Kd.C (Kd.int .i64) w A0 l0.length l0) (hc0 : l0.length ≤ c0) (h : lampblackref07_Pattern.f k l0 = some r) :
  Calls Tryd.prog 25 #[.slice A0 l0.length c0] w fun e w' => e = .returned (.bool r) ∧ Drawn0 w w' := by
 have HR0 := Aside0.mk hr0
 have HC0 := Aside0.mk hc0
 clear hr0 hc0
 have H : ((lampblackref01_IsGraph.f k l0 6).bind fun t194 => (some t194)) = some r := h
 clear h
 replace H := Option.bind_eq_some_iff.mp H
 obtain ⟨t194, A20, H⟩ := H
 replace H : (some t194) = some r := H
 have A2 := Aside0.mk A20
 clear A20
 obtain rfl := Option.some.inj H
 go_enter Tryd.func25, Tryd.ntmps25
 go_wp2_with (first | ((with_reducible refine gate_callee (f := 61) rfl ?_); refine goesL_ (some 4) rfl rfl Tryd.func61 (by kernel_rfl) rfl #[.slice A0 l0.length c0, .int .i64 6] rfl (Qls) ?_; (with_reducible refine (lampblackref01_IsGraph.calls k _ _ l0 6 t194 _ ?side1 ?side2 A2.out).mono ?_); (case side1 => exact Qsc HR0.out); (case side2 => exact HC0.out); rintro e w' ⟨rfl, ⟨nd, rfl⟩⟩; refine ⟨_, rfl, ?_⟩))
 go_ret
 exact ⟨by first | rfl | (simp; done) | (simp [*]; done), by repeat (first | exact Drawn0.refl _ | apply Drawn0.step)⟩
end Go.Proofs.YtjloppfdagfpmaaDoor.X
end
section
namespace Go.Proofs.YtjloppfdagfpmaaDoor.X
open Go.RowKit YtjloppfdagfpmaaDoorW.PrintWords YtjloppfdagfpmaaDoorW.PrintLast YtjloppfdagfpmaaDoorW.PrintMore
attribute [local go_sem] max2_int min2_int max_two min_two max_three min_three max_four min_four
/-! ### lampblackref07_Valid: function 16 -/
def lampblackref07_Valid.f (k : Nat) (l0 : List Int) : Option (Bool) := (lampblackref01_IsGraph.f k l0 8).bind fun t103 => (some t103)
set_option maxHeartbeats 8000000 in
set_option maxRecDepth 100000 in
theorem lampblackref07_Valid.calls (k : Nat) (A0 : Option Addr) (c0 : Nat) (l0 : List Int) (r : Bool) (w : World) (hr0 : Kd.C (Kd.int .i64) w A0 l0.length l0) (hc0 : l0.length ≤ c0) (h : lampblackref07_Valid.f k l0 = some r) :
  Calls Tryd.prog 16 #[.slice A0 l0.length c0] w fun e w' => e = .returned (.bool r) ∧ Drawn0 w w' := by
 have HR0 := Aside0.mk hr0
 have HC0 := Aside0.mk hc0
 clear hr0 hc0
 have H : ((lampblackref01_IsGraph.f k l0 8).bind fun t103 => (some t103)) = some r := h
 clear h
 replace H := Option.bind_eq_some_iff.mp H
 obtain ⟨t103, A20, H⟩ := H
 replace H : (some t103) = some r := H
 have A2 := Aside0.mk A20
 clear A20
 obtain rfl := Option.some.inj H
 go_enter Tryd.func16, Tryd.ntmps16
 go_wp2_with (first | ((with_reducible refine gate_callee (f := 61) rfl ?_); refine goesL_ (some 4) rfl rfl Tryd.func61 (by kernel_rfl) rfl #[.slice A0 l0.length c0, .int .i64 8] rfl (Qls) ?_; (with_reducible refine (lampblackref01_IsGraph.calls k _ _ l0 8 t103 _ ?side1 ?side2 A2.out).mono ?_); (case side1 => exact Qsc HR0.out); (case side2 => exact HC0.out); rintro e w' ⟨rfl, ⟨nd, rfl⟩⟩; refine ⟨_, rfl, ?_⟩))
 go_ret
 exact ⟨by first | rfl | (simp; done) | (simp [*]; done), by repeat (first | exact Drawn0.refl _ | apply Drawn0.step)⟩
end Go.Proofs.YtjloppfdagfpmaaDoor.X
end
section
/- The references' own words: IsGraph, Reached. -/
namespace Go.Proofs.YtjloppfdagfpmaaDoor.X
open Go.RowKit YtjloppfdagfpmaaDoorW.PrintWords YtjloppfdagfpmaaDoorW.PrintLast YtjloppfdagfpmaaDoorW.PrintMore YtjloppfdagfpmaaDoor.T
theorem isGraph_l1 (m : Nat) (g : List Int) (hn : g.length ≤ 13) (i : Nat) (hi : i < g.length) (r : Bool)
  (hrest : Ev (fun k => lampblackref01_IsGraph.l0 k g (m : Int) g (g.length : Int) ((i + 1 : Nat) : Int)) r) :
  ∀ d j, j + d = g.length → Ev (fun k => lampblackref01_IsGraph.l1 k g (m : Int) (i : Int) (rd g (i : Int)) g (g.length : Int) (i : Int) (g.length : Int) (j : Int))
   (allFrom (fun j => decide (ibit (rd g (i : Int)) j = ibit (rd g (j : Int)) i)) g.length d j && r) := by
 intro d
 induction d with
 | zero =>
  intro j hj
  refine Ev.step (fun k => ?_) hrest
  rw [lampblackref01_IsGraph.l1, if_neg (by omega), wrap_succ i (by omega)]
 | succ d ih =>
  intro j hj
  simp only [allFrom]
  by_cases hb : ibit (rd g (i : Int)) j = ibit (rd g (j : Int)) i
  ·refine Ev.step (f := fun k => lampblackref01_IsGraph.l1 k g (m : Int) (i : Int) (rd g (i : Int)) g (g.length : Int) (i : Int) (g.length : Int) ((j + 1 : Nat) : Int)) (fun k => ?_) ?_
   ·rw [lampblackref01_IsGraph.l1, if_pos (by omega), if_pos (by omega), if_pos (by omega), if_pos (by omega), wrap_succ j (by omega)]
    exact if_pos hb
   ·have := ih (j + 1) (by omega)
    simpa [hb] using this
  ·refine Ev.step (f := fun _ => some false) (fun k => ?_) (Ev.some (by simp [hb]))
   rw [lampblackref01_IsGraph.l1, if_pos (by omega), if_pos (by omega), if_pos (by omega), if_pos (by omega)]
   exact if_neg hb
theorem isGraph_l0 (m : Nat) (hm : m ≤ 13) (g : List Int) (h1 : 1 ≤ g.length) (hn : g.length ≤ m) :
  ∀ d i, i + d = g.length → Ev (fun k => lampblackref01_IsGraph.l0 k g (m : Int) g (g.length : Int) (i : Int)) (allFrom (rowOk g) g.length d i) := by
 intro d
 induction d with
 | zero =>
  intro i hi
  refine Ev.step (f := fun _ => some true) (fun k => ?_) (Ev.some (by simp [allFrom]))
  rw [lampblackref01_IsGraph.l0, if_neg (by omega), if_pos (by omega), decide_eq_true (by omega)]
 | succ d ih =>
  intro i hi
  have stop : ∀ k, lampblackref01_IsGraph.j1 (k + 1) g (m : Int) (i : Int) (rd g (i : Int)) g (g.length : Int) (i : Int) true = some false := fun k => by
   rw [lampblackref01_IsGraph.j1, if_pos rfl]
  simp only [allFrom, rowOk]
  by_cases h1' : rd g (i : Int) < 0
  ·refine Ev.step (fun k => ?_) (f := fun k => lampblackref01_IsGraph.j1 k g (m : Int) (i : Int) (rd g (i : Int)) g (g.length : Int) (i : Int) true) ?_
   ·rw [lampblackref01_IsGraph.l0, if_pos (by omega), if_pos (by omega), if_pos (by omega), if_neg (by omega), if_pos h1']
   ·exact Ev.step stop (Ev.some (by simp [h1']))
  ·by_cases h2 : rd g (i : Int) ≥ shl .i64 1 (g.length : Int)
   ·refine Ev.step (fun k => ?_) (f := fun k => lampblackref01_IsGraph.j1 k g (m : Int) (i : Int) (rd g (i : Int)) g (g.length : Int) (i : Int) true) ?_
    ·rw [lampblackref01_IsGraph.l0, if_pos (by omega), if_pos (by omega), if_pos (by omega), if_neg (by omega), if_neg h1', if_pos h2]
    ·exact Ev.step stop (Ev.some (by simp [h2]))
   ·refine Ev.step (fun k => ?_) (f := fun k => lampblackref01_IsGraph.j1 k g (m : Int) (i : Int) (rd g (i : Int)) g (g.length : Int) (i : Int) (ibit (rd g (i : Int)) i == 1)) ?_
    ·rw [lampblackref01_IsGraph.l0, if_pos (by omega), if_pos (by omega), if_pos (by omega), if_neg (by omega), if_neg h1', if_neg h2]
     rfl
    ·by_cases h3 : (ibit (rd g (i : Int)) i == 1) = true
     ·simp only [h3]
      exact Ev.step stop (Ev.some (by simp))
     ·refine Ev.step (fun k => by rw [lampblackref01_IsGraph.j1, if_neg h3]) ?_
      have := isGraph_l1 m g (by omega) i (by omega) _ (ih (i + 1) (by omega)) g.length 0 (by omega)
      have h3' : (ibit (rd g (i : Int)) i == 1) = false := by simpa using h3
      simp only [h1', h2, h3', decide_false, Bool.not_false, Bool.true_and]
      exact this
theorem isGraph_ev (m : Nat) (hm : m ≤ 13) (g : List Int) (hg : g.length < 2 ^ 60) : Ev (fun k => lampblackref01_IsGraph.f k g (m : Int)) (chk m g) := by
 unfold lampblackref01_IsGraph.f
 by_cases h1 : 1 ≤ g.length
 ·by_cases h2 : g.length ≤ m
  ·have := isGraph_l0 m hm g h1 h2 g.length 0 (by omega)
   simpa [chk, h1, h2] using this
  ·refine Ev.step (f := fun k => lampblackref01_IsGraph.j1 k g (m : Int) 0 (rd g 0) g (g.length : Int) 0 true) (fun k => ?_) (Ev.step (f := fun _ => some false) (fun k => ?_) (Ev.some (by simp [chk, h2])))
   ·rw [lampblackref01_IsGraph.l0, if_pos (by omega), if_pos (by omega), if_pos (by omega), if_pos (by omega)]
   ·rw [lampblackref01_IsGraph.j1, if_pos rfl]
 ·refine Ev.step (f := fun _ => some false) (fun k => ?_) (Ev.some (by simp [chk, h1]))
  rw [lampblackref01_IsGraph.l0, if_neg (by omega), if_neg (by omega)]
theorem reached_l1 (m : Nat) (G : List Nat) (hG : Gr m G) (hm : m ≤ 13) (w : Nat) (hw : w < 2 ^ G.length) (c : Nat) (x0 : Nat) (Q : Int → Prop)
  (cont : ∀ x' : Nat, x' < 2 ^ G.length → (∀ j, bset x0 j → bset x' j) → (∀ s, (∀ j, bset x0 j → Con (Adj G) (bset w) s j) → ∀ j, bset x' j → Con (Adj G) (bset w) s j) → (∀ i j, bset x0 i → Adj G i j → bset w j → bset x' j) →
   ∃ r, Ev (fun k => lampblackref01_Reached.l0 k (gi G) (w : Int) (x' : Int) (G.length : Int) ((c + 1 : Nat) : Int)) r ∧ Q r) (hc : c < 2 ^ 50) :
  ∀ d i (x : Nat), i + d = G.length → x < 2 ^ G.length → (∀ j, bset x0 j → bset x j) → (∀ s, (∀ j, bset x0 j → Con (Adj G) (bset w) s j) → ∀ j, bset x j → Con (Adj G) (bset w) s j) →
   (∀ i' j, i' < i → bset x0 i' → Adj G i' j → bset w j → bset x j) →
   ∃ r, Ev (fun k => lampblackref01_Reached.l1 k (gi G) (w : Int) (x : Int) (G.length : Int) (c : Int) (G.length : Int) (i : Int)) r ∧ Q r := by
 have p62 : ∀ y : Nat, y < 2 ^ G.length → y < 2 ^ 62 := fun y hy => Nat.lt_trans hy (Nat.pow_lt_pow_right (by omega) (by have := hG.most; omega))
 have hmost := hG.most
 intro d
 induction d with
 | zero =>
  intro i x hi hx h1 h2 h3
  obtain ⟨r, e1, e2⟩ := cont x hx h1 h2 (fun i' j hi' ha hj => h3 i' j (by have := hG.adj_lt' ha; omega) hi' ha hj)
  refine ⟨r, Ev.step (fun k => ?_) e1, e2⟩
  rw [lampblackref01_Reached.l1, if_neg (by omega), wrap_succ c (by omega)]
 | succ d ih =>
  intro i x hi hx h1 h2 h3
  by_cases hb : x.testBit i = true
  ·have hrow := hG.row i
   have hA : G.getD i 0 &&& w < 2 ^ G.length := Nat.lt_of_le_of_lt Nat.and_le_left hrow
   obtain ⟨r, e1, e2⟩ := ih (i + 1) (x ||| (G.getD i 0 &&& w)) (by omega) (or_lt hx hA) (fun j hj => (or_bset _ _ _).2 (.inl (h1 j hj)))
    (fun s hs j hj => by
     rcases (or_bset _ _ _).1 hj with h | h
     ·exact h2 s hs j h
     ·obtain ⟨ha, hb'⟩ := (and_bset _ _ _).1 h
      exact .step (h2 s hs i hb) ha hb')
    (fun i' j hi' hx0 ha hj => by
     by_cases e : i' = i
     ·subst e; exact (or_bset _ _ _).2 (.inr ((and_bset _ _ _).2 ⟨ha, hj⟩))
     ·exact (or_bset _ _ _).2 (.inl (h3 i' j (by omega) hx0 ha hj)))
   refine ⟨r, Ev.step (fun k => ?_) e1, e2⟩
   rw [lampblackref01_Reached.l1, if_pos (by omega), if_pos (by omega), if_pos ((bit_one x i (p62 x hx) (by omega)).2 hb), if_pos (by rw [gi_length]; omega), rd_gi,
    b_and _ _ (p62 _ hrow) (p62 _ hw), b_or _ _ (p62 _ hx) (p62 _ hA), wrap_succ i (by omega)]
  ·obtain ⟨r, e1, e2⟩ := ih (i + 1) x (by omega) hx h1 h2
    (fun i' j hi' hx0 ha hj => by
     by_cases e : i' = i
     ·subst e; exact (hb (h1 _ hx0)).elim
     ·exact h3 i' j (by omega) hx0 ha hj)
   refine ⟨r, Ev.step (fun k => ?_) e1, e2⟩
   rw [lampblackref01_Reached.l1, if_pos (by omega), if_pos (by omega), if_neg (fun h => hb ((bit_one x i (p62 x hx) (by omega)).1 h)), wrap_succ i (by omega)]
theorem reached_l0 (m : Nat) (G : List Nat) (hG : Gr m G) (hm : m ≤ 13) (w v : Nat) (hw : w < 2 ^ G.length) (hv : v < G.length) :
  ∀ d c (x : Nat), c + d = G.length → x < 2 ^ G.length → bset x v → (∀ j, bset x j → Con (Adj G) (bset w) (bset (2 ^ v)) j) →
   ((∀ i j, bset x i → Adj G i j → bset w j → bset x j) ∨ c + 1 ≤ pc x G.length) →
   ∃ r, Ev (fun k => lampblackref01_Reached.l0 k (gi G) (w : Int) (x : Int) (G.length : Int) (c : Int)) r ∧ r = ((conset G (2 ^ v) w : Nat) : Int) := by
 have hp : 2 ^ v < 2 ^ G.length := Nat.pow_lt_pow_right (by omega) hv
 have hmost := hG.most
 intro d
 induction d with
 | zero =>
  intro c x hc hx hv' h1 h2
  refine ⟨(x : Int), Ev.step (f := fun _ => some (x : Int)) (fun k => ?_) (Ev.some rfl), ?_⟩
  ·rw [lampblackref01_Reached.l0, if_neg (by omega)]
  ·have hcl : ∀ i j, bset x i → Adj G i j → bset w j → bset x j := by
    rcases h2 with h | h
    ·exact h
    ·have := pc_le x G.length; omega
   congr 1
   exact conset_eq hG hp hx (fun j hj => by rw [(two_pow_bit v j).1 hj]; exact hv') h1 hcl
 | succ d ih =>
  intro c x hc hx hv' h1 h2
  obtain ⟨r, e1, e2⟩ := reached_l1 m G hG hm w hw c x (fun r => r = ((conset G (2 ^ v) w : Nat) : Int))
   (fun x' hx' g1 g2 g3 => by
    refine ih (c + 1) x' (by omega) hx' (g1 v hv') (g2 _ h1) ?_
    by_cases hcl : ∀ i j, bset x i → Adj G i j → bset w j → bset x j
    ·-- closed: nothing came
     refine .inl fun i j hi ha hj => ?_
     have key : ∀ u, Con (Adj G) (bset w) (bset x) u → bset x u := fun u hu => by
      induction hu with
      | base h => exact h
      | step _ a b ih => exact hcl _ _ ih a b
     have this : ∀ j, bset x' j → bset x j := fun j hj => key j (g2 (bset x) (fun j hj => .base hj) j hj)
     exact g1 _ (hcl i j (this i hi) ha hj)
    ·right
     have hcount : c + 1 ≤ pc x G.length := h2.resolve_left hcl
     have : ∃ i j, bset x i ∧ Adj G i j ∧ bset w j ∧ ¬ bset x j := Classical.byContradiction fun hno => hcl fun i j a b c => Classical.byContradiction fun h => hno ⟨i, j, a, b, c, h⟩
     obtain ⟨i, j, a, b, c', h⟩ := this
     have hj : x.testBit j = false := by unfold bset at h; simpa using h
     have := pc_lt (x := x) (y := x') j G.length (fun q _ hq => g1 q hq) (hG.adj_lt b) hj (g3 i j a b c')
     omega) (by omega) G.length 0 x (by omega) hx (fun _ h => h) (fun s hs j hj => hs j hj) (fun i' j hi' => by omega)
  refine ⟨r, Ev.step (fun k => ?_) e1, e2⟩
  rw [lampblackref01_Reached.l0, if_pos (by omega), gi_length]
  rfl
theorem reached_ev (m : Nat) (G : List Nat) (hG : Gr m G) (hm : m ≤ 13) (w v : Nat) (hw : w < 2 ^ G.length) (hv : v < G.length) :
  Ev (fun k => lampblackref01_Reached.f k (gi G) (w : Int) (v : Int)) ((conset G (2 ^ v) w : Nat) : Int) := by
 have hp : 2 ^ v < 2 ^ G.length := Nat.pow_lt_pow_right (by omega) hv
 have hmost := hG.most
 have h1 : 1 ≤ pc (2 ^ v) G.length := by
  have := pc_lt (x := 0) (y := 2 ^ v) v G.length (fun j _ h => by simp at h) hv (by simp) ((two_pow_bit v v).2 rfl)
  omega
 obtain ⟨r, e1, e2⟩ := reached_l0 m G hG hm w v hw hv G.length 0 (2 ^ v) (by omega) hp ((two_pow_bit v v).2 rfl) (fun j hj => .base hj) (.inr h1)
 subst e2
 unfold lampblackref01_Reached.f
 refine Ev.if_pos (by omega) ?_
 rw [s_one v (by omega), gi_length]
 exact e1
end Go.Proofs.YtjloppfdagfpmaaDoor.X
end
section
namespace Go.Proofs.YtjloppfdagfpmaaDoor.X
open Go.RowKit YtjloppfdagfpmaaDoorW.PrintWords YtjloppfdagfpmaaDoorW.PrintLast YtjloppfdagfpmaaDoorW.PrintMore
attribute [local go_sem] max2_int min2_int max_two min_two max_three min_three max_four min_four
/-! ### lampblackref02_Size: function 39 -/
def lampblackref02_Size.l0 : Nat → Int → Int → Option (Int)
 | 0, _, _ => none
 | k + 1, x0, x3 => if x0 > 0 then (lampblackref02_Size.l0 k (Go.bits .and .i64 x0 (wrap64 (x0 - 1))) (wrap64 (x3 + 1))) else (some x3)
def lampblackref02_Size.f (k : Nat) (a0 : Int) : Option (Int) := lampblackref02_Size.l0 k a0 0
theorem lampblackref02_Size.mono_l : ∀ k, (∀ y0 y1, LeO (lampblackref02_Size.l0 k y0 y1) (lampblackref02_Size.l0 (k + 1) y0 y1))
 | 0 => fun _ _ r h => by simp [lampblackref02_Size.l0] at h
 | k + 1 => by
  have ih0 := lampblackref02_Size.mono_l k
  ·intro y0 y1
   unfold lampblackref02_Size.l0
   repeat' first
   | (with_reducible exact ih0 _ _)
   | (with_reducible exact LeO.refl _)
   | (with_reducible exact LeO.none _)
   | (with_reducible refine LeO.ite ?_ ?_)
   | (with_reducible refine LeO.bind ?_ (fun _ => ?_))
   | exact ih0 _ _
   | exact LeO.none _
   | refine LeO.ite ?_ ?_
   | refine LeO.bind ?_ (fun _ => ?_)
theorem lampblackref02_Size.mono : ∀ a0 k, LeO (lampblackref02_Size.f k a0) (lampblackref02_Size.f (k + 1) a0) := by
 intro a0 k
 have ih0 := lampblackref02_Size.mono_l k
 unfold lampblackref02_Size.f
 repeat' first
   | (with_reducible exact ih0 _ _)
   | (with_reducible exact LeO.refl _)
   | (with_reducible exact LeO.none _)
   | (with_reducible refine LeO.ite ?_ ?_)
   | (with_reducible refine LeO.bind ?_ (fun _ => ?_))
   | exact ih0 _ _
   | exact LeO.none _
   | refine LeO.ite ?_ ?_
   | refine LeO.bind ?_ (fun _ => ?_)
set_option maxHeartbeats 8000000 in
set_option maxRecDepth 100000 in
theorem lampblackref02_Size.calls (k : Nat) (a0 : Int) (r : Int) (w : World) (h : lampblackref02_Size.f k a0 = some r) :
  Calls Tryd.prog 39 #[.int .i64 a0] w fun e w' => e = .returned (.int .i64 r) ∧ Drawn0 w w' := by
 have H : (lampblackref02_Size.l0 k a0 0) = some r := h
 clear h
 have H' := Aside0.mk H
 clear H
 go_enter Tryd.func39, Tryd.ntmps39
 go_wp2
 go_loopg [0, 3] k (fun kq v0 v3 w' => ∃ (x0_1 : Int) (x3_1 : Int), v0 = .int .i64 x0_1 ∧ v3 = .int .i64 x3_1 ∧ Aside0 (lampblackref02_Size.l0 kq x0_1 x3_1 = some r) ∧ Aside0 (kq ≤ k) ∧ Drawn0 w w')
 case atStart => exact ⟨(a0), (0), (by first | rfl | (simp; done) | (simp [*]; done)), (by first | rfl | (simp; done) | (simp [*]; done)), H', ⟨Nat.le_refl _⟩, by repeat (first | exact Drawn0.refl _ | apply Drawn0.step)⟩
 case round =>
  clear H'
  obtain ⟨x0_1, x3_1, rfl, rfl, HA, HK1, ⟨m1, rfl⟩⟩ := hrel
  cases gk with
  | zero => exact absurd HA.out (by simp [lampblackref02_Size.l0])
  | succ k1 =>
   have H := HA.out
   clear HA
   simp only [lampblackref02_Size.l0] at H
   by_cases c2 : x0_1 > 0
   ·rw [if_pos c2] at H
    have c2b0 : decide (0 < x0_1) = true := decide_eq_true c2
    clear c2
    have H' := Aside0.mk H
    clear H
    go_wp2
    go_roundg k1
    case measure => have := HK1.out; omega
    case rel => exact ⟨(Go.bits .and .i64 x0_1 (wrap64 (x0_1 - 1))), (wrap64 (x3_1 + 1)), (by first | rfl | (simp; done) | (simp [*]; done)), (by first | rfl | (simp; done) | (simp [*]; done)), H', ⟨by have := HK1.out; omega⟩, by repeat (first | exact Drawn0.refl _ | apply Drawn0.step)⟩
   ·rw [if_neg c2] at H
    have c2b0 : decide (0 < x0_1) = false := decide_eq_false c2
    clear c2
    obtain rfl := Option.some.inj H
    go_wp2
    go_ret
    exact ⟨by first | rfl | (simp; done) | (simp [*]; done), by repeat (first | exact Drawn0.refl _ | apply Drawn0.step)⟩
end Go.Proofs.YtjloppfdagfpmaaDoor.X
end
section
namespace Go.Proofs.YtjloppfdagfpmaaDoor.X
open Go.RowKit YtjloppfdagfpmaaDoorW.PrintWords YtjloppfdagfpmaaDoorW.PrintLast YtjloppfdagfpmaaDoorW.PrintMore
attribute [local go_sem] max2_int min2_int max_two min_two max_three min_three max_four min_four
/-! ### api_Graph_int_30: function 30 -/
def api_Graph_int_30.l0 : Nat → List Int → List Int → Int → Int → Option (Bool)
 | 0, _, _, _, _ => none
 | k + 1, x0, x1, x12, x13 => if x13 < x12 then (if 0 ≤ x13 then (if x13 < (x0.length : Int) then (if x13 < (x1.length : Int) then (if (rd x0 x13) = (rd x1 x13) then (api_Graph_int_30.l0 k x0 x1 x12 (wrap64 (x13 + 1))) else (some false)) else (none)) else (none)) else (none)) else (some true)
end Go.Proofs.YtjloppfdagfpmaaDoor.X
end
section
/- (minor) What the laws share: connected sets, valid graphs, patterns, beginnings, equal slices, an edge is a minor of itself. -/
namespace Go.Proofs.YtjloppfdagfpmaaDoor.X
open Go.RowKit YtjloppfdagfpmaaDoorW.PrintWords YtjloppfdagfpmaaDoorW.PrintLast YtjloppfdagfpmaaDoorW.PrintMore YtjloppfdagfpmaaDoor.T
theorem mn_nat (a b : Nat) : mn (a : Int) (b : Int) = ((min a b : Nat) : Int) := by unfold mn; split <;> omega
def low (a : Nat) : Nat := (els a 9).headD 0
theorem low_bits : ∀ x : Fin 512, 0 < x.val → x.val.testBit (low x.val) = true ∧ ∀ i : Fin 9, i.val < low x.val → x.val.testBit i.val = false := by decide +kernel
theorem size_all : ∀ x : Fin 512, lampblackref02_Size.f 12 (x.val : Int) = some (pc x.val 9 : Int) := by decide +kernel
theorem size_ev (x : Nat) (hx : x < 512) : Ev (fun k => lampblackref02_Size.f k (x : Int)) ((pc x 9 : Nat) : Int) := Ev.of (lampblackref02_Size.mono _) (size_all ⟨x, hx⟩)
noncomputable def conn (G : List Nat) (a : Int) : Bool := decide (0 < a) && decide (a < ((2 ^ G.length : Nat) : Int)) && decide (conset G (2 ^ low a.toNat) a.toNat = a.toNat)
theorem low_lt {G : List Nat} {a : Nat} (h0 : 0 < a) (h : a < 2 ^ G.length) (hn : G.length ≤ 9) : low a < G.length := bit_lt h (low_bits ⟨a, small G hn h⟩ h0).1
theorem refConn_l0 (G : List Nat) (hG : Gr 9 G) (a : Nat) (h0 : 0 < a) (ha : a < 2 ^ G.length) : ∀ d i, i + d = low a → Ev (fun k => lampblackref02_Connected.l0 k (gi G) (a : Int) (i : Int)) (decide (conset G (2 ^ low a) a = a)) := by
 have hn := hG.most
 have hl := low_lt (G := G) h0 ha hn
 have hb := low_bits ⟨a, small G hn ha⟩ h0
 have hbig := big (small G hn ha)
 intro d
 induction d with
 | zero =>
  intro i hi
  obtain rfl : i = low a := by omega
  refine Ev.step (fun k => by rw [lampblackref02_Connected.l0, if_pos (by omega), if_neg (fun h => by have := (bit_zero a _ hbig (by omega)).1 h; rw [hb.1] at this; cases this)]) ?_
  refine Ev.bind (reached_ev 9 G hG (by omega) a (low a) ha hl) (Ev.some ?_)
  by_cases e : conset G (2 ^ low a) a = a
  ·rw [e]; simp
  ·rw [decide_eq_false e, beq_eq_false_iff_ne]; omega
 | succ d ih =>
  intro i hi
  refine Ev.step (fun k => ?_) (ih (i + 1) (by omega))
  rw [lampblackref02_Connected.l0, if_pos (by omega), if_pos ((bit_zero a i hbig (by omega)).2 (hb.2 ⟨i, by omega⟩ (by simp only []; omega))), wrap_succ i (by omega)]
theorem refConn (G : List Nat) (hG : Gr 9 G) (a : Int) : Ev (fun k => lampblackref02_Connected.f k (gi G) a) (conn G a) := by
 have hn := hG.most
 have h9 : 2 ^ G.length ≤ 2 ^ 9 := Nat.pow_le_pow_right (by omega) hn
 have stop : ∀ k, lampblackref02_Connected.j0 (k + 1) (gi G) a true = some false := fun k => by rw [lampblackref02_Connected.j0, if_pos rfl]
 unfold lampblackref02_Connected.f
 by_cases h0 : a ≤ 0
 ·refine Ev.if_pos h0 (Ev.step stop (Ev.some ?_))
  unfold conn
  rw [decide_eq_false (by omega)]; rfl
 ·refine Ev.if_neg h0 ?_
  rw [gi_length, s_one _ (by omega)]
  by_cases h1 : a ≥ ((2 ^ G.length : Nat) : Int)
  ·rw [decide_eq_true h1]
   refine Ev.step stop (Ev.some ?_)
   unfold conn
   rw [decide_eq_false (show ¬ a < ((2 ^ G.length : Nat) : Int) by omega)]; simp
  ·rw [decide_eq_false h1]
   refine Ev.step (fun k => by rw [lampblackref02_Connected.j0, if_neg (by simp)]) ?_
   obtain ⟨b, rfl⟩ := Int.eq_ofNat_of_zero_le (show 0 ≤ a by omega)
   have := refConn_l0 G hG b (by omega) (by omega) (low b) 0 (by omega)
   unfold conn
   rw [decide_eq_true (show (0 : Int) < (b : Int) by omega), decide_eq_true (show (b : Int) < ((2 ^ G.length : Nat) : Int) by omega), Int.toNat_natCast]
   exact this
theorem refAround_l0 (G : List Nat) (hG : Gr 9 G) (s : Nat) (hs : s < 2 ^ G.length) : ∀ d i, i + d = G.length →
  Ev (fun k => lampblackref02_Around.l0 k (gi G) (s : Int) ((around G s i : Nat) : Int) (G.length : Int) (i : Int)) ((Around G s : Nat) : Int) := by
 have hn := hG.most
 have hbig := big (small G hn hs)
 have hlt : ∀ i, around G s i < 2 ^ G.length := fun i => lt_of_bits fun j hj => by
  obtain ⟨x, _, _, h⟩ := (around_bit G s i j).1 hj; exact hG.adj_lt h
 intro d
 induction d with
 | zero =>
  intro i hi
  obtain rfl : i = G.length := by omega
  exact Ev.step (f := fun _ => some ((around G s G.length : Nat) : Int)) (fun k => by rw [lampblackref02_Around.l0, if_neg (by omega)]) (Ev.some rfl)
 | succ d ih =>
  intro i hi
  refine Ev.step (fun k => ?_) (ih (i + 1) (by omega))
  by_cases hb : s.testBit i = true
  ·rw [lampblackref02_Around.l0, if_pos (by omega), if_pos (by omega), if_pos ((bit_one s i hbig (by omega)).2 hb), if_pos (by rw [gi_length]; omega), rd_gi,
    b_or _ _ (big (small G hn (hlt i))) (big (small G hn (hG.row i))), wrap_succ i (by omega)]
   simp only [around, hb, if_true]
  ·rw [lampblackref02_Around.l0, if_pos (by omega), if_pos (by omega), if_neg (fun h => hb ((bit_one s i hbig (by omega)).1 h)), wrap_succ i (by omega)]
   simp only [around, hb]
   simp
theorem refAround (G : List Nat) (hG : Gr 9 G) (s : Nat) (hs : s < 2 ^ G.length) : Ev (fun k => lampblackref02_Around.f k (gi G) (s : Int)) ((Around G s : Nat) : Int) := by
 have := refAround_l0 G hG s hs G.length 0 (by omega)
 unfold lampblackref02_Around.f
 rw [gi_length]
 exact this
theorem valid_ev (g : List Int) (hg : g.length < 2 ^ 60) : Ev (fun k => lampblackref07_Valid.f k g) (chk 8 g) := by
 unfold lampblackref07_Valid.f
 exact Ev.bind (isGraph_ev 8 (by omega) g hg) (Ev.some rfl)
theorem equal_l0 (a b : List Int) (hl : a.length = b.length) (h40 : a.length < 2 ^ 40) : ∀ d i, i + d = a.length → Ev (fun k => slices_Equal_int_int.l0 k a b (a.length : Int) (i : Int)) (decide (a.drop i = b.drop i)) := by
 intro d
 induction d with
 | zero =>
  intro i hi
  refine Ev.step (f := fun _ => some true) (fun k => by rw [slices_Equal_int_int.l0, if_neg (by omega)]) (Ev.some ?_)
  rw [List.drop_eq_nil_of_le (by omega), List.drop_eq_nil_of_le (by omega)]
  rfl
 | succ d ih =>
  intro i hi
  have h1 : i < a.length := by omega
  have h2 : i < b.length := by omega
  have r1 : rd a (i : Int) = a[i] := by unfold rd; rw [Int.toNat_natCast, List.getD_eq_getElem?_getD, List.getElem?_eq_getElem h1]; rfl
  have r2 : rd b (i : Int) = b[i] := by unfold rd; rw [Int.toNat_natCast, List.getD_eq_getElem?_getD, List.getElem?_eq_getElem h2]; rfl
  rw [List.drop_eq_getElem_cons h1, List.drop_eq_getElem_cons h2]
  by_cases e : a[i] = b[i]
  ·refine Ev.step (f := fun k => slices_Equal_int_int.l0 k a b (a.length : Int) ((i + 1 : Nat) : Int)) (fun k => ?_) ?_
   ·rw [slices_Equal_int_int.l0, if_pos (by omega), if_pos (by omega), if_pos (by omega), if_pos (by omega), r1, r2, if_pos e, wrap_succ i (by omega)]
   ·rw [show (decide (a[i] :: a.drop (i + 1) = b[i] :: b.drop (i + 1))) = decide (a.drop (i + 1) = b.drop (i + 1)) from decide_eq_decide.2 ⟨fun h => (List.cons.inj h).2, fun h => by rw [e, h]⟩]
    exact ih (i + 1) (by omega)
  ·refine Ev.step (f := fun _ => some false) (fun k => ?_) (Ev.some (decide_eq_false fun h => e (List.cons.inj h).1).symm)
   rw [slices_Equal_int_int.l0, if_pos (by omega), if_pos (by omega), if_pos (by omega), if_pos (by omega), r1, r2, if_neg e]
theorem equal_ev (a b : List Int) (h40 : a.length < 2 ^ 40) : Ev (fun k => slices_Equal_int_int.f k a b) (decide (a = b)) := by
 unfold slices_Equal_int_int.f
 by_cases hl : a.length = b.length
 ·refine Ev.if_pos (by omega) ?_
  have := equal_l0 a b hl h40 a.length 0 (by omega)
  simpa using this
 ·exact Ev.if_neg (by omega) (Ev.some (by symm; rw [decide_eq_false_iff_not]; exact fun e => hl (by rw [e])))
theorem equal_same (a : List Int) (h40 : a.length < 2 ^ 40) : Ev (fun k => slices_Equal_int_int.f k a a) true := by
 have := equal_ev a a h40
 simpa using this
theorem pattern_ev (g : List Int) (hg : g.length < 2 ^ 60) : Ev (fun k => lampblackref07_Pattern.f k g) (chk 6 g) := by
 unfold lampblackref07_Pattern.f
 exact Ev.bind (isGraph_ev 6 (by omega) g hg) (Ev.some rfl)
theorem low_lowb : ∀ x : Fin 512, 0 < x.val → low x.val = lowb x.val := by decide +kernel
theorem conn_conB {G : List Nat} (hG : Gr 9 G) (a : Nat) (h : a < 2 ^ G.length) : conn G (a : Int) = conB G a := by
 unfold conn conB
 rw [decide_eq_true (show (a : Int) < ((2 ^ G.length : Nat) : Int) by omega), Int.toNat_natCast, Bool.and_true]
 by_cases h0 : a = 0
 ·subst h0; rfl
 ·rw [decide_eq_true (show (0 : Int) < (a : Int) by omega), decide_eq_true h0, Bool.true_and, Bool.true_and, low_lowb ⟨a, small G hG.most h⟩ (by simp; omega)]
  have hl := lowb_bit hG (by omega) h h0
  have hp : 2 ^ lowb a < 2 ^ G.length := Nat.pow_lt_pow_right (by omega) hl.2
  rw [conset_eq hG hp (clo_lt hG 9 _ hp) (clo_sub G a 9 _) (clo_in hG a 9 _) (fun i j hi hA hj => clo_closed hG 9 _ hp (by have := hG.most; omega) i j hi hA hj)]
theorem awake_ev : Ev (fun k => lampblacklaw07_awake.f k) true := Ev.of (lampblacklaw07_awake.mono) (k := 40) (by decide +kernel)
end Go.Proofs.YtjloppfdagfpmaaDoor.X
end
section
namespace Go.Proofs.YtjloppfdagfpmaaDoor.X
open Go.RowKit YtjloppfdagfpmaaDoorW.PrintWords YtjloppfdagfpmaaDoorW.PrintLast YtjloppfdagfpmaaDoorW.PrintMore
attribute [local go_sem] max2_int min2_int max_two min_two max_three min_three max_four min_four
/-! ### lampblackref07_join: function 75 -/
def lampblackref07_join.f (l0 : List Int) (a1 : Int) (a2 : Int) : Option (List Int) := if 0 ≤ a1 then (if a1 < (l0.length : Int) then (if 0 ≤ a2 then ((some (l0.set (a1 : Int).toNat (Go.bits .or .i64 (rd l0 a1) (shl .i64 1 a2)) : List Int)).bind fun y250 => (if a2 < (l0.length : Int) then (some (y250.set (a2 : Int).toNat (Go.bits .or .i64 (rd y250 a2) (shl .i64 1 a1)))) else (none))) else (none)) else (none)) else (none)
end Go.Proofs.YtjloppfdagfpmaaDoor.X
end
section
namespace Go.Proofs.YtjloppfdagfpmaaDoor.X
open Go.RowKit YtjloppfdagfpmaaDoorW.PrintWords YtjloppfdagfpmaaDoorW.PrintLast YtjloppfdagfpmaaDoorW.PrintMore
attribute [local go_sem] max2_int min2_int max_two min_two max_three min_three max_four min_four
/-! ### lampblackref07_K: function 33 -/
mutual
def lampblackref07_K.l0 : Nat → List Int → Int → Int → Option (List Int)
 | 0, _, _, _ => none
 | k + 1, x3, x8, x9 => if x9 < x8 then (lampblackref07_K.l1 k x3 x9 x8 x9 x9 0) else (some x3)
def lampblackref07_K.l1 : Nat → List Int → Int → Int → Int → Int → Int → Option (List Int)
 | 0, _, _, _, _, _, _ => none
 | k + 1, x3, x4, x8, x9, x12, x13 => if x13 < x12 then ((lampblackref07_join.f x3 x4 x13).bind fun t261 => (lampblackref07_K.l1 k t261 x4 x8 x9 x12 (wrap64 (x13 + 1)))) else (lampblackref07_K.l0 k x3 x8 (wrap64 (x9 + 1)))
end
end Go.Proofs.YtjloppfdagfpmaaDoor.X
end
section
/- (minor) Model and has in plain words; complete graphs as patterns. -/
namespace Go.Proofs.YtjloppfdagfpmaaDoor.X
open Go.RowKit YtjloppfdagfpmaaDoorW.PrintWords YtjloppfdagfpmaaDoorW.PrintLast YtjloppfdagfpmaaDoorW.PrintMore YtjloppfdagfpmaaDoor.T
theorem Model_eq {G P : List Nat} (hG : Gr 8 G) (hP : Gr 6 P) : minor_Model.f (gi G) (gi P) = some ((findN G P).elim ([], 4) fun M => (gi M, 0)) := by
 have h1 := hG.most
 have h2 := hP.most
 unfold minor_Model.f
 rw [if_pos ⟨by rw [gi_length]; omega, by rw [gi_length]; omega⟩, (chk_iff 8 (by omega) _).2 ⟨G, rfl, hG⟩, (chk_iff 6 (by omega) _).2 ⟨P, rfl, hP⟩, gi_toNat, gi_toNat]
 rfl
end Go.Proofs.YtjloppfdagfpmaaDoor.X
end
section
/- (minor) The reference's fits is the search's; its search, in short, is the search. -/
namespace Go.Proofs.YtjloppfdagfpmaaDoor.X
open Go.RowKit YtjloppfdagfpmaaDoorW.PrintWords YtjloppfdagfpmaaDoorW.PrintLast YtjloppfdagfpmaaDoorW.PrintMore YtjloppfdagfpmaaDoor.T
def fp (G P M : List Nat) (s k j : Nat) : Bool := !(P.getD k 0).testBit j || decide (M.getD j 0 &&& Around G s ≠ 0)
theorem fitB_range (G P M : List Nat) (s k : Nat) (hk : k ≤ 9) : fitB G P M s k = (List.range k).all (fp G P M s k) := by
 have h : fitB G P M s k = true ↔ (List.range k).all (fp G P M s k) = true := by
  unfold fitB fp
  rw [List.all_eq_true, List.all_eq_true]
  constructor
  ·intro h j hj
   have hj := List.mem_range.1 hj
   cases hb : (P.getD k 0).testBit j
   ·rfl
   ·have := h j (mem_els.2 ⟨by omega, by rw [Nat.testBit_and, hb, Bool.true_and]; exact (all_bit _ _).2 hj⟩)
    simpa using this
  ·intro h j hj
   have hj := (mem_els.1 hj).2
   rw [Nat.testBit_and, Bool.and_eq_true] at hj
   have := h j (List.mem_range.2 ((all_bit _ _).1 hj.2))
   rw [hj.1] at this
   simpa using this
 cases h1 : fitB G P M s k <;> cases h2 : (List.range k).all (fp G P M s k)
 ·rfl
 ·rw [h1, h2] at h; exact absurd (h.2 rfl) (by simp)
 ·rw [h1, h2] at h; exact absurd (h.1 rfl) (by simp)
 ·rfl
theorem refFits_l0 (G P M : List Nat) (hG : Gr 9 G) (hP : Gr 6 P) (s : Nat) (hs : s < 2 ^ G.length) (hk : M.length < P.length) (hM : ∀ x ∈ M, x < 2 ^ G.length) : ∀ d j, j + d = M.length →
  Ev (fun k => lampblackref07_fits.l0 k (gi G) (gi P) (gi M) (M.length : Int) (s : Int) (M.length : Int) (j : Int)) ((List.range' j d).all (fp G P M s M.length)) := by
 have hpn := hP.most
 have hb := big (Nat.lt_of_lt_of_le (hP.row M.length) (show 2 ^ P.length ≤ 512 from Nat.pow_le_pow_right (n := 2) (by omega) (show P.length ≤ 9 by omega)))
 have hA := big (small G hG.most (Around_lt hG s))
 intro d
 induction d with
 | zero =>
  intro j hj
  exact Ev.step (f := fun _ => some true) (fun k => by rw [lampblackref07_fits.l0, if_neg (by omega)]) (Ev.some rfl)
 | succ d ih =>
  intro j hj
  have next := ih (j + 1) (by omega)
  have hMj : M.getD j 0 < 2 ^ 62 := by
   refine big (small G hG.most ?_)
   rw [List.getD_eq_getElem?_getD, List.getElem?_eq_getElem (by omega)]
   exact hM _ (List.getElem_mem _)
  rw [List.range'_succ, List.all_cons]
  by_cases hbit : (P.getD M.length 0).testBit j = true
  ·refine Ev.step (fun k => by rw [lampblackref07_fits.l0, if_pos (by omega), if_pos (by omega), if_pos (by rw [gi_length]; omega), if_pos (by omega), rd_gi, if_pos ((bit_one _ j hb (by omega)).2 hbit)]) ?_
   refine Ev.bind (refAround G hG s hs) (Ev.if_pos (by rw [gi_length]; omega) ?_)
   rw [rd_gi, b_and _ _ hA hMj, wrap_succ j (by omega)]
   have hfp : fp G P M s M.length j = decide (Around G s &&& M.getD j 0 ≠ 0) := by
    unfold fp
    rw [hbit, Nat.and_comm]
    rfl
   by_cases h0 : Around G s &&& M.getD j 0 = 0
   ·rw [hfp, h0]
    exact Ev.if_pos rfl (Ev.some rfl)
   ·rw [hfp, decide_eq_true h0, Bool.true_and]
    exact Ev.if_neg (by omega) next
  ·refine Ev.step (fun k => by rw [lampblackref07_fits.l0, if_pos (by omega), if_pos (by omega), if_pos (by rw [gi_length]; omega), if_pos (by omega), rd_gi, if_neg (fun h => hbit ((bit_one _ j hb (by omega)).1 h)), wrap_succ j (by omega)]) ?_
   have hfp : fp G P M s M.length j = true := by
    unfold fp
    rw [show (P.getD M.length 0).testBit j = false by simpa using hbit]
    rfl
   rw [hfp, Bool.true_and]
   exact next
theorem refFits_ev (G P M : List Nat) (hG : Gr 9 G) (hP : Gr 6 P) (s : Nat) (hs : s < 2 ^ G.length) (hk : M.length < P.length) (hM : ∀ x ∈ M, x < 2 ^ G.length) : Ev (fun k => lampblackref07_fits.f k (gi G) (gi P) (gi M) (M.length : Int) (s : Int)) (fitB G P M s M.length) := by
 have h := refFits_l0 G P M hG hP s hs hk hM M.length 0 (by omega)
 have hpn := hP.most
 rw [fitB_range G P M s M.length (by omega), List.range_eq_range']
 exact h
def okR (G P M : List Nat) (met size d s : Nat) : Bool := decide (s &&& met = 0) && decide (pc s 9 + d ≤ size) && conB G s && fitB G P M s M.length
def rM (G P : List Nat) : Nat → List Nat → Nat → Nat → Option (List Nat)
 | 0, M, _, size => if size = 0 then some M else none
 | d + 1, M, met, size => (List.range' 1 (2 ^ G.length - 1)).findSome? fun s => if okR G P M met size d s then rM G P d (M ++ [s]) (met ||| s) (size - pc s 9) else none
theorem findSome_filter {α β : Type} (p : α → Bool) (f : α → Option β) : ∀ l : List α, (l.filter p).findSome? f = l.findSome? fun x => if p x then f x else none
 | [] => rfl
 | x :: l => by
  rw [List.filter_cons, List.findSome?_cons]
  cases h : p x
  ·exact findSome_filter p f l
  ·simp only [if_true, List.findSome?_cons, findSome_filter p f l]
theorem rM_grow (G P : List Nat) : ∀ (d : Nat) (M : List Nat) (met size : Nat), rM G P (d + 1) M met size = growN G P (setsN G) (d + 1) M met size
 | d, M, met, size => by
  have h0 := Nat.two_pow_pos G.length
  have hr : List.range (2 ^ G.length) = 0 :: List.range' 1 (2 ^ G.length - 1) := by
   rw [List.range_eq_range', show 2 ^ G.length = (2 ^ G.length - 1) + 1 by omega, List.range'_succ]
   simp
  have hc0 : conB G 0 = false := rfl
  have e : ∀ f : Nat → Option (List Nat), (setsN G).findSome? f = (List.range' 1 (2 ^ G.length - 1)).findSome? fun x => if conB G x = true then f x else none := fun f => by
   unfold setsN
   rw [findSome_filter, hr, List.findSome?_cons]
   simp only [hc0]
   rfl
  simp only [rM, growN]
  rw [e]
  congr 1
  funext s
  unfold okR okB
  cases hcb : conB G s
  ·simp
  ·cases h1 : decide (s &&& met = 0)
   ·simp
   ·cases h2 : decide (pc s 9 + d ≤ size)
    ·simp
    ·cases h3 : fitB G P M s M.length
     ·simp
     ·simp only [Bool.and_true, Bool.true_and, if_true]
      have h2' := of_decide_eq_true h2
      cases d with
      | zero =>
       by_cases e : pc s 9 = size
       ·simp [e, rM, growN]
       ·have : ¬ size - pc s 9 = 0 := by omega
        simp [e, rM, this]
      | succ d =>
       simp only [Nat.add_one_ne_zero, decide_false, Bool.false_and, Bool.not_false, if_true]
       exact rM_grow G P d _ _ _
end Go.Proofs.YtjloppfdagfpmaaDoor.X
end
section
/- lampblackref07.model and Model, by hand. -/
namespace Go.Proofs.YtjloppfdagfpmaaDoor.X
open Go.RowKit YtjloppfdagfpmaaDoorW.PrintWords YtjloppfdagfpmaaDoorW.PrintLast YtjloppfdagfpmaaDoorW.PrintMore YtjloppfdagfpmaaDoor.T
attribute [local go_sem] max2_int min2_int max_two min_two max_three min_three max_four min_four
theorem own_le {W : World} {e : TypeId} {size k base : Nat} {xs : List Value} {A : Option Addr} {c : Nat} (h : W.ownsRow base e size (.slice A (k + 1) c) (k + 1) xs) : base ≤ W.heap.size := by
 rcases h.2 with ⟨_, h0⟩ | ⟨g, cap, cur, _, hb, hg, _⟩
 ·omega
 ·have := (Array.getElem?_eq_some_iff.1 hg).1
  omega
theorem own_low {W : World} {base base2 : Nat} {e : TypeId} {size : Nat} {v : Value} {k : Nat} {xs : List Value} (h : W.ownsRow base e size v k xs) (hb : base2 ≤ base) : W.ownsRow base2 e size v k xs := by
 obtain ⟨h1, h2⟩ := h
 refine ⟨h1, ?_⟩
 rcases h2 with h2 | ⟨g, cap, cur, e1, hb1, r⟩
 ·exact .inl h2
 ·exact .inr ⟨g, cap, cur, e1, by omega, r⟩
theorem own_nil_or {W : World} {base : Nat} {A : Option Addr} {k cap : Nat} {xs : List Value} (h : W.ownsRow base 3 1 (.slice A k cap) k xs) : A = none → k = 0 ∧ k = 0 := fun e => by
 rcases h.2 with ⟨_, h0⟩ | ⟨g, cap, cur, e2, _⟩
 ·exact ⟨h0, h0⟩
 ·injection e2 with e3
  rw [e] at e3; cases e3
set_option maxHeartbeats 4000000 in
set_option maxRecDepth 100000 in
theorem refModel_calls (A0 : Option Addr) (c0 : Nat) (G : List Nat) (hG : Gr 9 G) (hc0 : G.length ≤ c0) (A1 : Option Addr) (c1 : Nat) (P : List Nat) (hP : Gr 6 P) (hc1 : P.length ≤ c1) : ∀ (d : Nat) (M : List Nat) (A : Option Addr) (cap B : Nat) (w : World) (met size : Nat), M.length + d = P.length → (∀ x ∈ M, x < 2 ^ G.length) → met < 512 → size ≤ 9 → B ≤ w.heap.size →
  Kd.C (Kd.int .i64) w A0 G.length (gi G) → Kd.C (Kd.int .i64) w A1 P.length (gi P) → w.ownsRow B 3 1 (.slice A M.length cap) M.length ((gi M).map (Value.int .i64)) →
  Calls Tryd.prog 72 #[.slice A0 G.length c0, .slice A1 P.length c1, .slice A M.length cap, .int .i64 (met : Int), .int .i64 (size : Int)] w fun e w' => ∃ A' n' c', e = .returned (.slice A' n' c') ∧ ((rM G P d M met size = none ∧ A' = none ∧ n' = 0 ∧ c' = 0) ∨ ∃ R, rM G P d M met size = some R ∧ n' = R.length ∧ w'.ownsRow B 3 1 (.slice A' n' c') R.length ((gi R).map (Value.int .i64)) ∧ ∃ g, A' = some g) ∧ Below w.heap.size w w' := by
 have hpn := hP.most
 have hpp := hP.pos
 intro d
 induction d with
 | zero =>
  intro M A cap B w met size hd hM hmet hsz hB hr0 hr1 ho
  have hk1 : ((M.length : Int) == (P.length : Int)) = true := beq_iff_eq.2 (by omega)
  have hsome : ∃ g, A = some g := by
   cases A with
   | none => have := (own_nil_or ho rfl).1; omega
   | some g => exact ⟨g, rfl⟩
  by_cases h0 : size = 0
  ·have h1 : ((size : Int) == 0) = true := beq_iff_eq.2 (by omega)
   go_enter Tryd.func72, Tryd.ntmps72
   go_wp2
   go_ret
   exact ⟨_, _, _, rfl, .inr ⟨M, by simp only [rM]; rw [if_pos h0], rfl, ho, hsome⟩, Below.refl _ _⟩
  ·have h1 : ((size : Int) == 0) = false := beq_eq_false_iff_ne.2 (by omega)
   go_enter Tryd.func72, Tryd.ntmps72
   go_wp2
   go_ret
   exact ⟨_, _, _, rfl, .inl ⟨by simp only [rM]; rw [if_neg h0], rfl, rfl, rfl⟩, Below.refl _ _⟩
 | succ d ih =>
  intro M A cap B w met size hd hM hmet hsz hB hr0 hr1 ho
  have hn := hG.most
  have IH := Aside0.mk ih
  have HM := Aside0.mk hM
  have HG := Aside0.mk hG
  have HP := Aside0.mk hP
  have HR0 := Aside0.mk hr0
  have HR1 := Aside0.mk hr1
  have HO := Aside0.mk ho
  have hk1 : ((M.length : Int) == (P.length : Int)) = false := beq_eq_false_iff_ne.2 (by omega)
  obtain ⟨T, hT⟩ : ∃ T, 2 ^ G.length = T + 1 := ⟨2 ^ G.length - 1, by have := Nat.two_pow_pos G.length; omega⟩
  have hT9 : T ≤ 511 := by
   have h9 : 2 ^ G.length ≤ 2 ^ 9 := Nat.pow_le_pow_right (by omega) hn
   rw [hT] at h9
   have e9 : (2 : Nat) ^ 9 = 512 := rfl
   omega
  obtain ⟨J, ⟨hJ1, hJ2, hJ3⟩, hJv⟩ := shJ G.length (by omega)
  rw [hT] at hJv
  have HJ := Aside0.mk (And.intro hJ1 (And.intro hJ2 hJ3))
  clear hJ1 hJ2 hJ3
  obtain ⟨R, hR⟩ : ∃ R, rM G P (d + 1) M met size = R := ⟨_, rfl⟩
  obtain ⟨F, hF⟩ : ∃ F : Nat → Option (List Nat), F = fun s => if okR G P M met size d s then rM G P d (M ++ [s]) (met ||| s) (size - pc s 9) else none := ⟨_, rfl⟩
  have HRF : Aside0 (((List.range' 1 T).drop 0).findSome? F = R) := ⟨by rw [← hR, hF]; simp only [rM, List.drop_zero]; rw [show 2 ^ G.length - 1 = T by omega]⟩
  have HFE : Aside0 (∀ s, F s = if okR G P M met size d s then rM G P d (M ++ [s]) (met ||| s) (size - pc s 9) else none) := ⟨fun s => by rw [hF]⟩
  have HT := Aside0.mk hT
  rw [hR]
  obtain ⟨i3, hi3, hq0, hq1, hq2⟩ := info_parts info3
  have heq_ := fun (w : World) (a : Option Addr) (n c : Nat) => run_neq_slice_nil_any (P := Tryd.prog) w 22 3 a n c 0 0 Tryd.underlying22
  have hnone := Aside0.mk (own_nil_or ho)
  have hcapM : M.length ≤ cap := by
   rcases ho.2 with ⟨e, h0⟩ | ⟨g, cap', cur, e, _, _, h1, _⟩
   ·injection e with e1 e2 e3; omega
   ·injection e with e1 e2 e3; omega
  have hcm1 : decide ((M.length : Int) ≤ (cap : Int)) = true := decide_eq_true (by omega)
  have hcm2 : ((M.length : Int) ≤ (cap : Int)) = True := eq_true (by omega)
  clear ih hM hG hP hr0 hr1 ho hT hF hR
  go_enter Tryd.func72, Tryd.ntmps72
  go_wp2
  go_loopg [12] T (fun kq v12 w' => ∃ i : Nat, v12 = .int .i64 (i : Int) ∧ i + kq = T + 1 ∧ 1 ≤ i ∧ i ≤ T + 1 ∧ Aside0 (((List.range' 1 T).drop (i - 1)).findSome? F = R) ∧ Aside0 (Below w.heap.size w w'))
  case atStart => exact ⟨1, rfl, by omega, by omega, by omega, HRF, ⟨Below.refl _ _⟩⟩
  case round =>
   clear HRF
   obtain ⟨i, rfl, hi, hi1, hi2, HA, HBW⟩ := hrel
   by_cases hil : i ≤ T
   ·have hj1 : ((i : Int) < J) = True := eq_true (by omega)
    have hj2 : decide ((i : Int) < J) = true := decide_eq_true (by omega)
    cases gk with
    | zero => omega
    | succ gi' =>
    have ha := HA.out
    have hkl : i - 1 < (List.range' 1 T).length := by rw [List.length_range']; omega
    rw [List.drop_eq_getElem_cons hkl, List.findSome?_cons, List.getElem_range', show 1 + 1 * (i - 1) = i by omega, show i - 1 + 1 = i + 1 - 1 by omega, HFE.out i] at ha
    clear hkl HA
    have hi5 : i < 512 := by omega
    have HIL : Aside0 (i < 2 ^ G.length) := ⟨by rw [HT.out]; omega⟩
    have hpc := pc_le i 9
    have han : Go.bits .and .i64 (i : Int) (met : Int) = ((i &&& met : Nat) : Int) := b_and _ _ (by omega) (by omega)
    have hor : Go.bits .or .i64 (met : Int) (i : Int) = ((met ||| i : Nat) : Int) := b_or _ _ (by omega) (by omega)
    have horl : met ||| i < 512 := Nat.or_lt_two_pow (n := 9) (by omega) (by omega)
    have CSZ : Aside0 (∀ W : World, Calls Tryd.prog 39 #[.int .i64 (i : Int)] W fun e w' => e = .returned (.int .i64 ((pc i 9 : Nat) : Int)) ∧ Drawn0 W w') := ⟨fun W => by
     obtain ⟨K, hK⟩ := size_ev i hi5
     exact lampblackref02_Size.calls K (i : Int) _ W (hK K (Nat.le_refl _))⟩
    have CCO : Aside0 (∀ W : World, Below w.heap.size w W → Calls Tryd.prog 18 #[.slice A0 G.length c0, .int .i64 (i : Int)] W fun e w' => e = .returned (.bool (conB G i)) ∧ Drawn0 W w') := ⟨fun W hW => by
     obtain ⟨K, hK⟩ := refConn G HG.out (i : Int)
     rw [conn_conB HG.out i HIL.out] at hK
     have := lampblackref02_Connected.calls K A0 c0 (gi G) (i : Int) _ W (by rw [gi_length]; exact Kd.C_below HR0.out hW) (by rw [gi_length]; exact hc0) (hK K (Nat.le_refl _))
     rw [gi_length] at this
     exact this⟩
    have CFI : Aside0 (∀ W : World, Below w.heap.size w W → Calls Tryd.prog 73 #[.slice A0 G.length c0, .slice A1 P.length c1, .slice A M.length cap, .int .i64 (M.length : Int), .int .i64 (i : Int)] W fun e w' => e = .returned (.bool (fitB G P M i M.length)) ∧ Drawn0 W w') := ⟨fun W hW => by
     obtain ⟨K, hK⟩ := refFits_ev G P M HG.out HP.out i HIL.out (by omega) HM.out
     have hro := own_kept HO.out (grown_of_below hW none) (fun _ _ e => by cases e)
     have hlen : M.length = (gi M).length := (gi_length M).symm
     rw [hlen] at hro
     have hC := C_of_row hro
     have := lampblackref07_fits.calls K A0 c0 (gi G) A1 c1 (gi P) A cap (gi M) (M.length : Int) (i : Int) _ W (by rw [gi_length]; exact Kd.C_below HR0.out hW) (by rw [gi_length]; exact hc0) (by rw [gi_length]; exact Kd.C_below HR1.out hW) (by rw [gi_length]; exact hc1) hC.2 hC.1 (hK K (Nat.le_refl _))
     simp only [gi_length] at this
     exact this⟩
    have HOK : Aside0 (okR G P M met size d i = (decide (i &&& met = 0) && decide (pc i 9 + d ≤ size) && conB G i && fitB G P M i M.length)) := ⟨rfl⟩
    have HAH := Aside0.mk ha
    clear ha
    by_cases hok : okR G P M met size d i = true
    ·have hall := hok
     rw [HOK.out] at hall
     simp only [Bool.and_eq_true, decide_eq_true_eq] at hall
     obtain ⟨⟨⟨ha0, hp1⟩, hcb⟩, hfb⟩ := hall
     rw [hcb] at CCO
     rw [hfb] at CFI
     have ht1 : ((((i &&& met : Nat) : Int)) != 0) = false := by rw [ha0]; rfl
     have hFx : F i = rM G P d (M ++ [i]) (met ||| i) (size - pc i 9) := by rw [HFE.out i, if_pos hok]
     have ha2 := HAH.out
     rw [← HFE.out i] at ha2
     have HREC : Aside0 (∀ W B' g c' (a : Int), a = (size : Int) - (pc i 9 : Int) → Below w.heap.size w W → B' ≤ W.heap.size → W.ownsRow B' 3 1 (.slice (some g) (M.length + 1) c') (M.length + 1) ((gi M).map (Value.int .i64) ++ [.int .i64 (i : Int)]) → Calls Tryd.prog 72 #[.slice A0 G.length c0, .slice A1 P.length c1, .slice (some g) (M.length + 1) c', .int .i64 ((met ||| i : Nat) : Int), .int .i64 a] W fun e w' => ∃ A' n' c', e = .returned (.slice A' n' c') ∧ ((F i = none ∧ A' = none ∧ n' = 0 ∧ c' = 0) ∨ ∃ R, F i = some R ∧ n' = R.length ∧ w'.ownsRow B' 3 1 (.slice A' n' c') R.length ((gi R).map (Value.int .i64)) ∧ ∃ g, A' = some g) ∧ Below W.heap.size W w') := ⟨fun W B' g c' a ea hW hB' hoW => by
      rw [hFx, ea, show ((size : Int) - (pc i 9 : Int)) = ((size - pc i 9 : Nat) : Int) by omega]
      have e1 : (M ++ [i]).length = M.length + 1 := by simp
      have := IH.out (M ++ [i]) (some g) c' B' W (met ||| i) (size - pc i 9) (by simp; omega) (fun y hy => by
       rcases List.mem_append.1 hy with hy | hy
       ·exact HM.out y hy
       ·rw [List.mem_singleton.1 hy]; exact HIL.out) horl (by omega) hB' (Kd.C_below HR0.out hW) (Kd.C_below HR1.out hW) (by rw [e1, show (gi (M ++ [i])).map (Value.int .i64) = (gi M).map (Value.int .i64) ++ [.int .i64 (i : Int)] by simp [gi]]; exact hoW)
      rw [e1] at this
      exact this⟩
     have hreadW : Aside0 (∀ W, Below w.heap.size w W → ∀ b, A = some b → ∀ (q : Nat) u, ((gi M).map (Value.int .i64))[q]? = some u → (W.alloc (.cells #[.int .i64 (i : Int)] 3)).cell? (b.add q) = some u) := ⟨fun W hW b hb q u hu => by
      have hq : q < (gi M).length := by have := (List.getElem?_eq_some_iff.1 hu).1; simpa using this
      have hro := own_kept HO.out (grown_of_below (below_alloc hW (.cells #[.int .i64 (i : Int)] 3)) none) (fun _ _ e => by cases e)
      rw [show M.length = (gi M).length from (gi_length M).symm] at hro
      obtain ⟨ad, e, hx⟩ := Kd.at_int (C_of_row hro).2 (q : Int) (by omega) (by omega)
      rw [hb] at e
      cases e
      rw [Int.toNat_natCast] at hx
      rw [hx]
      rw [List.getElem?_map, List.getElem?_eq_getElem hq] at hu
      unfold rd
      rw [Int.toNat_natCast, List.getD_eq_getElem?_getD, List.getElem?_eq_getElem hq]
      exact hu⟩
     clear hFx hok ha0 hcb hfb HFE HOK HAH IH HM HP horl
     cases hfx : F i with
     | none =>
      rw [hfx] at HREC ha2
      have HA2 : Aside0 (((List.range' 1 T).drop (i + 1 - 1)).findSome? F = R) := ⟨ha2⟩
      clear ha2 hfx
      go_wp2_with (first
       | (simp only [HJ.out.1, HJ.out.2.1, HJ.out.2.2])
       | (go_at_call 39; refine (CSZ.out _).mono ?_; rintro e w3 ⟨rfl, m, rfl⟩)
       | (go_at_call 18; refine (CCO.out _ (pw_below_drewN HBW.out _)).mono ?_; rintro e w3 ⟨rfl, m, rfl⟩)
       | (go_at_call 73; refine (CFI.out _ (pw_below_drewN HBW.out _)).mono ?_; rintro e w3 ⟨rfl, m, hm⟩; have HB3 : Aside0 (Below w.heap.size w w3) := ⟨by rw [hm]; exact pw_below_drewN (pw_below_drewN HBW.out _) _⟩; clear hm)
       | (at_builtin; refine wpList_append_grows _ rfl _ _ 22 rfl 3 i3 (.int .i64 0) 1 8 Tryd.underlying22 hi3 hq0 hq1 hq2 rfl (by decide) A M.length M.length ((gi M).map (Value.int .i64)) rfl hnone.out (by simp [gi]) (hreadW.out _ HB3.out) ⟨w3.heap.size, 0, none⟩ 1 1 [.int .i64 (i : Int)] rfl rfl (cell_one_new _ _ _) (by simp [Value.oneCell']) (by omega) (by unfold maxLen; omega) (by omega) ?_; intro v1 w1 hown1 hg1; obtain ⟨g1, cap1, rfl⟩ := own_succ hown1; have HB1 : Aside0 (Below w.heap.size w w1) := ⟨(below_alloc HB3.out (.cells #[.int .i64 (i : Int)] 3)).grown hg1 (by have := HB3.out.size; simp; omega) (fun k e => by cases e)⟩; have HW1 := Aside0.mk hown1; clear hown1 hg1)
       | (go_at_call 72; refine (HREC.out _ _ _ _ _ (by omega) HB1.out (own_le HW1.out) HW1.out).mono ?_; rintro e w9 ⟨A9, n9, c9, rfl, hv9, hb9⟩; obtain ⟨rfl, rfl, rfl⟩ : A9 = none ∧ n9 = 0 ∧ c9 = 0 := hv9.elim (fun h => h.2) (fun ⟨R, h, _⟩ => by cases h); have HB9 := Aside0.mk (below_step HB1.out hb9); clear hb9 hv9))
      go_roundg gi'
      case measure => omega
      case rel => exact ⟨i + 1, by go_num, by omega, by omega, by omega, HA2, HB9⟩
     | some Rr =>
      rw [hfx] at HREC ha2
      have hr2 : R = some Rr := ha2.symm
      subst hr2
      clear ha2 hfx
      go_wp2_with (first
       | (simp only [HJ.out.1, HJ.out.2.1, HJ.out.2.2])
       | (go_at_call 39; refine (CSZ.out _).mono ?_; rintro e w3 ⟨rfl, m, rfl⟩)
       | (go_at_call 18; refine (CCO.out _ (pw_below_drewN HBW.out _)).mono ?_; rintro e w3 ⟨rfl, m, rfl⟩)
       | (go_at_call 73; refine (CFI.out _ (pw_below_drewN HBW.out _)).mono ?_; rintro e w3 ⟨rfl, m, hm⟩; have HB3 : Aside0 (Below w.heap.size w w3) := ⟨by rw [hm]; exact pw_below_drewN (pw_below_drewN HBW.out _) _⟩; clear hm)
       | (at_builtin; refine wpList_append_grows _ rfl _ _ 22 rfl 3 i3 (.int .i64 0) 1 8 Tryd.underlying22 hi3 hq0 hq1 hq2 rfl (by decide) A M.length M.length ((gi M).map (Value.int .i64)) rfl hnone.out (by simp [gi]) (hreadW.out _ HB3.out) ⟨w3.heap.size, 0, none⟩ 1 1 [.int .i64 (i : Int)] rfl rfl (cell_one_new _ _ _) (by simp [Value.oneCell']) (by omega) (by unfold maxLen; omega) (by omega) ?_; intro v1 w1 hown1 hg1; obtain ⟨g1, cap1, rfl⟩ := own_succ hown1; have HB1 : Aside0 (Below w.heap.size w w1) := ⟨(below_alloc HB3.out (.cells #[.int .i64 (i : Int)] 3)).grown hg1 (by have := HB3.out.size; simp; omega) (fun k e => by cases e)⟩; have HW1 := Aside0.mk hown1; clear hown1 hg1)
       | (go_at_call 72; refine (HREC.out _ _ _ _ _ (by omega) HB1.out (own_le HW1.out) HW1.out).mono ?_; rintro e w9 ⟨A9, n9, c9, rfl, hv9, hb9⟩; obtain ⟨R9, h9, h9n, h9o, g9, rfl⟩ : ∃ R, some Rr = some R ∧ n9 = R.length ∧ w9.ownsRow _ 3 1 (.slice A9 n9 c9) R.length ((gi R).map (Value.int .i64)) ∧ ∃ g, A9 = some g := hv9.elim (fun h => by cases h.1) id; cases h9; subst h9n; have HB9 := Aside0.mk (below_step HB1.out hb9); have HO9 := Aside0.mk h9o; clear hb9 hv9 h9o))
      go_ret
      refine ⟨_, _, _, rfl, .inr ⟨Rr, rfl, rfl, ?_, _, rfl⟩, HB9.out⟩
      exact own_low HO9.out (by have := HB3.out.size; simp; omega)
    ·have hok' : okR G P M met size d i = false := by simpa using hok
     have HA2 : Aside0 (((List.range' 1 T).drop (i + 1 - 1)).findSome? F = R) := ⟨by
      have := HAH.out
      rw [hok'] at this
      simpa using this⟩
     have hok2 := hok'
     rw [HOK.out] at hok2
     clear hok hok' HFE HOK HAH IH HM HP horl hor
     by_cases ha0 : i &&& met = 0
     ·have ht1 : ((((i &&& met : Nat) : Int)) != 0) = false := by rw [ha0]; rfl
      by_cases hp1 : pc i 9 + d ≤ size
      ·rw [decide_eq_true ha0, decide_eq_true hp1] at hok2
       cases hcb : conB G i
       ·rw [hcb] at CCO
        clear ha0 hok2 hcb
        go_wp2_with (first
         | (simp only [HJ.out.1, HJ.out.2.1, HJ.out.2.2])
         | (go_at_call 39; refine (CSZ.out _).mono ?_; rintro e w3 ⟨rfl, m, rfl⟩)
         | (go_at_call 18; refine (CCO.out _ (pw_below_drewN HBW.out _)).mono ?_; rintro e w3 ⟨rfl, m, hm⟩; have HB2 : Aside0 (Below w.heap.size w w3) := ⟨by rw [hm]; exact pw_below_drewN (pw_below_drewN HBW.out _) _⟩; clear hm))
        go_roundg gi'
        case measure => omega
        case rel => exact ⟨i + 1, by go_num, by omega, by omega, by omega, HA2, HB2⟩
       ·rw [hcb] at CCO hok2
        have hfb : fitB G P M i M.length = false := by simpa using hok2
        rw [hfb] at CFI
        clear ha0 hok2 hcb hfb
        go_wp2_with (first
         | (simp only [HJ.out.1, HJ.out.2.1, HJ.out.2.2])
         | (go_at_call 39; refine (CSZ.out _).mono ?_; rintro e w3 ⟨rfl, m, rfl⟩)
         | (go_at_call 18; refine (CCO.out _ (pw_below_drewN HBW.out _)).mono ?_; rintro e w3 ⟨rfl, m, hm⟩; have HB2 : Aside0 (Below w.heap.size w w3) := ⟨by rw [hm]; exact pw_below_drewN (pw_below_drewN HBW.out _) _⟩; clear hm)
         | (go_at_call 73; refine (CFI.out _ HB2.out).mono ?_; rintro e w4 ⟨rfl, m, hm⟩; have HB3 : Aside0 (Below w.heap.size w w4) := ⟨by rw [hm]; exact pw_below_drewN HB2.out _⟩; clear hm))
        go_roundg gi'
        case measure => omega
        case rel => exact ⟨i + 1, by go_num, by omega, by omega, by omega, HA2, HB3⟩
      ·clear ha0 hok2
       go_wp2_with (first
        | (simp only [HJ.out.1, HJ.out.2.1, HJ.out.2.2])
        | (go_at_call 39; refine (CSZ.out _).mono ?_; rintro e w3 ⟨rfl, m, rfl⟩))
       go_roundg gi'
       case measure => omega
       case rel => exact ⟨i + 1, by go_num, by omega, by omega, by omega, HA2, ⟨by repeat (first | exact HBW.out | refine pw_below_drewN ?_ _)⟩⟩
     ·have ht1 : ((((i &&& met : Nat) : Int)) != 0) = true := by simp; omega
      clear ha0 hok2
      go_wp2_with (first
       | (simp only [HJ.out.1, HJ.out.2.1, HJ.out.2.2])
       | (go_at_call 39; refine (CSZ.out _).mono ?_; rintro e w3 ⟨rfl, m, rfl⟩))
      go_roundg gi'
      case measure => omega
      case rel => exact ⟨i + 1, by go_num, by omega, by omega, by omega, HA2, ⟨by repeat (first | exact HBW.out | refine pw_below_drewN ?_ _)⟩⟩
   ·have hj1 : ((i : Int) < J) = False := eq_false (by omega)
    have hj2 : decide ((i : Int) < J) = false := decide_eq_false (by omega)
    have ha := HA.out
    rw [List.drop_eq_nil_of_le (by rw [List.length_range']; omega)] at ha
    have hr2 : R = none := ha.symm
    subst hr2
    clear ha HA
    go_wp2_with (simp only [HJ.out.1, HJ.out.2.1, HJ.out.2.2])
    go_ret
    exact ⟨_, _, _, rfl, .inl ⟨trivial, rfl, rfl, rfl⟩, HBW.out⟩
def lampblackref07_Model.f (g p : List Int) : Option (List Int × Int) :=
 if (chk 8 g && chk 6 p) = true then some ((findN (g.map Int.toNat) (p.map Int.toNat)).elim ([], 4) fun M => (gi M, 0)) else none
set_option maxHeartbeats 4000000 in
set_option maxRecDepth 100000 in
theorem lampblackref07_Model.calls (A0 : Option Addr) (c0 : Nat) (l0 : List Int) (A1 : Option Addr) (c1 : Nat) (l1 : List Int) (r1 : List Int) (r2 : Int) (w : World) (hr0 : Kd.C (Kd.int .i64) w A0 l0.length l0) (hc0 : l0.length ≤ c0) (hr1 : Kd.C (Kd.int .i64) w A1 l1.length l1) (hc1 : l1.length ≤ c1) (h : lampblackref07_Model.f l0 l1 = some (r1, r2)) :
  Calls Tryd.prog 26 #[.slice A0 l0.length c0, .slice A1 l1.length c1] w fun e w' => ∃ v, e = .returned (.tuple #[v, .int .i64 r2]) ∧ Kd.R (Kd.int .i64) 3 w' w.heap.size (fun _ => True) v r1 ∧ Below w.heap.size w w' := by
 unfold lampblackref07_Model.f at h
 by_cases hgp : (chk 8 l0 && chk 6 l1) = true
 ·rw [if_pos hgp] at h
  have h := Option.some.inj h
  rw [Bool.and_eq_true] at hgp
  obtain ⟨G, rfl, hG⟩ := (chk_iff 8 (by omega) _).1 hgp.1
  obtain ⟨P, rfl, hP⟩ := (chk_iff 6 (by omega) _).1 hgp.2
  rw [gi_toNat, gi_toNat] at h
  simp only [gi_length] at hr0 hr1 hc0 hc1 h ⊢
  have hn := hG.most
  have hpn := hP.most
  have hp1 := hP.pos
  have HG := Aside0.mk (gr_mono hG (show 8 ≤ 9 by omega))
  have HP := Aside0.mk hP
  have HR0 := Aside0.mk hr0
  have HR1 := Aside0.mk hr1
  obtain ⟨T, hT⟩ : ∃ T, T = G.length + 1 - P.length := ⟨_, rfl⟩
  obtain ⟨F, hF⟩ : ∃ F : Nat → Option (List Nat), F = fun z => growN G P (setsN G) P.length [] 0 z := ⟨_, rfl⟩
  have HFE : Aside0 (∀ z, F z = rM G P P.length [] 0 z) := ⟨fun z => by
   rw [hF]
   obtain ⟨k, hk⟩ : ∃ k, P.length = k + 1 := ⟨P.length - 1, by omega⟩
   rw [hk]
   exact (rM_grow G P k [] 0 z).symm⟩
  obtain ⟨R, hR⟩ : ∃ R, findN G P = R := ⟨_, rfl⟩
  have HRF : Aside0 (((List.range' P.length T).drop 0).findSome? F = R) := ⟨by rw [← hR, hF, hT]; rfl⟩
  rw [hR] at h
  have HREC : Aside0 (∀ W (z : Nat), z ≤ 9 → Below w.heap.size w W → Calls Tryd.prog 72 #[.slice A0 G.length c0, .slice A1 P.length c1, .slice none 0 0, .int .i64 0, .int .i64 (z : Int)] W fun e w' => ∃ A' n' c', e = .returned (.slice A' n' c') ∧ ((F z = none ∧ A' = none ∧ n' = 0 ∧ c' = 0) ∨ ∃ R, F z = some R ∧ n' = R.length ∧ w'.ownsRow w.heap.size 3 1 (.slice A' n' c') R.length ((gi R).map (Value.int .i64)) ∧ ∃ g, A' = some g) ∧ Below W.heap.size W w') := ⟨fun W z hz hW => by
   rw [HFE.out z]
   exact refModel_calls A0 c0 G HG.out hc0 A1 c1 P HP.out hc1 P.length [] none 0 w.heap.size W 0 z (by simp) (fun _ h => by cases h) (by omega) hz hW.size (Kd.C_below HR0.out hW) (Kd.C_below HR1.out hW) (World.ownsRow_nil _ _ _ _)⟩
  have heq_ := fun (w : World) (a : Option Addr) (n c : Nat) => run_neq_slice_nil_any (P := Tryd.prog) w 22 3 a n c 0 0 Tryd.underlying22
  have HH := Aside0.mk h
  clear hF hR hG hP hr0 hr1 hgp h
  go_enter Tryd.func26, Tryd.ntmps26
  go_wp2
  go_loopg [6] T (fun kq v6 w' => ∃ (z : Nat), v6 = .int .i64 (z : Int) ∧ z + kq = P.length + T ∧ P.length ≤ z ∧ Aside0 (((List.range' P.length T).drop (z - P.length)).findSome? F = R) ∧ Aside0 (Below w.heap.size w w'))
  case atStart => exact ⟨P.length, rfl, by omega, by omega, by rw [Nat.sub_self]; exact HRF, ⟨Below.refl _ _⟩⟩
  case round =>
   clear HRF
   obtain ⟨z, rfl, hz, hz1, HA2, HBW⟩ := hrel
   by_cases hzl : z ≤ G.length
   ·have hj1 : ((z : Int) ≤ (G.length : Int)) = True := eq_true (by omega)
    have hj2 : decide ((z : Int) ≤ (G.length : Int)) = true := decide_eq_true (by omega)
    cases gk with
    | zero => omega
    | succ gi' =>
    have ha := HA2.out
    have hkl : z - P.length < (List.range' P.length T).length := by rw [List.length_range']; omega
    rw [List.drop_eq_getElem_cons hkl, List.findSome?_cons, List.getElem_range', show P.length + 1 * (z - P.length) = z by omega, show z - P.length + 1 = z + 1 - P.length by omega] at ha
    clear hkl HA2
    cases hfz : F z with
    | none =>
     have HG1 := Aside0.mk (HREC.out wr z (by omega) HBW.out)
     rw [hfz] at HG1 ha
     have HA3 : Aside0 (((List.range' P.length T).drop (z + 1 - P.length)).findSome? F = R) := ⟨ha⟩
     clear ha hfz
     go_wp2_with ((go_at_call 72; refine HG1.out.mono ?_; rintro e w9 ⟨A9, n9, c9, rfl, hv9, hb9⟩; obtain ⟨rfl, rfl, rfl⟩ : A9 = none ∧ n9 = 0 ∧ c9 = 0 := hv9.elim (fun h => h.2) (fun ⟨R, h, _⟩ => by cases h); have HB9 := Aside0.mk (below_step HBW.out hb9); clear hb9 hv9))
     go_roundg gi'
     case measure => omega
     case rel => exact ⟨z + 1, by go_num, by omega, by omega, HA3, HB9⟩
    | some Rr =>
     have HG1 := Aside0.mk (HREC.out wr z (by omega) HBW.out)
     rw [hfz] at HG1 ha
     have hr2 : R = some Rr := ha.symm
     subst hr2
     have hh := HH.out
     injection hh with h1 h2
     subst h1 h2
     clear ha hfz
     go_wp2_with ((go_at_call 72; refine HG1.out.mono ?_; rintro e w9 ⟨A9, n9, c9, rfl, hv9, hb9⟩; obtain ⟨R9, h9, h9n, h9o, g9, rfl⟩ : ∃ R, some Rr = some R ∧ n9 = R.length ∧ w9.ownsRow w.heap.size 3 1 (.slice A9 n9 c9) R.length ((gi R).map (Value.int .i64)) ∧ ∃ g, A9 = some g := hv9.elim (fun h => by cases h.1) id; cases h9; subst h9n; have HB9 := Aside0.mk (below_step HBW.out hb9); have HO9 := Aside0.mk h9o; clear hb9 hv9 h9o))
     go_ret2
     refine ⟨_, rfl, ?_, HB9.out⟩
     have h2 : w9.ownsRow w.heap.size 3 1 (.slice (some g9) Rr.length c9) (gi Rr).length ((gi Rr).map (Value.int .i64)) := by rw [gi_length]; exact HO9.out
     exact Kd.R_of_own (ok := fun _ => True) h2 (fun _ _ => trivial)
   ·have hj1 : ((z : Int) ≤ (G.length : Int)) = False := eq_false (by omega)
    have hj2 : decide ((z : Int) ≤ (G.length : Int)) = false := decide_eq_false (by omega)
    have ha := HA2.out
    rw [List.drop_eq_nil_of_le (by rw [List.length_range']; omega)] at ha
    have hr2 : R = none := ha.symm
    subst hr2
    have hh := HH.out
    injection hh with h1 h2
    subst h1 h2
    clear ha HA2
    go_wp2
    go_ret2
    exact ⟨_, rfl, Kd.R_nil _ _ _ _ _, HBW.out⟩
 ·rw [if_neg hgp] at h
  cases h
end Go.Proofs.YtjloppfdagfpmaaDoor.X
end
