/- Part 1 of what MinorFound rests on: contracts of the functions that it reaches, and what they compute, in plain words. -/
import Derived.Test.YtjloppfdagfpmaaDoorZMinorFound0
import Derived.WalkSpells
set_option linter.unusedVariables false
set_option linter.unusedSimpArgs false
section
/- minor.Check, by hand. -/
namespace Go.Proofs.YtjloppfdagfpmaaDoor.X
open Go.RowKit YtjloppfdagfpmaaDoorW.PrintWords YtjloppfdagfpmaaDoorW.PrintLast YtjloppfdagfpmaaDoorW.PrintMore YtjloppfdagfpmaaDoor.T
attribute [local go_sem] max2_int min2_int max_two min_two max_three min_three max_four min_four
set_option maxHeartbeats 4000000 in
set_option maxRecDepth 100000 in
theorem chk1 (mB tB sB : Nat) (A : Option Addr) (c : Nat) (L : List Int) (Ag : Option Addr) (cg : Nat) (G : List Nat) (hG : Gr 9 G) (hcg : G.length ≤ cg) (s : Nat) (hs : s < 2 ^ G.length) (j : Int) (hj : 0 ≤ j) (hj2 : j < (L.length : Int)) (w : World) (hGL : GL w) (hM : Kd.C (Kd.int .i64) w A L.length L) (hrg : Kd.C (Kd.int .i64) w Ag (gi G).length (gi G)) (h0 : w.cell? ⟨mB, 0, none⟩ = some (.slice A L.length c)) (h1 : w.cell? ⟨tB, 0, none⟩ = some (.slice Ag G.length cg)) (h2 : w.cell? ⟨sB, 0, none⟩ = some (.int .i64 (s : Int))) :
  Calls Tryd.prog 70 #[.int .i64 j, .pointer (some ⟨mB, 0, none⟩), .pointer (some ⟨tB, 0, none⟩), .pointer (some ⟨sB, 0, none⟩)] w fun e w' => e = .returned (.bool (Go.bits .and .i64 (rd L j) ((Around G s : Nat) : Int) == 0)) ∧ Below w.heap.size w w' := by
 obtain ⟨ad, e1, hgx⟩ := Kd.at_int hM j hj hj2
 subst e1
 have hi1 : (j < (L.length : Int)) = True := eq_true hj2
 have hi2 : decide (j < (L.length : Int)) = true := decide_eq_true hj2
 have hi3 : (0 ≤ j) = True := eq_true hj
 have hi4 : decide (0 ≤ j) = true := decide_eq_true hj
 have HGL := Aside0.mk hGL
 have HRG := Aside0.mk hrg
 have f0 := World.block_lt_of_cell? w _ h0
 have f1 := World.block_lt_of_cell? w _ h1
 have f2 := World.block_lt_of_cell? w _ h2
 have f3 := World.block_lt_of_cell? w _ hgx
 have HG := Aside0.mk hG
 generalize rd L j = x at *
 have CAR : Aside0 (∀ W, (W.cell? ⟨mB, 0, none⟩ = some (.slice (some ad) L.length c) ∧ W.cell? ⟨tB, 0, none⟩ = some (.slice Ag G.length cg) ∧ W.cell? ⟨sB, 0, none⟩ = some (.int .i64 (s : Int)) ∧ W.cell? (ad.add j.toNat) = some (.int .i64 x) ∧ Below w.heap.size w W) → Calls Tryd.prog 71 #[.slice Ag G.length cg, .int .i64 (s : Int)] W fun e w' => e = .returned (.int .i64 ((Around G s : Nat) : Int)) ∧ (w'.cell? ⟨mB, 0, none⟩ = some (.slice (some ad) L.length c) ∧ w'.cell? ⟨tB, 0, none⟩ = some (.slice Ag G.length cg) ∧ w'.cell? ⟨sB, 0, none⟩ = some (.int .i64 (s : Int)) ∧ w'.cell? (ad.add j.toNat) = some (.int .i64 x) ∧ Below w.heap.size w w')) := ⟨by
  rintro W ⟨_, _, _, _, hW⟩
  obtain ⟨K, hK⟩ := around_ev G HG.out s hs
  have h := minor_town_around.calls K Ag cg (gi G) (s : Int) _ W (GL_below HGL.out hW) (Kd.C_below HRG.out hW) (by rw [gi_length]; exact hcg) (hK K (Nat.le_refl _))
  rw [gi_length] at h
  refine h.mono ?_
  rintro e w' ⟨rfl, hb⟩
  have hB := below_step hW hb
  exact ⟨rfl, (hB.cell f0).trans h0, (hB.cell f1).trans h1, (hB.cell f2).trans h2, (hB.cell f3).trans hgx, hB⟩⟩
 clear hM hrg hGL hG
 have h0d : w.drew.cell? ⟨mB, 0, none⟩ = some (.slice (some ad) L.length c) := h0
 have h1d : w.drew.cell? ⟨tB, 0, none⟩ = some (.slice Ag G.length cg) := h1
 have h2d : w.drew.cell? ⟨sB, 0, none⟩ = some (.int .i64 (s : Int)) := h2
 have hgd : w.drew.cell? (ad.add j.toNat) = some (.int .i64 x) := hgx
 have hBd : Below w.heap.size w w.drew := below_drew (Below.refl _ _)
 generalize Around G s = ar at *
 clear hs HG
 go_enter Tryd.func70, Tryd.ntmps70
 go_wp2
 refine start_ (n := 10) (S := fun w' => w'.cell? ⟨mB, 0, none⟩ = some (.slice (some ad) L.length c) ∧ w'.cell? ⟨tB, 0, none⟩ = some (.slice Ag G.length cg) ∧ w'.cell? ⟨sB, 0, none⟩ = some (.int .i64 (s : Int)) ∧ w'.cell? (ad.add j.toNat) = some (.int .i64 x) ∧ Below w.heap.size w w') (ds := []) (Qbz 10 0) (by kernel_rfl) rfl rfl ⟨h0d, h1d, h2d, hgd, hBd⟩ (fun hHeld => ?_)
 refine pure_ (i := 1) (N := some 7) (v := ?_) (a' := ?_) (Qbz 10 2) rfl rfl (by kernel_rfl) (fun _ _ _ h => h) (Or.inl ⟨by rfl, ?_⟩) ?_ ?_
 rotate_left
 ·intro w'
  go_simp
  with_reducible rfl
 rotate_left
 ·simp only [Act.put, Qp1, Qp2, Qp3, i64_w, i32_w]
  rfl
 refine take_ (i := 0) (N := some 6) (v := ?_) (a' := ?_) (Qbz 10 3) rfl rfl (by kernel_rfl) (fun _ _ _ h => h) (Or.inl ⟨by rfl, ?_⟩) hHeld ?_ ?_
 rotate_left
 ·rintro w' ⟨s0, s1, s2, s3, s4⟩
  go_simp
  with_reducible rfl
 rotate_left
 ·simp only [Act.put, Qp1, Qp2, Qp3, i64_w, i32_w]
  rfl
 refine pure_ (i := 2) (N := some 8) (v := ?_) (a' := ?_) (Qbz 10 7) rfl rfl (by kernel_rfl) (fun _ _ _ h => h) (Or.inl ⟨by rfl, ?_⟩) ?_ ?_
 rotate_left
 ·intro w'
  go_simp
  with_reducible rfl
 rotate_left
 ·simp only [Act.put, Qp1, Qp2, Qp3, i64_w, i32_w]
  rfl
 refine take_ (i := 3) (N := some 9) (v := ?_) (a' := ?_) (Qbz 10 15) rfl rfl (by kernel_rfl) (fun _ _ _ h => h) (Or.inl ⟨by rfl, ?_⟩) hHeld ?_ ?_
 rotate_left
 ·rintro w' ⟨s0, s1, s2, s3, s4⟩
  go_simp
  with_reducible rfl
 rotate_left
 ·simp only [Act.put, Qp1, Qp2, Qp3, i64_w, i32_w]
  rfl
 refine take_ (i := 4) (N := some 10) (v := ?_) (a' := ?_) (Qbz 10 31) rfl rfl (by kernel_rfl) (fun _ _ _ h => h) (Or.inl ⟨by rfl, ?_⟩) hHeld ?_ ?_
 rotate_left
 ·rintro w' ⟨s0, s1, s2, s3, s4⟩
  go_simp
  with_reducible rfl
 rotate_left
 ·simp only [Act.put, Qp1, Qp2, Qp3, i64_w, i32_w]
  rfl
 refine take_ (i := 5) (N := some 11) (v := ?_) (a' := ?_) (Qbz 10 63) rfl rfl (by kernel_rfl) (fun _ _ _ h => h) (Or.inl ⟨by rfl, ?_⟩) hHeld ?_ ?_
 rotate_left
 ·rintro w' ⟨s0, s1, s2, s3, s4⟩
  go_simp
  with_reducible rfl
 rotate_left
 ·simp only [Act.put, Qp1, Qp2, Qp3, i64_w, i32_w]
  rfl
 refine one_ (i := 6) (N := some 12) (Qbz 10 127) rfl rfl (by kernel_rfl) (by decide) (fun K hK => ?_)
 refine goes_ Tryd.func71 (by kernel_rfl) rfl #[.slice Ag G.length cg, .int .i64 (s : Int)] (by rfl) rfl rfl (by simp only [List.map_toArray, List.map_cons, List.map_nil]; rfl) ?_
 with_reducible refine (CAR.out _ hHeld).mono ?_
 rintro e w3 ⟨rfl, g0, g1, g2, g3, gB⟩
 refine ⟨_, rfl, ?_⟩
 refine hK.out _ _ ⟨g0, g1, g2, g3, gB⟩ (fun hHeld => ?_)
 clear hK K
 refine norm_ (a' := ?_) ?_ ?_
 rotate_left
 ·show Act.put _ (some 12) _ = _
  simp only [Act.put, Qp1, Qp2, Qp3, i64_w, i32_w]
  rfl
 refine pure_ (i := 7) (N := some 13) (v := ?_) (a' := ?_) (Qbz 10 255) rfl rfl (by kernel_rfl) (fun _ _ _ h => h) (Or.inl ⟨by rfl, ?_⟩) ?_ ?_
 rotate_left
 ·intro w'
  go_simp
  with_reducible rfl
 rotate_left
 ·simp only [Act.put, Qp1, Qp2, Qp3, i64_w, i32_w]
  rfl
 refine pure_ (i := 8) (N := some 14) (v := ?_) (a' := ?_) (Qbz 10 511) rfl rfl (by kernel_rfl) (fun _ _ _ h => h) (Or.inl ⟨by rfl, ?_⟩) ?_ ?_
 rotate_left
 ·intro w'
  go_simp
  with_reducible rfl
 rotate_left
 ·simp only [Act.put, Qp1, Qp2, Qp3, i64_w, i32_w]
  rfl
 refine pure_ (i := 9) (N := some 5) (v := ?_) (a' := ?_) (Qbz 10 1023) rfl rfl (by kernel_rfl) (fun _ _ _ h => h) (Or.inl ⟨by rfl, ?_⟩) ?_ ?_
 rotate_left
 ·intro w'
  go_simp
  with_reducible rfl
 rotate_left
 ·simp only [Act.put, Qp1, Qp2, Qp3, i64_w, i32_w]
  rfl
 refine done_ (by kernel_rfl) ?_
 go_wp2
 go_ret
 exact ⟨rfl, hHeld.2.2.2.2⟩
set_option maxHeartbeats 2000000 in
theorem index_chk (A : Option Addr) (c : Nat) (l : List Int) (p : Int → Bool) (xB0 xB1 xB2 : Nat) (w : World) (hx : Kd.C (Kd.int .i64) w A l.length l) (hl : l.length ≤ 1000)
  (hp : ∀ W, Below w.heap.size w W → ∀ x ∈ l, Calls Tryd.prog 70 #[.int .i64 x, .pointer (some ⟨xB0, 0, none⟩), .pointer (some ⟨xB1, 0, none⟩), .pointer (some ⟨xB2, 0, none⟩)] W fun e w' => e = .returned (.bool (p x)) ∧ Below W.heap.size W w') :
  Calls Tryd.prog 93 #[.slice A l.length c, .func (.func 70) #[] #[.pointer (some ⟨xB0, 0, none⟩), .pointer (some ⟨xB1, 0, none⟩), .pointer (some ⟨xB2, 0, none⟩)]] w fun e w' => ∃ z, e = .returned (.int .i64 z) ∧ decide (z ≥ 0) = l.any p ∧ Below w.heap.size w w' := by
 have HX := Aside0.mk hx
 have HP := Aside0.mk hp
 clear hx hp
 go_enter Tryd.func93, Tryd.ntmps93
 go_wp2
 go_loopg [8] l.length (fun kq v8 w' => ∃ i : Nat, v8 = .int .i64 (i : Int) ∧ i + kq = l.length ∧ Aside0 ((l.drop i).any p = l.any p) ∧ Aside0 (Below w.heap.size w w'))
 case atStart => exact ⟨0, rfl, by omega, ⟨rfl⟩, ⟨Below.refl _ _⟩⟩
 case round =>
  obtain ⟨i, rfl, hi, HA, HB⟩ := hrel
  by_cases hil : i < l.length
  ·have hi1 : ((i : Int) < (l.length : Int)) = True := eq_true (by omega)
   have hi2 : decide ((i : Int) < (l.length : Int)) = true := decide_eq_true (by omega)
   cases gk with
   | zero => omega
   | succ gi =>
   obtain ⟨ad, e1, hgx⟩ := Kd.at_int (Kd.C_below HX.out HB.out) (i : Int) (by omega) (by omega)
   subst e1
   have hra : rd l (i : Int) = l[i] := by unfold rd; rw [Int.toNat_natCast, List.getD_eq_getElem?_getD, List.getElem?_eq_getElem hil]; rfl
   rw [hra, Int.toNat_natCast] at hgx
   have hm : l[i] ∈ l := List.getElem_mem hil
   have ha := HA.out
   rw [List.drop_eq_getElem_cons hil, List.any_cons] at ha
   have HC := Aside0.mk (HP.out wr HB.out _ hm)
   generalize l[i] = x at *
   clear hra HA
   cases hpx : p x
   ·rw [hpx] at HC ha
    have HA2 : Aside0 ((l.drop (i + 1)).any p = l.any p) := ⟨by simpa using ha⟩
    clear ha hpx hm
    go_wp2_with (go_at_call 70; refine HC.out.mono ?_; rintro e w3 ⟨rfl, hb⟩)
    go_roundg gi
    case measure => omega
    case rel => exact ⟨i + 1, by go_num, by omega, HA2, ⟨below_step HB.out hb⟩⟩
   ·rw [hpx] at HC ha
    have HA2 : Aside0 (true = l.any p) := ⟨by simpa using ha⟩
    clear ha hpx hm
    go_wp2_with (go_at_call 70; refine HC.out.mono ?_; rintro e w3 ⟨rfl, hb⟩)
    go_ret
    exact ⟨_, rfl, by rw [← HA2.out]; exact decide_eq_true (by omega), below_step HB.out hb⟩
  ·have hi1 : ((i : Int) < (l.length : Int)) = False := eq_false (by omega)
   have hi2 : decide ((i : Int) < (l.length : Int)) = false := decide_eq_false (by omega)
   have ha := HA.out
   rw [List.drop_eq_nil_of_le (by omega)] at ha
   have HA2 : Aside0 (false = l.any p) := ⟨ha⟩
   clear ha HA
   go_wp2
   go_ret
   exact ⟨_, rfl, by rw [← HA2.out]; rfl, HB.out⟩
theorem contains_chk (A : Option Addr) (c : Nat) (l : List Int) (p : Int → Bool) (xB0 xB1 xB2 : Nat) (w : World) (hx : Kd.C (Kd.int .i64) w A l.length l) (hl : l.length ≤ 1000)
  (hp : ∀ W, Below w.heap.size w W → ∀ x ∈ l, Calls Tryd.prog 70 #[.int .i64 x, .pointer (some ⟨xB0, 0, none⟩), .pointer (some ⟨xB1, 0, none⟩), .pointer (some ⟨xB2, 0, none⟩)] W fun e w' => e = .returned (.bool (p x)) ∧ Below W.heap.size W w') :
  Calls Tryd.prog 68 #[.slice A l.length c, .func (.func 70) #[] #[.pointer (some ⟨xB0, 0, none⟩), .pointer (some ⟨xB1, 0, none⟩), .pointer (some ⟨xB2, 0, none⟩)]] w fun e w' => e = .returned (.bool (l.any p)) ∧ Below w.heap.size w w' := by
 have HI := Aside0.mk (index_chk A c l p xB0 xB1 xB2 w hx hl hp)
 clear hx hl hp
 go_enter Tryd.func68, Tryd.ntmps68
 go_wp2_with (go_at_call 93; refine HI.out.mono ?_; rintro e w3 ⟨z, rfl, hz, hb⟩)
 go_ret
 exact ⟨by rw [← hz]; rfl, hb⟩
theorem read_sl (m : Nat) (hm : m ≤ 9) {g : List Int} (hl : g.length < 2 ^ 60) (A0 : Option Addr) (c0 : Nat) (w : World) (hr0 : Kd.C (Kd.int .i64) w A0 g.length g) (hc0 : g.length ≤ c0) :
  Calls Tryd.prog 63 #[.slice A0 g.length c0, .int .i64 (m : Int)] w fun e w' => ∃ A n c, e = .returned (.tuple #[.slice A n c, .bool (chk m g)]) ∧ Below w.heap.size w w' := by
 obtain ⟨K, hK⟩ := read_ev m hm g hl
 have hk := hK K (Nat.le_refl _)
 cases h : chk m g
 ·rw [h] at hk
  refine (minor_read.calls K (fun k_ => k_ < w.heap.size) A0 c0 g (m : Int) [] false w (Kd.V_mk hc0 (Kd.F_below (Kd.C_F (Kd.heap_int .i64) hr0) (Below.refl _ _))) hk).mono ?_
  rintro e w' ⟨v, rfl, hv, hb⟩
  obtain ⟨A1, c1, rfl⟩ := Kd.V_slice hv
  exact ⟨_, _, _, rfl, hb⟩
 ·rw [h] at hk
  refine (minor_read.calls K (fun k_ => k_ < w.heap.size) A0 c0 g (m : Int) g true w (Kd.V_mk hc0 (Kd.F_below (Kd.C_F (Kd.heap_int .i64) hr0) (Below.refl _ _))) hk).mono ?_
  rintro e w' ⟨v, rfl, hv, hb⟩
  obtain ⟨A1, c1, rfl⟩ := Kd.V_slice hv
  exact ⟨_, _, _, rfl, hb⟩
def chkM (G P : List Nat) : List Int → List Nat → Nat → Bool
 | [], _, _ => true
 | x :: r, M, used => decide (0 ≤ x) && decide (x < ((2 ^ G.length : Nat) : Int)) && decide (x.toNat &&& used = 0) && conB G x.toNat && fitB G P M x.toNat M.length && chkM G P r (M ++ [x.toNat]) (used ||| x.toNat)
def minor_Check.f (g p l : List Int) : Option (Bool × Int) :=
 if g.length < 1000 ∧ p.length < 1000 ∧ l.length < 1000 then some (if (chk 8 g && chk 6 p) = true then (if l.length = p.length then (chkM (g.map Int.toNat) (p.map Int.toNat) l [] 0, 0) else (false, 0)) else (false, 2)) else none
theorem rd_take {L : List Int} {M : List Nat} {i j : Nat} (h : L.take i = gi M) (hj : j < i) (hl : i ≤ L.length) : rd L (j : Int) = rd (gi M) (j : Int) := by
 rw [← h]
 unfold rd
 rw [Int.toNat_natCast, List.getD_eq_getElem?_getD, List.getD_eq_getElem?_getD, List.getElem?_take, if_pos hj]
set_option maxHeartbeats 16000000 in
set_option maxRecDepth 100000 in
theorem minor_Check.calls (A0 : Option Addr) (c0 : Nat) (l0 : List Int) (A1 : Option Addr) (c1 : Nat) (l1 : List Int) (A2 : Option Addr) (c2 : Nat) (l2 : List Int) (r1 : Bool) (r2 : Int) (w : World) (hGL : GL w) (hr0 : Kd.C (Kd.int .i64) w A0 l0.length l0) (hc0 : l0.length ≤ c0) (hr1 : Kd.C (Kd.int .i64) w A1 l1.length l1) (hc1 : l1.length ≤ c1) (hr2 : Kd.C (Kd.int .i64) w A2 l2.length l2) (hc2 : l2.length ≤ c2) (h : minor_Check.f l0 l1 l2 = some (r1, r2)) :
  Calls Tryd.prog 23 #[.slice A0 l0.length c0, .slice A1 l1.length c1, .slice A2 l2.length c2] w fun e w' => e = .returned (.tuple #[.bool r1, .int .i64 r2]) ∧ Below w.heap.size w w' := by
 unfold minor_Check.f at h
 by_cases hlen : l0.length < 1000 ∧ l1.length < 1000 ∧ l2.length < 1000
 ·rw [if_pos hlen] at h
  have h := Option.some.inj h
  have hl2 := hlen.2.2
  have HC1 : Aside0 (∀ W, Below w.heap.size w W → Calls Tryd.prog 63 #[.slice A0 l0.length c0, .int .i64 8] W fun e w' => ∃ v, e = .returned (.tuple #[v, .bool (chk 8 l0)]) ∧ (chk 8 l0 = true → ∃ A1 c1, v = .slice A1 l0.length c1 ∧ l0.length ≤ c1 ∧ Kd.C (Kd.int .i64) w' A1 l0.length l0) ∧ Below W.heap.size W w') := ⟨fun W hW => read_any 8 (by omega) (by omega) A0 c0 W (Kd.C_below hr0 hW) hc0⟩
  have HC2 : Aside0 (∀ W, Below w.heap.size w W → Calls Tryd.prog 63 #[.slice A1 l1.length c1, .int .i64 6] W fun e w' => ∃ v, e = .returned (.tuple #[v, .bool (chk 6 l1)]) ∧ (chk 6 l1 = true → ∃ A c, v = .slice A l1.length c ∧ l1.length ≤ c ∧ Kd.C (Kd.int .i64) w' A l1.length l1) ∧ Below W.heap.size W w') := ⟨fun W hW => read_any 6 (by omega) (by omega) A1 c1 W (Kd.C_below hr1 hW) hc1⟩
  have HS1 : Aside0 (∀ W, Below w.heap.size w W → Calls Tryd.prog 63 #[.slice A0 l0.length c0, .int .i64 8] W fun e w' => ∃ A n c, e = .returned (.tuple #[.slice A n c, .bool (chk 8 l0)]) ∧ Below W.heap.size W w') := ⟨fun W hW => read_sl 8 (by omega) (by omega) A0 c0 W (Kd.C_below hr0 hW) hc0⟩
  have HGL := Aside0.mk hGL
  have HR2 := Aside0.mk hr2
  clear hlen
  cases hg : chk 8 l0
  ·rw [hg] at h HS1
   injection h with h1 h2
   subst h1 h2
   clear hg hr0 hr1 hr2
   go_enter Tryd.func23, Tryd.ntmps23
   go_wp2_with (first
    | ((with_reducible refine gate_dst (N := 5) rfl ?_); refine box_event ?hg (N := 5) ?hd (cs := #[.slice A2 l2.length c2]) (t := 22) ?hr ?_; (case hd => rfl); (case hg => rfl); (case hr => first | (go_simp; done) | (go_simp; rfl)); intro mB hga w1 hbox hb1; have HB1 := Aside0.mk hb1; have HM1 := Aside0.mk hbox; clear hga hbox hb1)
    | (go_at_call 63; refine (HC2.out _ (below_alloc HB2.out _)).mono ?_; rintro e w4 ⟨v2, rfl, _, hb4⟩; have HB4 := Aside0.mk (below_step (below_alloc HB2.out _) hb4); clear hb4)
    | (go_at_call 63; refine (HS1.out _ HB1.out).mono ?_; rintro e w2 ⟨A5, n5, c5, rfl, hb2⟩; have HB2 := Aside0.mk (below_step HB1.out hb2); clear hb2))
   go_ret2
   exact ⟨rfl, HB4.out⟩
  ·cases hp : chk 6 l1
   ·rw [hg, hp] at h
    rw [hg] at HS1
    rw [hp] at HC2
    injection h with h1 h2
    subst h1 h2
    clear hg hp hr0 hr1 hr2
    go_enter Tryd.func23, Tryd.ntmps23
    go_wp2_with (first
     | ((with_reducible refine gate_dst (N := 5) rfl ?_); refine box_event ?hg (N := 5) ?hd (cs := #[.slice A2 l2.length c2]) (t := 22) ?hr ?_; (case hd => rfl); (case hg => rfl); (case hr => first | (go_simp; done) | (go_simp; rfl)); intro mB hga w1 hbox hb1; have HB1 := Aside0.mk hb1; have HM1 := Aside0.mk hbox; clear hga hbox hb1)
     | (go_at_call 63; refine (HC2.out _ (below_alloc HB2.out _)).mono ?_; rintro e w4 ⟨v2, rfl, _, hb4⟩; have HB4 := Aside0.mk (below_step (below_alloc HB2.out _) hb4); clear hb4)
     | (go_at_call 63; refine (HS1.out _ HB1.out).mono ?_; rintro e w2 ⟨A5, n5, c5, rfl, hb2⟩; have HB2 := Aside0.mk (below_step HB1.out hb2); clear hb2))
    go_ret2
    exact ⟨rfl, HB4.out⟩
   ·rw [hg, hp] at h
    rw [hg] at HC1
    rw [hp] at HC2
    obtain ⟨G, rfl, hG⟩ := (chk_iff 8 (by omega) _).1 hg
    obtain ⟨P, rfl, hP⟩ := (chk_iff 6 (by omega) _).1 hp
    rw [gi_toNat, gi_toNat] at h
    simp only [gi_length] at HC1 HC2 hr0 hr1 hc0 hc1 h ⊢
    have hn := hG.most
    have hpn := hP.most
    have HG := Aside0.mk (gr_mono hG (show 8 ≤ 9 by omega))
    have HP := Aside0.mk hP
    clear hg hp hr0 hr1 hr2 hG hP hGL HS1
    by_cases hLP : l2.length = P.length
    ·have hlp1 : ((l2.length : Int) != (P.length : Int)) = false := by simp [hLP]
     simp only [Bool.and_self, if_true, if_pos hLP] at h
     injection h with h1 h2
     subst h2
     have HRR := Aside0.mk h1
     clear h1
     go_enter Tryd.func23, Tryd.ntmps23
     go_wp2_with (first
      | ((with_reducible refine gate_dst (N := 5) rfl ?_); refine box_event ?hg (N := 5) ?hd (cs := #[.slice A2 l2.length c2]) (t := 22) ?hr ?_; (case hd => rfl); (case hg => rfl); (case hr => first | (go_simp; done) | (go_simp; rfl)); intro mB hga w1 hbox hb1; have HB1 := Aside0.mk hb1; have HM1 := Aside0.mk hbox; clear hga hbox hb1)
      | (go_at_call 63; refine (HC2.out _ (below_alloc HB2.out _)).mono ?_; rintro e w4 ⟨v2, rfl, hv2, hb4⟩; obtain ⟨A6, c6, rfl, hc6, hC6⟩ := hv2 trivial; have HB4 := Aside0.mk (below_step (below_alloc HB2.out _) hb4); have HC6 := Aside0.mk hC6; have HC5b := Aside0.mk (Kd.C_below (Kd.C_below HC5.out (below_alloc (Below.refl _ _) (.cells #[.slice A5 G.length c5] 79))) hb4); have hm2 : w2.heap[mB]? = some (.cells #[.slice A2 l2.length c2] 22 (0, 0)) := blk_below HM1.out HB12.out; have hm4 : w4.cell? ⟨mB, 0, none⟩ = some (.slice A2 l2.length c2) := (blk_cell (blk_below (blk_alloc hm2 _) hb4) 0).trans rfl; have ht4 : w4.cell? ⟨w2.heap.size, 0, none⟩ = some (.slice A5 G.length c5) := (blk_cell (blk_below (blk_new w2 (.cells #[.slice A5 G.length c5] 79)) hb4) 0).trans rfl; clear hb4 hv2 hC6 hm2)
      | (go_at_call 63; refine (HC1.out _ HB1.out).mono ?_; rintro e w2 ⟨v1, rfl, hv1, hb2⟩; obtain ⟨A5, c5, rfl, hc5, hC5⟩ := hv1 trivial; have HC5 := Aside0.mk hC5; clear hC5; have HB2 := Aside0.mk (below_step HB1.out hb2); have HB12 := Aside0.mk hb2; clear hb2 hv1))
     obtain ⟨R, hR⟩ : ∃ R, r1 = R := ⟨_, rfl⟩
     subst hR
     go_loopg [12, 38] l2.length (fun kq v12 v38 w' => ∃ (i used : Nat) (M : List Nat), v12 = .int .i64 (used : Int) ∧ v38 = .int .i64 (i : Int) ∧ i + kq = l2.length ∧ used < 512 ∧ Aside0 (M.length = i ∧ l2.take i = gi M ∧ (∀ x ∈ M, x < 2 ^ G.length) ∧ used < 2 ^ G.length) ∧ Aside0 (chkM G P (l2.drop i) M used = r1) ∧ Aside0 (Below w4.heap.size w4 w'))
     case atStart => exact ⟨0, 0, [], rfl, rfl, by omega, by omega, ⟨rfl, rfl, (fun _ h => by cases h), Nat.two_pow_pos _⟩, HRR, ⟨Below.refl _ _⟩⟩
     case round =>
      clear HRR
      obtain ⟨i, used, M, rfl, rfl, hi, hu, HM, HA, HBW⟩ := hrel
      by_cases hil : i < l2.length
      ·have hi1 : ((i : Int) < (l2.length : Int)) = True := eq_true (by omega)
       have hi2 : decide ((i : Int) < (l2.length : Int)) = true := decide_eq_true (by omega)
       have hiP : decide ((i : Int) < (P.length : Int)) = true := decide_eq_true (by omega)
       have hiP1 : ((i : Int) < (P.length : Int)) = True := eq_true (by omega)
       cases gk with
       | zero => omega
       | succ gi' =>
       obtain ⟨ad, e1, hgx⟩ := Kd.at_int (Kd.C_below HR2.out (below_step HB4.out HBW.out)) (i : Int) (by omega) (by omega)
       subst e1
       have hra : rd l2 (i : Int) = l2[i] := by unfold rd; rw [Int.toNat_natCast, List.getD_eq_getElem?_getD, List.getElem?_eq_getElem hil]; rfl
       rw [hra, Int.toNat_natCast] at hgx
       have ha := HA.out
       rw [List.drop_eq_getElem_cons hil] at ha
       have htk : l2.take (i + 1) = l2.take i ++ [l2[i]] := by rw [List.take_add_one, List.getElem?_eq_getElem hil]; rfl
       generalize l2[i] = x at *
       have HTK := Aside0.mk htk
       simp only [chkM] at ha
       have HAH := Aside0.mk ha
       clear hra htk ha HA
       obtain ⟨A, hA⟩ : ∃ A, 2 ^ G.length = A + 1 := ⟨2 ^ G.length - 1, by have := Nat.two_pow_pos G.length; omega⟩
       have hA9 : A ≤ 511 := by
        have h9 : 2 ^ G.length ≤ 2 ^ 9 := Nat.pow_le_pow_right (by omega) (by omega)
        rw [hA] at h9
        have e9 : (2 : Nat) ^ 9 = 512 := rfl
        omega
       have HAL := Aside0.mk hA
       clear hA
       obtain ⟨sB, hsB⟩ : ∃ sB, wr.heap.size = sB := ⟨_, rfl⟩
       obtain ⟨w9, hw9⟩ : ∃ w9 : World, w9 = wr.alloc (Obj.cells #[.int .i64 x] 3) := ⟨_, rfl⟩
       have ha9 : w9.cell? ⟨sB, 0, none⟩ = some (.int .i64 x) := by rw [hw9, ← hsB]; exact (blk_cell (show (wr.heap.push _)[wr.heap.size]? = _ from Array.getElem?_push_size) 0).trans rfl
       have HB9 : Aside0 (Below wr.heap.size wr w9) := ⟨by rw [hw9]; exact below_alloc (Below.refl _ _) _⟩
       have HBF := Aside0.mk (below_step HBW.out HB9.out)
       have ht9 : w9.cell? ⟨w2.heap.size, 0, none⟩ = some (.slice A5 G.length c5) := (HBF.out.cell (World.block_lt_of_cell? w4 _ ht4)).trans ht4
       have f0d : w9.drew.cell? ⟨sB, 0, none⟩ = some (.int .i64 x) := ha9
       have f1d : w9.drew.cell? ⟨w2.heap.size, 0, none⟩ = some (.slice A5 G.length c5) := ht9
       have fBd : Below w9.heap.size w9 w9.drew := below_drew (Below.refl _ _)
       have hlt9a := World.block_lt_of_cell? w9 _ ha9
       have hlt9b := World.block_lt_of_cell? w9 _ ht9
       have KEEP : Aside0 (∀ W, Below w9.heap.size w9 W → W.cell? ⟨sB, 0, none⟩ = some (.int .i64 x) ∧ W.cell? ⟨w2.heap.size, 0, none⟩ = some (.slice A5 G.length c5) ∧ Below w9.heap.size w9 W) := ⟨fun W hW => ⟨(hW.cell hlt9a).trans ha9, (hW.cell hlt9b).trans ht9, hW⟩⟩
       have CALL : Aside0 (∀ W, (W.cell? ⟨sB, 0, none⟩ = some (.int .i64 x) ∧ W.cell? ⟨w2.heap.size, 0, none⟩ = some (.slice A5 G.length c5) ∧ Below w9.heap.size w9 W) → Calls Tryd.prog 66 #[.slice A5 G.length c5] W fun e w' => e = .returned (.int .i64 (A : Int)) ∧ (w'.cell? ⟨sB, 0, none⟩ = some (.int .i64 x) ∧ w'.cell? ⟨w2.heap.size, 0, none⟩ = some (.slice A5 G.length c5) ∧ Below w9.heap.size w9 w')) := ⟨fun W hW => by
        have hall : minor_town_all.f (gi G) = some (A : Int) := by rw [all_eq G (by omega), HAL.out]; rfl
        have hC := Kd.C_below HC5b.out (below_step HBF.out hW.2.2)
        have := minor_town_all.calls A5 c5 (gi G) _ W (by rw [gi_length]; exact hC) (by rw [gi_length]; exact hc5) hall
        rw [gi_length] at this
        exact this.mono fun e w' ⟨h, m, hm⟩ => ⟨h, KEEP.out w' (by rw [hm]; exact pw_below_drewN hW.2.2 m)⟩⟩
       clear hlt9a hlt9b
       by_cases hx0 : x < 0
       ·have HNO : Aside0 (false = r1) := ⟨by
         have := HAH.out
         rw [decide_eq_false (by omega : ¬ 0 ≤ x)] at this
         simpa using this⟩
        have hr1 := HNO.out
        subst hr1
        have hx1 : decide (x < 0) = true := decide_eq_true hx0
        go_wp2
        rw [← hw9]
        refine start_ (n := 20) (S := fun w' => w'.cell? ⟨sB, 0, none⟩ = some (.int .i64 x) ∧ w'.cell? ⟨w2.heap.size, 0, none⟩ = some (.slice A5 G.length c5) ∧ Below w9.heap.size w9 w') (ds := []) (Qbz 20 0) (by kernel_rfl) rfl rfl ⟨f0d, f1d, fBd⟩ (fun hHeld => ?_)
        refine take_ (i := 0) (N := some 43) (v := ?_) (a' := ?_) (Qbz 20 1) rfl rfl (by kernel_rfl) (fun _ _ _ h => h) (Or.inl ⟨by rfl, ?_⟩) hHeld ?_ ?_
        rotate_left
        ·rintro w' ⟨s0, s1, s2⟩
         go_simp
         with_reducible rfl
        rotate_left
        ·simp only [Act.put, Qp1, Qp2, Qp3, i64_w, i32_w]
         rfl
        refine pure_ (i := 1) (N := some 44) (v := ?_) (a' := ?_) (Qbz 20 3) rfl rfl (by kernel_rfl) (fun _ _ _ h => h) (Or.inl ⟨by rfl, ?_⟩) ?_ ?_
        rotate_left
        ·intro w'
         go_simp
         with_reducible rfl
        rotate_left
        ·simp only [Act.put, Qp1, Qp2, Qp3, i64_w, i32_w]
         rfl
        refine pure_ (i := 2) (N := some 45) (v := ?_) (a' := ?_) (Qbz 20 7) rfl rfl (by kernel_rfl) (fun _ _ _ h => h) (Or.inl ⟨by rfl, ?_⟩) ?_ ?_
        rotate_left
        ·intro w'
         go_simp
         with_reducible rfl
        rotate_left
        ·simp only [Act.put, Qp1, Qp2, Qp3, i64_w, i32_w]
         rfl
        refine pure_ (i := 3) (N := some 46) (v := undef) (a' := ?_) (Qbz 20 15) rfl rfl (by kernel_rfl) (fun _ _ _ h => h) (Or.inr ⟨by rfl, rfl⟩) ?_ ?_
        rotate_left
        ·simp only [Act.put, Qp1, Qp2, Qp3, i64_w, i32_w]
         rfl
        refine pure_ (i := 4) (N := some 47) (v := undef) (a' := ?_) (Qbz 20 31) rfl rfl (by kernel_rfl) (fun _ _ _ h => h) (Or.inr ⟨by rfl, rfl⟩) ?_ ?_
        rotate_left
        ·simp only [Act.put, Qp1, Qp2, Qp3, i64_w, i32_w]
         rfl
        refine pure_ (i := 5) (N := some 48) (v := undef) (a' := ?_) (Qbz 20 63) rfl rfl (by kernel_rfl) (fun _ _ _ h => h) (Or.inr ⟨by rfl, rfl⟩) ?_ ?_
        rotate_left
        ·simp only [Act.put, Qp1, Qp2, Qp3, i64_w, i32_w]
         rfl
        refine pure_ (i := 6) (N := some 49) (v := undef) (a' := ?_) (Qbz 20 127) rfl rfl (by kernel_rfl) (fun _ _ _ h => h) (Or.inr ⟨by rfl, rfl⟩) ?_ ?_
        rotate_left
        ·simp only [Act.put, Qp1, Qp2, Qp3, i64_w, i32_w]
         rfl
        refine pure_ (i := 7) (N := some 50) (v := ?_) (a' := ?_) (Qbz 20 255) rfl rfl (by kernel_rfl) (fun _ _ _ h => h) (Or.inl ⟨by rfl, ?_⟩) ?_ ?_
        rotate_left
        ·intro w'
         go_simp
         with_reducible rfl
        rotate_left
        ·simp only [Act.put, Qp1, Qp2, Qp3, i64_w, i32_w]
         rfl
        refine pure_ (i := 8) (N := some 51) (v := ?_) (a' := ?_) (Qbz 20 511) rfl rfl (by kernel_rfl) (fun _ _ _ h => h) (Or.inl ⟨by rfl, ?_⟩) ?_ ?_
        rotate_left
        ·intro w'
         go_simp
         with_reducible rfl
        rotate_left
        ·simp only [Act.put, Qp1, Qp2, Qp3, i64_w, i32_w]
         rfl
        refine pure_ (i := 9) (N := some 52) (v := undef) (a' := ?_) (Qbz 20 1023) rfl rfl (by kernel_rfl) (fun _ _ _ h => h) (Or.inr ⟨by rfl, rfl⟩) ?_ ?_
        rotate_left
        ·simp only [Act.put, Qp1, Qp2, Qp3, i64_w, i32_w]
         rfl
        refine pure_ (i := 10) (N := some 53) (v := undef) (a' := ?_) (Qbz 20 2047) rfl rfl (by kernel_rfl) (fun _ _ _ h => h) (Or.inr ⟨by rfl, rfl⟩) ?_ ?_
        rotate_left
        ·simp only [Act.put, Qp1, Qp2, Qp3, i64_w, i32_w]
         rfl
        refine pure_ (i := 11) (N := some 54) (v := undef) (a' := ?_) (Qbz 20 4095) rfl rfl (by kernel_rfl) (fun _ _ _ h => h) (Or.inr ⟨by rfl, rfl⟩) ?_ ?_
        rotate_left
        ·simp only [Act.put, Qp1, Qp2, Qp3, i64_w, i32_w]
         rfl
        refine pure_ (i := 12) (N := some 55) (v := undef) (a' := ?_) (Qbz 20 8191) rfl rfl (by kernel_rfl) (fun _ _ _ h => h) (Or.inr ⟨by rfl, rfl⟩) ?_ ?_
        rotate_left
        ·simp only [Act.put, Qp1, Qp2, Qp3, i64_w, i32_w]
         rfl
        refine pure_ (i := 13) (N := some 56) (v := ?_) (a' := ?_) (Qbz 20 16383) rfl rfl (by kernel_rfl) (fun _ _ _ h => h) (Or.inl ⟨by rfl, ?_⟩) ?_ ?_
        rotate_left
        ·intro w'
         go_simp
         with_reducible rfl
        rotate_left
        ·simp only [Act.put, Qp1, Qp2, Qp3, i64_w, i32_w]
         rfl
        refine pure_ (i := 14) (N := some 57) (v := ?_) (a' := ?_) (Qbz 20 32767) rfl rfl (by kernel_rfl) (fun _ _ _ h => h) (Or.inl ⟨by rfl, ?_⟩) ?_ ?_
        rotate_left
        ·intro w'
         go_simp
         with_reducible rfl
        rotate_left
        ·simp only [Act.put, Qp1, Qp2, Qp3, i64_w, i32_w]
         rfl
        refine pure_ (i := 15) (N := some 58) (v := undef) (a' := ?_) (Qbz 20 65535) rfl rfl (by kernel_rfl) (fun _ _ _ h => h) (Or.inr ⟨by rfl, rfl⟩) ?_ ?_
        rotate_left
        ·simp only [Act.put, Qp1, Qp2, Qp3, i64_w, i32_w]
         rfl
        refine pure_ (i := 16) (N := some 59) (v := undef) (a' := ?_) (Qbz 20 131071) rfl rfl (by kernel_rfl) (fun _ _ _ h => h) (Or.inr ⟨by rfl, rfl⟩) ?_ ?_
        rotate_left
        ·simp only [Act.put, Qp1, Qp2, Qp3, i64_w, i32_w]
         rfl
        refine pure_ (i := 17) (N := some 60) (v := undef) (a' := ?_) (Qbz 20 262143) rfl rfl (by kernel_rfl) (fun _ _ _ h => h) (Or.inr ⟨by rfl, rfl⟩) ?_ ?_
        rotate_left
        ·simp only [Act.put, Qp1, Qp2, Qp3, i64_w, i32_w]
         rfl
        refine pure_ (i := 18) (N := some 61) (v := undef) (a' := ?_) (Qbz 20 524287) rfl rfl (by kernel_rfl) (fun _ _ _ h => h) (Or.inr ⟨by rfl, rfl⟩) ?_ ?_
        rotate_left
        ·simp only [Act.put, Qp1, Qp2, Qp3, i64_w, i32_w]
         rfl
        refine pure_ (i := 19) (N := some 62) (v := ?_) (a' := ?_) (Qbz 20 1048575) rfl rfl (by kernel_rfl) (fun _ _ _ h => h) (Or.inl ⟨by rfl, ?_⟩) ?_ ?_
        rotate_left
        ·intro w'
         go_simp
         with_reducible rfl
        rotate_left
        ·simp only [Act.put, Qp1, Qp2, Qp3, i64_w, i32_w]
         rfl
        refine done_ (by kernel_rfl) ?_
        go_wp2
        go_ret2
        exact ⟨rfl, below_step HB4.out (below_step HBW.out (below_step HB9.out hHeld.2.2))⟩
       ·have hx1 : decide (x < 0) = false := decide_eq_false hx0
        by_cases hxA : (A : Int) < x
        ·have HNO : Aside0 (false = r1) := ⟨by
          have := HAH.out
          rw [decide_eq_false (by rw [HAL.out]; omega : ¬ x < ((2 ^ G.length : Nat) : Int))] at this
          simpa using this⟩
         have hr1 := HNO.out
         subst hr1
         have hx2 : decide ((A : Int) < x) = true := decide_eq_true hxA
         go_wp2
         rw [← hw9]
         refine start_ (n := 20) (S := fun w' => w'.cell? ⟨sB, 0, none⟩ = some (.int .i64 x) ∧ w'.cell? ⟨w2.heap.size, 0, none⟩ = some (.slice A5 G.length c5) ∧ Below w9.heap.size w9 w') (ds := []) (Qbz 20 0) (by kernel_rfl) rfl rfl ⟨f0d, f1d, fBd⟩ (fun hHeld => ?_)
         refine take_ (i := 0) (N := some 43) (v := ?_) (a' := ?_) (Qbz 20 1) rfl rfl (by kernel_rfl) (fun _ _ _ h => h) (Or.inl ⟨by rfl, ?_⟩) hHeld ?_ ?_
         rotate_left
         ·rintro w' ⟨s0, s1, s2⟩
          go_simp
          with_reducible rfl
         rotate_left
         ·simp only [Act.put, Qp1, Qp2, Qp3, i64_w, i32_w]
          rfl
         refine pure_ (i := 1) (N := some 44) (v := ?_) (a' := ?_) (Qbz 20 3) rfl rfl (by kernel_rfl) (fun _ _ _ h => h) (Or.inl ⟨by rfl, ?_⟩) ?_ ?_
         rotate_left
         ·intro w'
          go_simp
          with_reducible rfl
         rotate_left
         ·simp only [Act.put, Qp1, Qp2, Qp3, i64_w, i32_w]
          rfl
         refine pure_ (i := 2) (N := some 45) (v := ?_) (a' := ?_) (Qbz 20 7) rfl rfl (by kernel_rfl) (fun _ _ _ h => h) (Or.inl ⟨by rfl, ?_⟩) ?_ ?_
         rotate_left
         ·intro w'
          go_simp
          with_reducible rfl
         rotate_left
         ·simp only [Act.put, Qp1, Qp2, Qp3, i64_w, i32_w]
          rfl
         refine take_ (i := 3) (N := some 46) (v := ?_) (a' := ?_) (Qbz 20 15) rfl rfl (by kernel_rfl) (fun _ _ _ h => h) (Or.inl ⟨by rfl, ?_⟩) hHeld ?_ ?_
         rotate_left
         ·rintro w' ⟨s0, s1, s2⟩
          go_simp
          with_reducible rfl
         rotate_left
         ·simp only [Act.put, Qp1, Qp2, Qp3, i64_w, i32_w]
          rfl
         refine take_ (i := 4) (N := some 47) (v := ?_) (a' := ?_) (Qbz 20 31) rfl rfl (by kernel_rfl) (fun _ _ _ h => h) (Or.inl ⟨by rfl, ?_⟩) hHeld ?_ ?_
         rotate_left
         ·rintro w' ⟨s0, s1, s2⟩
          go_simp
          with_reducible rfl
         rotate_left
         ·simp only [Act.put, Qp1, Qp2, Qp3, i64_w, i32_w]
          rfl
         refine one_ (i := 5) (N := some 48) (Qbz 20 63) rfl rfl (by kernel_rfl) (by decide) (fun K hK => ?_)
         refine goes_ Tryd.func66 (by kernel_rfl) rfl #[.slice A5 G.length c5] (by rfl) rfl rfl (by simp only [List.map_toArray, List.map_cons, List.map_nil]; rfl) ?_
         with_reducible refine (CALL.out _ hHeld).mono ?_
         rintro e w10 ⟨rfl, g0, g1, gB⟩
         refine ⟨_, rfl, ?_⟩
         refine hK.out _ _ ⟨g0, g1, gB⟩ (fun hHeld => ?_)
         clear hK K
         refine norm_ (a' := ?_) ?_ ?_
         rotate_left
         ·show Act.put _ (some 48) _ = _
          simp only [Act.put, Qp1, Qp2, Qp3, i64_w, i32_w]
          rfl
         refine pure_ (i := 6) (N := some 49) (v := ?_) (a' := ?_) (Qbz 20 127) rfl rfl (by kernel_rfl) (fun _ _ _ h => h) (Or.inl ⟨by rfl, ?_⟩) ?_ ?_
         rotate_left
         ·intro w'
          go_simp
          with_reducible rfl
         rotate_left
         ·simp only [Act.put, Qp1, Qp2, Qp3, i64_w, i32_w]
          rfl
         refine pure_ (i := 7) (N := some 50) (v := ?_) (a' := ?_) (Qbz 20 255) rfl rfl (by kernel_rfl) (fun _ _ _ h => h) (Or.inl ⟨by rfl, ?_⟩) ?_ ?_
         rotate_left
         ·intro w'
          go_simp
          with_reducible rfl
         rotate_left
         ·simp only [Act.put, Qp1, Qp2, Qp3, i64_w, i32_w]
          rfl
         refine pure_ (i := 8) (N := some 51) (v := ?_) (a' := ?_) (Qbz 20 511) rfl rfl (by kernel_rfl) (fun _ _ _ h => h) (Or.inl ⟨by rfl, ?_⟩) ?_ ?_
         rotate_left
         ·intro w'
          go_simp
          with_reducible rfl
         rotate_left
         ·simp only [Act.put, Qp1, Qp2, Qp3, i64_w, i32_w]
          rfl
         refine pure_ (i := 9) (N := some 52) (v := undef) (a' := ?_) (Qbz 20 1023) rfl rfl (by kernel_rfl) (fun _ _ _ h => h) (Or.inr ⟨by rfl, rfl⟩) ?_ ?_
         rotate_left
         ·simp only [Act.put, Qp1, Qp2, Qp3, i64_w, i32_w]
          rfl
         refine pure_ (i := 10) (N := some 53) (v := undef) (a' := ?_) (Qbz 20 2047) rfl rfl (by kernel_rfl) (fun _ _ _ h => h) (Or.inr ⟨by rfl, rfl⟩) ?_ ?_
         rotate_left
         ·simp only [Act.put, Qp1, Qp2, Qp3, i64_w, i32_w]
          rfl
         refine pure_ (i := 11) (N := some 54) (v := undef) (a' := ?_) (Qbz 20 4095) rfl rfl (by kernel_rfl) (fun _ _ _ h => h) (Or.inr ⟨by rfl, rfl⟩) ?_ ?_
         rotate_left
         ·simp only [Act.put, Qp1, Qp2, Qp3, i64_w, i32_w]
          rfl
         refine pure_ (i := 12) (N := some 55) (v := undef) (a' := ?_) (Qbz 20 8191) rfl rfl (by kernel_rfl) (fun _ _ _ h => h) (Or.inr ⟨by rfl, rfl⟩) ?_ ?_
         rotate_left
         ·simp only [Act.put, Qp1, Qp2, Qp3, i64_w, i32_w]
          rfl
         refine pure_ (i := 13) (N := some 56) (v := ?_) (a' := ?_) (Qbz 20 16383) rfl rfl (by kernel_rfl) (fun _ _ _ h => h) (Or.inl ⟨by rfl, ?_⟩) ?_ ?_
         rotate_left
         ·intro w'
          go_simp
          with_reducible rfl
         rotate_left
         ·simp only [Act.put, Qp1, Qp2, Qp3, i64_w, i32_w]
          rfl
         refine pure_ (i := 14) (N := some 57) (v := ?_) (a' := ?_) (Qbz 20 32767) rfl rfl (by kernel_rfl) (fun _ _ _ h => h) (Or.inl ⟨by rfl, ?_⟩) ?_ ?_
         rotate_left
         ·intro w'
          go_simp
          with_reducible rfl
         rotate_left
         ·simp only [Act.put, Qp1, Qp2, Qp3, i64_w, i32_w]
          rfl
         refine pure_ (i := 15) (N := some 58) (v := undef) (a' := ?_) (Qbz 20 65535) rfl rfl (by kernel_rfl) (fun _ _ _ h => h) (Or.inr ⟨by rfl, rfl⟩) ?_ ?_
         rotate_left
         ·simp only [Act.put, Qp1, Qp2, Qp3, i64_w, i32_w]
          rfl
         refine pure_ (i := 16) (N := some 59) (v := undef) (a' := ?_) (Qbz 20 131071) rfl rfl (by kernel_rfl) (fun _ _ _ h => h) (Or.inr ⟨by rfl, rfl⟩) ?_ ?_
         rotate_left
         ·simp only [Act.put, Qp1, Qp2, Qp3, i64_w, i32_w]
          rfl
         refine pure_ (i := 17) (N := some 60) (v := undef) (a' := ?_) (Qbz 20 262143) rfl rfl (by kernel_rfl) (fun _ _ _ h => h) (Or.inr ⟨by rfl, rfl⟩) ?_ ?_
         rotate_left
         ·simp only [Act.put, Qp1, Qp2, Qp3, i64_w, i32_w]
          rfl
         refine pure_ (i := 18) (N := some 61) (v := undef) (a' := ?_) (Qbz 20 524287) rfl rfl (by kernel_rfl) (fun _ _ _ h => h) (Or.inr ⟨by rfl, rfl⟩) ?_ ?_
         rotate_left
         ·simp only [Act.put, Qp1, Qp2, Qp3, i64_w, i32_w]
          rfl
         refine pure_ (i := 19) (N := some 62) (v := ?_) (a' := ?_) (Qbz 20 1048575) rfl rfl (by kernel_rfl) (fun _ _ _ h => h) (Or.inl ⟨by rfl, ?_⟩) ?_ ?_
         rotate_left
         ·intro w'
          go_simp
          with_reducible rfl
         rotate_left
         ·simp only [Act.put, Qp1, Qp2, Qp3, i64_w, i32_w]
          rfl
         refine done_ (by kernel_rfl) ?_
         go_wp2
         go_ret2
         exact ⟨rfl, below_step HB4.out (below_step HBW.out (below_step HB9.out hHeld.2.2))⟩
        ·have hx2 : decide ((A : Int) < x) = false := decide_eq_false hxA
         obtain ⟨xn, rfl⟩ := Int.eq_ofNat_of_zero_le (show 0 ≤ x by omega)
         have hxn : xn < 512 := by omega
         have hx3 : decide (A < xn) = false := decide_eq_false (by omega)
         have hx4 : (A < xn) = False := eq_false (by omega)
         have HXL : Aside0 (xn < 2 ^ G.length) := ⟨by rw [HAL.out]; omega⟩
         have han : Go.bits .and .i64 (xn : Int) (used : Int) = ((xn &&& used : Nat) : Int) := b_and _ _ (by omega) (by omega)
         have hah := HAH.out
         rw [decide_eq_true (by omega : (0 : Int) ≤ (xn : Int)), decide_eq_true (by rw [HAL.out]; omega : (xn : Int) < ((2 ^ G.length : Nat) : Int)), Bool.true_and, Bool.true_and, Int.toNat_natCast] at hah
         have HAH := Aside0.mk hah
         clear hah
         by_cases hna : xn &&& used = 0
         ·have ht1 : ((((xn &&& used : Nat) : Int)) != 0) = false := by rw [hna]; rfl
          have CCON : Aside0 (∀ W, (W.cell? ⟨sB, 0, none⟩ = some (.int .i64 (xn : Int)) ∧ W.cell? ⟨w2.heap.size, 0, none⟩ = some (.slice A5 G.length c5) ∧ Below w9.heap.size w9 W) → Calls Tryd.prog 67 #[.slice A5 G.length c5, .int .i64 (xn : Int)] W fun e w' => e = .returned (.bool (conB G xn)) ∧ (w'.cell? ⟨sB, 0, none⟩ = some (.int .i64 (xn : Int)) ∧ w'.cell? ⟨w2.heap.size, 0, none⟩ = some (.slice A5 G.length c5) ∧ Below w9.heap.size w9 w')) := ⟨fun W hW => by
           obtain ⟨K, hK⟩ := connected_ev G HG.out xn HXL.out
           have hB := below_step HBF.out hW.2.2
           have := minor_town_connected.calls K A5 c5 (gi G) (xn : Int) _ W (GL_below HGL.out (below_step HB4.out hB)) (by rw [gi_length]; exact Kd.C_below HC5b.out hB) (by rw [gi_length]; exact hc5) (hK K (Nat.le_refl _))
           rw [gi_length] at this
           exact this.mono fun e w' ⟨h, hb⟩ => ⟨h, KEEP.out w' (below_step hW.2.2 hb)⟩⟩
          cases hcb : conB G xn
          ·rw [hcb] at CCON
           have HNO : Aside0 (false = r1) := ⟨by
            have := HAH.out
            rw [hcb] at this
            simpa using this⟩
           have hr1 := HNO.out
           subst hr1
           clear hna hcb
           go_wp2
           rw [← hw9]
           refine start_ (n := 20) (S := fun w' => w'.cell? ⟨sB, 0, none⟩ = some (.int .i64 (xn : Int)) ∧ w'.cell? ⟨w2.heap.size, 0, none⟩ = some (.slice A5 G.length c5) ∧ Below w9.heap.size w9 w') (ds := []) (Qbz 20 0) (by kernel_rfl) rfl rfl ⟨f0d, f1d, fBd⟩ (fun hHeld => ?_)
           refine take_ (i := 0) (N := some 43) (v := ?_) (a' := ?_) (Qbz 20 1) rfl rfl (by kernel_rfl) (fun _ _ _ h => h) (Or.inl ⟨by rfl, ?_⟩) hHeld ?_ ?_
           rotate_left
           ·rintro w' ⟨s0, s1, s2⟩
            go_simp
            with_reducible rfl
           rotate_left
           ·simp only [Act.put, Qp1, Qp2, Qp3, i64_w, i32_w]
            rfl
           refine pure_ (i := 1) (N := some 44) (v := ?_) (a' := ?_) (Qbz 20 3) rfl rfl (by kernel_rfl) (fun _ _ _ h => h) (Or.inl ⟨by rfl, ?_⟩) ?_ ?_
           rotate_left
           ·intro w'
            go_simp
            with_reducible rfl
           rotate_left
           ·simp only [Act.put, Qp1, Qp2, Qp3, i64_w, i32_w]
            rfl
           refine pure_ (i := 2) (N := some 45) (v := ?_) (a' := ?_) (Qbz 20 7) rfl rfl (by kernel_rfl) (fun _ _ _ h => h) (Or.inl ⟨by rfl, ?_⟩) ?_ ?_
           rotate_left
           ·intro w'
            go_simp
            with_reducible rfl
           rotate_left
           ·simp only [Act.put, Qp1, Qp2, Qp3, i64_w, i32_w]
            rfl
           refine take_ (i := 3) (N := some 46) (v := ?_) (a' := ?_) (Qbz 20 15) rfl rfl (by kernel_rfl) (fun _ _ _ h => h) (Or.inl ⟨by rfl, ?_⟩) hHeld ?_ ?_
           rotate_left
           ·rintro w' ⟨s0, s1, s2⟩
            go_simp
            with_reducible rfl
           rotate_left
           ·simp only [Act.put, Qp1, Qp2, Qp3, i64_w, i32_w]
            rfl
           refine take_ (i := 4) (N := some 47) (v := ?_) (a' := ?_) (Qbz 20 31) rfl rfl (by kernel_rfl) (fun _ _ _ h => h) (Or.inl ⟨by rfl, ?_⟩) hHeld ?_ ?_
           rotate_left
           ·rintro w' ⟨s0, s1, s2⟩
            go_simp
            with_reducible rfl
           rotate_left
           ·simp only [Act.put, Qp1, Qp2, Qp3, i64_w, i32_w]
            rfl
           refine one_ (i := 5) (N := some 48) (Qbz 20 63) rfl rfl (by kernel_rfl) (by decide) (fun K hK => ?_)
           refine goes_ Tryd.func66 (by kernel_rfl) rfl #[.slice A5 G.length c5] (by rfl) rfl rfl (by simp only [List.map_toArray, List.map_cons, List.map_nil]; rfl) ?_
           with_reducible refine (CALL.out _ hHeld).mono ?_
           rintro e w10 ⟨rfl, g0, g1, gB⟩
           refine ⟨_, rfl, ?_⟩
           refine hK.out _ _ ⟨g0, g1, gB⟩ (fun hHeld => ?_)
           clear hK K
           refine norm_ (a' := ?_) ?_ ?_
           rotate_left
           ·show Act.put _ (some 48) _ = _
            simp only [Act.put, Qp1, Qp2, Qp3, i64_w, i32_w]
            rfl
           refine pure_ (i := 6) (N := some 49) (v := ?_) (a' := ?_) (Qbz 20 127) rfl rfl (by kernel_rfl) (fun _ _ _ h => h) (Or.inl ⟨by rfl, ?_⟩) ?_ ?_
           rotate_left
           ·intro w'
            go_simp
            with_reducible rfl
           rotate_left
           ·simp only [Act.put, Qp1, Qp2, Qp3, i64_w, i32_w]
            rfl
           refine pure_ (i := 7) (N := some 50) (v := ?_) (a' := ?_) (Qbz 20 255) rfl rfl (by kernel_rfl) (fun _ _ _ h => h) (Or.inl ⟨by rfl, ?_⟩) ?_ ?_
           rotate_left
           ·intro w'
            go_simp
            with_reducible rfl
           rotate_left
           ·simp only [Act.put, Qp1, Qp2, Qp3, i64_w, i32_w]
            rfl
           refine pure_ (i := 8) (N := some 51) (v := ?_) (a' := ?_) (Qbz 20 511) rfl rfl (by kernel_rfl) (fun _ _ _ h => h) (Or.inl ⟨by rfl, ?_⟩) ?_ ?_
           rotate_left
           ·intro w'
            go_simp
            with_reducible rfl
           rotate_left
           ·simp only [Act.put, Qp1, Qp2, Qp3, i64_w, i32_w]
            rfl
           refine pure_ (i := 10) (N := some 53) (v := ?_) (a' := ?_) (Qbz 20 1535) rfl rfl (by kernel_rfl) (fun _ _ _ h => h) (Or.inl ⟨by rfl, ?_⟩) ?_ ?_
           rotate_left
           ·intro w'
            go_simp
            with_reducible rfl
           rotate_left
           ·simp only [Act.put, Qp1, Qp2, Qp3, i64_w, i32_w]
            rfl
           refine take_ (i := 9) (N := some 52) (v := ?_) (a' := ?_) (Qbz 20 2047) rfl rfl (by kernel_rfl) (fun _ _ _ h => h) (Or.inl ⟨by rfl, ?_⟩) hHeld ?_ ?_
           rotate_left
           ·rintro w' ⟨s0, s1, s2⟩
            go_simp
            with_reducible rfl
           rotate_left
           ·simp only [Act.put, Qp1, Qp2, Qp3, i64_w, i32_w]
            rfl
           refine pure_ (i := 11) (N := some 54) (v := ?_) (a' := ?_) (Qbz 20 4095) rfl rfl (by kernel_rfl) (fun _ _ _ h => h) (Or.inl ⟨by rfl, ?_⟩) ?_ ?_
           rotate_left
           ·intro w'
            go_simp
            with_reducible rfl
           rotate_left
           ·simp only [Act.put, Qp1, Qp2, Qp3, i64_w, i32_w]
            rfl
           refine pure_ (i := 12) (N := some 55) (v := ?_) (a' := ?_) (Qbz 20 8191) rfl rfl (by kernel_rfl) (fun _ _ _ h => h) (Or.inl ⟨by rfl, ?_⟩) ?_ ?_
           rotate_left
           ·intro w'
            go_simp
            with_reducible rfl
           rotate_left
           ·simp only [Act.put, Qp1, Qp2, Qp3, i64_w, i32_w]
            rfl
           refine pure_ (i := 13) (N := some 56) (v := ?_) (a' := ?_) (Qbz 20 16383) rfl rfl (by kernel_rfl) (fun _ _ _ h => h) (Or.inl ⟨by rfl, ?_⟩) ?_ ?_
           rotate_left
           ·intro w'
            go_simp
            with_reducible rfl
           rotate_left
           ·simp only [Act.put, Qp1, Qp2, Qp3, i64_w, i32_w]
            rfl
           refine pure_ (i := 14) (N := some 57) (v := ?_) (a' := ?_) (Qbz 20 32767) rfl rfl (by kernel_rfl) (fun _ _ _ h => h) (Or.inl ⟨by rfl, ?_⟩) ?_ ?_
           rotate_left
           ·intro w'
            go_simp
            with_reducible rfl
           rotate_left
           ·simp only [Act.put, Qp1, Qp2, Qp3, i64_w, i32_w]
            rfl
           refine take_ (i := 15) (N := some 58) (v := ?_) (a' := ?_) (Qbz 20 65535) rfl rfl (by kernel_rfl) (fun _ _ _ h => h) (Or.inl ⟨by rfl, ?_⟩) hHeld ?_ ?_
           rotate_left
           ·rintro w' ⟨s0, s1, s2⟩
            go_simp
            with_reducible rfl
           rotate_left
           ·simp only [Act.put, Qp1, Qp2, Qp3, i64_w, i32_w]
            rfl
           refine take_ (i := 16) (N := some 59) (v := ?_) (a' := ?_) (Qbz 20 131071) rfl rfl (by kernel_rfl) (fun _ _ _ h => h) (Or.inl ⟨by rfl, ?_⟩) hHeld ?_ ?_
           rotate_left
           ·rintro w' ⟨s0, s1, s2⟩
            go_simp
            with_reducible rfl
           rotate_left
           ·simp only [Act.put, Qp1, Qp2, Qp3, i64_w, i32_w]
            rfl
           refine one_ (i := 17) (N := some 60) (Qbz 20 262143) rfl rfl (by kernel_rfl) (by decide) (fun K hK => ?_)
           refine goes_ Tryd.func67 (by kernel_rfl) rfl #[.slice A5 G.length c5, .int .i64 (xn : Int)] (by rfl) rfl rfl (by simp only [List.map_toArray, List.map_cons, List.map_nil]; rfl) ?_
           with_reducible refine (CCON.out _ hHeld).mono ?_
           rintro e w11 ⟨rfl, k0, k1, kB⟩
           refine ⟨_, rfl, ?_⟩
           refine hK.out _ _ ⟨k0, k1, kB⟩ (fun hHeld => ?_)
           clear hK K
           refine norm_ (a' := ?_) ?_ ?_
           rotate_left
           ·show Act.put _ (some 60) _ = _
            simp only [Act.put, Qp1, Qp2, Qp3, i64_w, i32_w]
            rfl
           refine pure_ (i := 18) (N := some 61) (v := ?_) (a' := ?_) (Qbz 20 524287) rfl rfl (by kernel_rfl) (fun _ _ _ h => h) (Or.inl ⟨by rfl, ?_⟩) ?_ ?_
           rotate_left
           ·intro w'
            go_simp
            with_reducible rfl
           rotate_left
           ·simp only [Act.put, Qp1, Qp2, Qp3, i64_w, i32_w]
            rfl
           refine pure_ (i := 19) (N := some 62) (v := ?_) (a' := ?_) (Qbz 20 1048575) rfl rfl (by kernel_rfl) (fun _ _ _ h => h) (Or.inl ⟨by rfl, ?_⟩) ?_ ?_
           rotate_left
           ·intro w'
            go_simp
            with_reducible rfl
           rotate_left
           ·simp only [Act.put, Qp1, Qp2, Qp3, i64_w, i32_w]
            rfl
           refine done_ (by kernel_rfl) ?_
           go_wp2
           go_ret2
           exact ⟨rfl, below_step HB4.out (below_step HBW.out (below_step HB9.out hHeld.2.2))⟩
          ·rw [hcb] at CCON
           have hor : Go.bits .or .i64 (used : Int) (xn : Int) = ((used ||| xn : Nat) : Int) := b_or _ _ (by omega) (by omega)
           have horl : used ||| xn < 512 := Nat.or_lt_two_pow (n := 9) (by omega) (by omega)
           have HRES : Aside0 ((fitB G P M xn i && chkM G P (l2.drop (i + 1)) (M ++ [xn]) (used ||| xn)) = r1) := ⟨by
            have := HAH.out
            rw [hcb, decide_eq_true hna, HM.out.1] at this
            simpa using this⟩
           have HUL : Aside0 (used ||| xn < 2 ^ G.length) := ⟨Nat.or_lt_two_pow HM.out.2.2.2 HXL.out⟩
           clear hna hcb HAH
           go_wp2
           rw [← hw9]
           refine start_ (n := 20) (S := fun w' => w'.cell? ⟨sB, 0, none⟩ = some (.int .i64 (xn : Int)) ∧ w'.cell? ⟨w2.heap.size, 0, none⟩ = some (.slice A5 G.length c5) ∧ Below w9.heap.size w9 w') (ds := []) (Qbz 20 0) (by kernel_rfl) rfl rfl ⟨f0d, f1d, fBd⟩ (fun hHeld => ?_)
           refine take_ (i := 0) (N := some 43) (v := ?_) (a' := ?_) (Qbz 20 1) rfl rfl (by kernel_rfl) (fun _ _ _ h => h) (Or.inl ⟨by rfl, ?_⟩) hHeld ?_ ?_
           rotate_left
           ·rintro w' ⟨s0, s1, s2⟩
            go_simp
            with_reducible rfl
           rotate_left
           ·simp only [Act.put, Qp1, Qp2, Qp3, i64_w, i32_w]
            rfl
           refine pure_ (i := 1) (N := some 44) (v := ?_) (a' := ?_) (Qbz 20 3) rfl rfl (by kernel_rfl) (fun _ _ _ h => h) (Or.inl ⟨by rfl, ?_⟩) ?_ ?_
           rotate_left
           ·intro w'
            go_simp
            with_reducible rfl
           rotate_left
           ·simp only [Act.put, Qp1, Qp2, Qp3, i64_w, i32_w]
            rfl
           refine pure_ (i := 2) (N := some 45) (v := ?_) (a' := ?_) (Qbz 20 7) rfl rfl (by kernel_rfl) (fun _ _ _ h => h) (Or.inl ⟨by rfl, ?_⟩) ?_ ?_
           rotate_left
           ·intro w'
            go_simp
            with_reducible rfl
           rotate_left
           ·simp only [Act.put, Qp1, Qp2, Qp3, i64_w, i32_w]
            rfl
           refine take_ (i := 3) (N := some 46) (v := ?_) (a' := ?_) (Qbz 20 15) rfl rfl (by kernel_rfl) (fun _ _ _ h => h) (Or.inl ⟨by rfl, ?_⟩) hHeld ?_ ?_
           rotate_left
           ·rintro w' ⟨s0, s1, s2⟩
            go_simp
            with_reducible rfl
           rotate_left
           ·simp only [Act.put, Qp1, Qp2, Qp3, i64_w, i32_w]
            rfl
           refine take_ (i := 4) (N := some 47) (v := ?_) (a' := ?_) (Qbz 20 31) rfl rfl (by kernel_rfl) (fun _ _ _ h => h) (Or.inl ⟨by rfl, ?_⟩) hHeld ?_ ?_
           rotate_left
           ·rintro w' ⟨s0, s1, s2⟩
            go_simp
            with_reducible rfl
           rotate_left
           ·simp only [Act.put, Qp1, Qp2, Qp3, i64_w, i32_w]
            rfl
           refine one_ (i := 5) (N := some 48) (Qbz 20 63) rfl rfl (by kernel_rfl) (by decide) (fun K hK => ?_)
           refine goes_ Tryd.func66 (by kernel_rfl) rfl #[.slice A5 G.length c5] (by rfl) rfl rfl (by simp only [List.map_toArray, List.map_cons, List.map_nil]; rfl) ?_
           with_reducible refine (CALL.out _ hHeld).mono ?_
           rintro e w10 ⟨rfl, g0, g1, gB⟩
           refine ⟨_, rfl, ?_⟩
           refine hK.out _ _ ⟨g0, g1, gB⟩ (fun hHeld => ?_)
           clear hK K
           refine norm_ (a' := ?_) ?_ ?_
           rotate_left
           ·show Act.put _ (some 48) _ = _
            simp only [Act.put, Qp1, Qp2, Qp3, i64_w, i32_w]
            rfl
           refine pure_ (i := 6) (N := some 49) (v := ?_) (a' := ?_) (Qbz 20 127) rfl rfl (by kernel_rfl) (fun _ _ _ h => h) (Or.inl ⟨by rfl, ?_⟩) ?_ ?_
           rotate_left
           ·intro w'
            go_simp
            with_reducible rfl
           rotate_left
           ·simp only [Act.put, Qp1, Qp2, Qp3, i64_w, i32_w]
            rfl
           refine pure_ (i := 7) (N := some 50) (v := ?_) (a' := ?_) (Qbz 20 255) rfl rfl (by kernel_rfl) (fun _ _ _ h => h) (Or.inl ⟨by rfl, ?_⟩) ?_ ?_
           rotate_left
           ·intro w'
            go_simp
            with_reducible rfl
           rotate_left
           ·simp only [Act.put, Qp1, Qp2, Qp3, i64_w, i32_w]
            rfl
           refine pure_ (i := 8) (N := some 51) (v := ?_) (a' := ?_) (Qbz 20 511) rfl rfl (by kernel_rfl) (fun _ _ _ h => h) (Or.inl ⟨by rfl, ?_⟩) ?_ ?_
           rotate_left
           ·intro w'
            go_simp
            with_reducible rfl
           rotate_left
           ·simp only [Act.put, Qp1, Qp2, Qp3, i64_w, i32_w]
            rfl
           refine pure_ (i := 10) (N := some 53) (v := ?_) (a' := ?_) (Qbz 20 1535) rfl rfl (by kernel_rfl) (fun _ _ _ h => h) (Or.inl ⟨by rfl, ?_⟩) ?_ ?_
           rotate_left
           ·intro w'
            go_simp
            with_reducible rfl
           rotate_left
           ·simp only [Act.put, Qp1, Qp2, Qp3, i64_w, i32_w]
            rfl
           refine take_ (i := 9) (N := some 52) (v := ?_) (a' := ?_) (Qbz 20 2047) rfl rfl (by kernel_rfl) (fun _ _ _ h => h) (Or.inl ⟨by rfl, ?_⟩) hHeld ?_ ?_
           rotate_left
           ·rintro w' ⟨s0, s1, s2⟩
            go_simp
            with_reducible rfl
           rotate_left
           ·simp only [Act.put, Qp1, Qp2, Qp3, i64_w, i32_w]
            rfl
           refine pure_ (i := 11) (N := some 54) (v := ?_) (a' := ?_) (Qbz 20 4095) rfl rfl (by kernel_rfl) (fun _ _ _ h => h) (Or.inl ⟨by rfl, ?_⟩) ?_ ?_
           rotate_left
           ·intro w'
            go_simp
            with_reducible rfl
           rotate_left
           ·simp only [Act.put, Qp1, Qp2, Qp3, i64_w, i32_w]
            rfl
           refine pure_ (i := 12) (N := some 55) (v := ?_) (a' := ?_) (Qbz 20 8191) rfl rfl (by kernel_rfl) (fun _ _ _ h => h) (Or.inl ⟨by rfl, ?_⟩) ?_ ?_
           rotate_left
           ·intro w'
            go_simp
            with_reducible rfl
           rotate_left
           ·simp only [Act.put, Qp1, Qp2, Qp3, i64_w, i32_w]
            rfl
           refine pure_ (i := 13) (N := some 56) (v := ?_) (a' := ?_) (Qbz 20 16383) rfl rfl (by kernel_rfl) (fun _ _ _ h => h) (Or.inl ⟨by rfl, ?_⟩) ?_ ?_
           rotate_left
           ·intro w'
            go_simp
            with_reducible rfl
           rotate_left
           ·simp only [Act.put, Qp1, Qp2, Qp3, i64_w, i32_w]
            rfl
           refine pure_ (i := 14) (N := some 57) (v := ?_) (a' := ?_) (Qbz 20 32767) rfl rfl (by kernel_rfl) (fun _ _ _ h => h) (Or.inl ⟨by rfl, ?_⟩) ?_ ?_
           rotate_left
           ·intro w'
            go_simp
            with_reducible rfl
           rotate_left
           ·simp only [Act.put, Qp1, Qp2, Qp3, i64_w, i32_w]
            rfl
           refine take_ (i := 15) (N := some 58) (v := ?_) (a' := ?_) (Qbz 20 65535) rfl rfl (by kernel_rfl) (fun _ _ _ h => h) (Or.inl ⟨by rfl, ?_⟩) hHeld ?_ ?_
           rotate_left
           ·rintro w' ⟨s0, s1, s2⟩
            go_simp
            with_reducible rfl
           rotate_left
           ·simp only [Act.put, Qp1, Qp2, Qp3, i64_w, i32_w]
            rfl
           refine take_ (i := 16) (N := some 59) (v := ?_) (a' := ?_) (Qbz 20 131071) rfl rfl (by kernel_rfl) (fun _ _ _ h => h) (Or.inl ⟨by rfl, ?_⟩) hHeld ?_ ?_
           rotate_left
           ·rintro w' ⟨s0, s1, s2⟩
            go_simp
            with_reducible rfl
           rotate_left
           ·simp only [Act.put, Qp1, Qp2, Qp3, i64_w, i32_w]
            rfl
           refine one_ (i := 17) (N := some 60) (Qbz 20 262143) rfl rfl (by kernel_rfl) (by decide) (fun K hK => ?_)
           refine goes_ Tryd.func67 (by kernel_rfl) rfl #[.slice A5 G.length c5, .int .i64 (xn : Int)] (by rfl) rfl rfl (by simp only [List.map_toArray, List.map_cons, List.map_nil]; rfl) ?_
           with_reducible refine (CCON.out _ hHeld).mono ?_
           rintro e w11 ⟨rfl, k0, k1, kB⟩
           refine ⟨_, rfl, ?_⟩
           refine hK.out _ _ ⟨k0, k1, kB⟩ (fun hHeld => ?_)
           clear hK K
           refine norm_ (a' := ?_) ?_ ?_
           rotate_left
           ·show Act.put _ (some 60) _ = _
            simp only [Act.put, Qp1, Qp2, Qp3, i64_w, i32_w]
            rfl
           refine pure_ (i := 18) (N := some 61) (v := ?_) (a' := ?_) (Qbz 20 524287) rfl rfl (by kernel_rfl) (fun _ _ _ h => h) (Or.inl ⟨by rfl, ?_⟩) ?_ ?_
           rotate_left
           ·intro w'
            go_simp
            with_reducible rfl
           rotate_left
           ·simp only [Act.put, Qp1, Qp2, Qp3, i64_w, i32_w]
            rfl
           refine pure_ (i := 19) (N := some 62) (v := ?_) (a' := ?_) (Qbz 20 1048575) rfl rfl (by kernel_rfl) (fun _ _ _ h => h) (Or.inl ⟨by rfl, ?_⟩) ?_ ?_
           rotate_left
           ·intro w'
            go_simp
            with_reducible rfl
           rotate_left
           ·simp only [Act.put, Qp1, Qp2, Qp3, i64_w, i32_w]
            rfl
           refine done_ (by kernel_rfl) ?_
           go_wp2
           have HB11 := Aside0.mk (below_step HBF.out kB)
           have hbw := below_step HB4.out HB11.out
           obtain ⟨ap, e6, f2⟩ := Kd.at_int (Kd.C_below HC6.out HB11.out) (i : Int) (by omega) (by omega)
           subst e6
           rw [rd_gi, Int.toNat_natCast] at f2
           have hP5 : ∀ y ∈ P, y < 512 := fun y hy => small P (by omega) (by
            obtain ⟨q, hq, e⟩ := List.getElem_of_mem hy
            have := HP.out.row q
            rw [List.getD_eq_getElem?_getD, List.getElem?_eq_getElem hq] at this
            rw [← e]
            exact this)
           have hlt9 : P.getD i 0 < 2 ^ 62 := by have := hP5 (P.getD i 0) (by rw [List.getD_eq_getElem?_getD, List.getElem?_eq_getElem (by omega)]; exact List.getElem_mem _); omega
           obtain ⟨N, ⟨hS1, hS2, hS3⟩, hNv⟩ := shJ i (by omega)
           obtain ⟨N1, hN1⟩ : ∃ N1 : Int, wrap64 (N - 1) = N1 := ⟨_, rfl⟩
           have hN1v : N1 = ((2 ^ i - 1 : Nat) : Int) := by
            have hp0 := Nat.two_pow_pos i
            have hpw := (pow9 i (by omega)).1
            clear hS1 hS2 hS3
            generalize 2 ^ i = T at *
            rw [← hN1, hNv, w64_small _ (by omega) (by omega)]
            omega
           obtain ⟨q, hq⟩ : ∃ q : Nat, q = P.getD i 0 &&& (2 ^ i - 1) := ⟨_, rfl⟩
           have hq2 : Go.bits .and .i64 ((P.getD i 0 : Nat) : Int) N1 = (q : Int) := by
            rw [hN1v, b_and _ _ hlt9 (pow9 _ (by omega)).1, hq]
           have hq512 : q < 512 := by rw [hq]; exact Nat.lt_of_le_of_lt Nat.and_le_right (pow9 _ (by omega)).2
           have HQ := Aside0.mk hq
           have hin : ∀ j, j ∈ els q 9 → j < i := fun j hj => by
            have := (mem_els.1 hj).2
            rw [HQ.out, Nat.testBit_and, Bool.and_eq_true] at this
            exact (all_bit _ _).1 this.2
           have CND : Aside0 (∀ W, (W.cell? (ap.add i) = some (.int .i64 ((P.getD i 0 : Nat) : Int)) ∧ Below w11.heap.size w11 W) → Calls Tryd.prog 69 #[.int .i64 (q : Int)] W fun e w' => ∃ A c, e = .returned (.slice A (gi (els q 9)).length c) ∧ Kd.C (Kd.int .i64) w' A (gi (els q 9)).length (gi (els q 9)) ∧ (w'.cell? (ap.add i) = some (.int .i64 ((P.getD i 0 : Nat) : Int)) ∧ Below w11.heap.size w11 w')) := ⟨by
            rintro W ⟨s2, s3⟩
            obtain ⟨K, hK⟩ := nodes_ev q hq512
            refine (minor_nodes.calls K (q : Int) _ W (GL_below HGL.out (below_step hbw s3)) (hK K (Nat.le_refl _))).mono ?_
            rintro e w' ⟨u, rfl, hu, hb⟩
            obtain ⟨A, c, eu, hc, hC⟩ := Kd.R_reads hu
            subst eu
            exact ⟨A, c, rfl, hC, (hb.cell (World.block_lt_of_cell? W _ s2)).trans s2, below_step s3 hb⟩⟩
           have hBm := hbw
           have hm11 : w11.cell? ⟨mB, 0, none⟩ = some (.slice (some ad) l2.length c2) := (HB11.out.cell (World.block_lt_of_cell? w4 _ hm4)).trans hm4
           have CCF : Aside0 (∀ W A c, (W.cell? (ap.add i) = some (.int .i64 ((P.getD i 0 : Nat) : Int)) ∧ Below w11.heap.size w11 W) → Kd.C (Kd.int .i64) W A (gi (els q 9)).length (gi (els q 9)) → Calls Tryd.prog 68 #[.slice A (gi (els q 9)).length c, .func (.func 70) #[] #[.pointer (some ⟨mB, 0, none⟩), .pointer (some ⟨w2.heap.size, 0, none⟩), .pointer (some ⟨sB, 0, none⟩)]] W fun e w' => e = .returned (.bool ((gi (els q 9)).any (fitP M (Around G xn)))) ∧ (w'.cell? (ap.add i) = some (.int .i64 ((P.getD i 0 : Nat) : Int)) ∧ Below w11.heap.size w11 w')) := ⟨by
            rintro W A c ⟨s2, s3⟩ hC
            refine (contains_chk A c _ (fitP M (Around G xn)) mB w2.heap.size sB W hC (by rw [gi_length, els_length]; have := pc_le q 9; omega) ?_).mono ?_
            ·intro V hV y hy
             obtain ⟨j, hj, rfl⟩ := List.mem_map.1 hy
             have hjl := hin j hj
             have hB11 := below_step s3 hV
             have hBV := below_step hbw hB11
             have hB4V := below_step HB11.out hB11
             have := chk1 mB w2.heap.size sB (some ad) c2 l2 A5 c5 G HG.out hc5 xn HXL.out (j : Int) (by omega) (by omega) V (GL_below HGL.out hBV) (Kd.C_below HR2.out hBV) (by rw [gi_length]; exact Kd.C_below HC5b.out hB4V) ((hB11.cell (World.block_lt_of_cell? w11 _ hm11)).trans hm11) ((hB11.cell (World.block_lt_of_cell? w11 _ k1)).trans k1) ((hB11.cell (World.block_lt_of_cell? w11 _ k0)).trans k0)
             rw [rd_take HM.out.2.1 hjl (by omega)] at this
             exact this
            ·rintro e w' ⟨rfl, hb⟩
             exact ⟨rfl, (hb.cell (World.block_lt_of_cell? W _ s2)).trans s2, below_step s3 hb⟩⟩
           have HFIN : Aside0 ((!(gi (els q 9)).any (fitP M (Around G xn))) = fitB G P M xn i) := ⟨by
            rw [HQ.out]
            have hMl := HM.out.1
            subst hMl
            exact fitP_all G P M xn (fun y hy => small G (by omega) (HM.out.2.2.1 y hy)) (small G (by omega) (Around_lt HG.out xn))⟩
           have f2d : w11.drew.cell? (ap.add i) = some (.int .i64 ((P.getD i 0 : Nat) : Int)) := f2
           have fB2d : Below w11.heap.size w11 w11.drew := below_drew (Below.refl _ _)
           have HBW11 := Aside0.mk hbw
           clear hin hq hNv hN1v hlt9 hq512 HQ hP5 hbw hBm
           generalize (gi (els q 9)) = l at *
           generalize P.getD i 0 = pv at *
           generalize Around G xn = ar at *
           clear hHeld
           cases hany : l.any (fitP M ar)
           ·rw [hany] at CCF HFIN
            have HNX : Aside0 (chkM G P (l2.drop (i + 1)) (M ++ [xn]) (used ||| xn) = r1) := ⟨by
             have := HRES.out
             rw [← HFIN.out] at this
             simpa using this⟩
            clear hany
            refine start_ (n := 11) (S := fun w' => w'.cell? (ap.add i) = some (.int .i64 (pv : Int)) ∧ Below w11.heap.size w11 w') (ds := []) (Qbz 11 0) (by kernel_rfl) rfl rfl ⟨f2d, fB2d⟩ (fun hHeld => ?_)
            refine pure_ (i := 0) (N := some 66) (v := ?_) (a' := ?_) (Qbz 11 1) rfl rfl (by kernel_rfl) (fun _ _ _ h => h) (Or.inl ⟨by rfl, ?_⟩) ?_ ?_
            rotate_left
            ·intro w'
             go_simp
             with_reducible rfl
            rotate_left
            ·simp only [Act.put, Qp1, Qp2, Qp3, i64_w, i32_w]
             rfl
            refine pure_ (i := 1) (N := some 67) (v := ?_) (a' := ?_) (Qbz 11 3) rfl rfl (by kernel_rfl) (fun _ _ _ h => h) (Or.inl ⟨by rfl, ?_⟩) ?_ ?_
            rotate_left
            ·intro w'
             go_simp
             with_reducible rfl
            rotate_left
            ·simp only [Act.put, Qp1, Qp2, Qp3, i64_w, i32_w]
             rfl
            refine pure_ (i := 2) (N := some 68) (v := ?_) (a' := ?_) (Qbz 11 7) rfl rfl (by kernel_rfl) (fun _ _ _ h => h) (Or.inl ⟨by rfl, ?_⟩) ?_ ?_
            rotate_left
            ·intro w'
             go_simp
             with_reducible rfl
            rotate_left
            ·simp only [Act.put, Qp1, Qp2, Qp3, i64_w, i32_w]
             rfl
            refine pure_ (i := 4) (N := some 70) (v := ?_) (a' := ?_) (Qbz 11 23) rfl rfl (by kernel_rfl) (fun _ _ _ h => h) (Or.inl ⟨by rfl, ?_⟩) ?_ ?_
            rotate_left
            ·intro w'
             go_simp
             with_reducible rfl
            rotate_left
            ·simp only [Act.put, Qp1, Qp2, Qp3, i64_w, i32_w]
             rfl
            refine pure_ (i := 5) (N := some 71) (v := ?_) (a' := ?_) (Qbz 11 55) rfl rfl (by kernel_rfl) (fun _ _ _ h => h) (Or.inl ⟨by rfl, ?_⟩) ?_ ?_
            rotate_left
            ·intro w'
             go_simp
             with_reducible rfl
            rotate_left
            ·simp only [Act.put, Qp1, Qp2, Qp3, i64_w, i32_w]
             rfl
            refine pure_ (i := 6) (N := some 72) (v := ?_) (a' := ?_) (Qbz 11 119) rfl rfl (by kernel_rfl) (fun _ _ _ h => h) (Or.inl ⟨by rfl, ?_⟩) ?_ ?_
            rotate_left
            ·intro w'
             go_simp
             with_reducible rfl
            rotate_left
            ·simp only [Act.put, Qp1, Qp2, Qp3, i64_w, i32_w]
             rfl
            refine pure_ (i := 9) (N := some 75) (v := ?_) (a' := ?_) (Qbz 11 631) rfl rfl (by kernel_rfl) (fun _ _ _ h => h) (Or.inl ⟨by rfl, ?_⟩) ?_ ?_
            rotate_left
            ·intro w'
             go_simp
             with_reducible rfl
            rotate_left
            ·simp only [Act.put, Qp1, Qp2, Qp3, i64_w, i32_w]
             rfl
            refine take_ (i := 3) (N := some 69) (v := ?_) (a' := ?_) (Qbz 11 639) rfl rfl (by kernel_rfl) (fun _ _ _ h => h) (Or.inl ⟨by rfl, ?_⟩) hHeld ?_ ?_
            rotate_left
            ·rintro w' ⟨s0, s1⟩
             go_simp
             with_reducible rfl
            rotate_left
            ·simp only [Act.put, Qp1, Qp2, Qp3, i64_w, i32_w]
             rfl
            refine pure_ (i := 7) (N := some 73) (v := ?_) (a' := ?_) (Qbz 11 767) rfl rfl (by kernel_rfl) (fun _ _ _ h => h) (Or.inl ⟨by rfl, ?_⟩) ?_ ?_
            rotate_left
            ·intro w'
             go_simp
             with_reducible rfl
            rotate_left
            ·simp only [Act.put, Qp1, Qp2, Qp3, i64_w, i32_w]
             rfl
            refine one_ (i := 8) (N := some 74) (Qbz 11 1023) rfl rfl (by kernel_rfl) (by decide) (fun K hK => ?_)
            refine goes_ Tryd.func69 (by kernel_rfl) rfl #[.int .i64 (q : Int)] (by rfl) rfl rfl (by simp only [List.map_toArray, List.map_cons, List.map_nil]; rfl) ?_
            with_reducible refine (CND.out _ hHeld).mono ?_
            rintro e w12 ⟨A8, c8, rfl, hC8, g2, gB2⟩
            refine ⟨_, rfl, ?_⟩
            refine hK.out _ _ ⟨g2, gB2⟩ (fun hHeld => ?_)
            clear hK K
            refine norm_ (a' := ?_) ?_ ?_
            rotate_left
            ·show Act.put _ (some 74) _ = _
             simp only [Act.put, Qp1, Qp2, Qp3, i64_w, i32_w]
             rfl
            refine one_ (i := 10) (N := some 76) (Qbz 11 2047) rfl rfl (by kernel_rfl) (by decide) (fun K hK => ?_)
            refine goes_ Tryd.func68 (by kernel_rfl) rfl #[.slice A8 l.length c8, .func (.func 70) #[] #[.pointer (some ⟨mB, 0, none⟩), .pointer (some ⟨w2.heap.size, 0, none⟩), .pointer (some ⟨sB, 0, none⟩)]] (by rfl) rfl rfl (by simp only [List.map_toArray, List.map_cons, List.map_nil]; rfl) ?_
            with_reducible refine (CCF.out _ _ _ hHeld hC8).mono ?_
            rintro e w13 ⟨rfl, k2, kB2⟩
            refine ⟨_, rfl, ?_⟩
            refine hK.out _ _ ⟨k2, kB2⟩ (fun hHeld => ?_)
            clear hK K
            refine norm_ (a' := ?_) ?_ ?_
            rotate_left
            ·show Act.put _ (some 76) _ = _
             simp only [Act.put, Qp1, Qp2, Qp3, i64_w, i32_w]
             rfl
            refine done_ (by kernel_rfl) ?_
            go_wp2
            go_roundg gi'
            case measure => omega
            case rel =>
             refine ⟨i + 1, used ||| xn, M ++ [xn], rfl, by go_num, by omega, horl, ⟨by rw [List.length_append, HM.out.1]; rfl, by rw [HTK.out, HM.out.2.1]; simp [gi], fun y hy => ?_, HUL.out⟩, HNX, ⟨below_step HB11.out hHeld.2⟩⟩
             rcases List.mem_append.1 hy with hy | hy
             ·exact HM.out.2.2.1 y hy
             ·rw [List.mem_singleton.1 hy]; exact HXL.out
           ·rw [hany] at CCF HFIN
            have hr1 : false = r1 := by
             have := HRES.out
             rw [← HFIN.out] at this
             simpa using this
            subst hr1
            clear hany
            refine start_ (n := 11) (S := fun w' => w'.cell? (ap.add i) = some (.int .i64 (pv : Int)) ∧ Below w11.heap.size w11 w') (ds := []) (Qbz 11 0) (by kernel_rfl) rfl rfl ⟨f2d, fB2d⟩ (fun hHeld => ?_)
            refine pure_ (i := 0) (N := some 66) (v := ?_) (a' := ?_) (Qbz 11 1) rfl rfl (by kernel_rfl) (fun _ _ _ h => h) (Or.inl ⟨by rfl, ?_⟩) ?_ ?_
            rotate_left
            ·intro w'
             go_simp
             with_reducible rfl
            rotate_left
            ·simp only [Act.put, Qp1, Qp2, Qp3, i64_w, i32_w]
             rfl
            refine pure_ (i := 1) (N := some 67) (v := ?_) (a' := ?_) (Qbz 11 3) rfl rfl (by kernel_rfl) (fun _ _ _ h => h) (Or.inl ⟨by rfl, ?_⟩) ?_ ?_
            rotate_left
            ·intro w'
             go_simp
             with_reducible rfl
            rotate_left
            ·simp only [Act.put, Qp1, Qp2, Qp3, i64_w, i32_w]
             rfl
            refine pure_ (i := 2) (N := some 68) (v := ?_) (a' := ?_) (Qbz 11 7) rfl rfl (by kernel_rfl) (fun _ _ _ h => h) (Or.inl ⟨by rfl, ?_⟩) ?_ ?_
            rotate_left
            ·intro w'
             go_simp
             with_reducible rfl
            rotate_left
            ·simp only [Act.put, Qp1, Qp2, Qp3, i64_w, i32_w]
             rfl
            refine pure_ (i := 4) (N := some 70) (v := ?_) (a' := ?_) (Qbz 11 23) rfl rfl (by kernel_rfl) (fun _ _ _ h => h) (Or.inl ⟨by rfl, ?_⟩) ?_ ?_
            rotate_left
            ·intro w'
             go_simp
             with_reducible rfl
            rotate_left
            ·simp only [Act.put, Qp1, Qp2, Qp3, i64_w, i32_w]
             rfl
            refine pure_ (i := 5) (N := some 71) (v := ?_) (a' := ?_) (Qbz 11 55) rfl rfl (by kernel_rfl) (fun _ _ _ h => h) (Or.inl ⟨by rfl, ?_⟩) ?_ ?_
            rotate_left
            ·intro w'
             go_simp
             with_reducible rfl
            rotate_left
            ·simp only [Act.put, Qp1, Qp2, Qp3, i64_w, i32_w]
             rfl
            refine pure_ (i := 6) (N := some 72) (v := ?_) (a' := ?_) (Qbz 11 119) rfl rfl (by kernel_rfl) (fun _ _ _ h => h) (Or.inl ⟨by rfl, ?_⟩) ?_ ?_
            rotate_left
            ·intro w'
             go_simp
             with_reducible rfl
            rotate_left
            ·simp only [Act.put, Qp1, Qp2, Qp3, i64_w, i32_w]
             rfl
            refine pure_ (i := 9) (N := some 75) (v := ?_) (a' := ?_) (Qbz 11 631) rfl rfl (by kernel_rfl) (fun _ _ _ h => h) (Or.inl ⟨by rfl, ?_⟩) ?_ ?_
            rotate_left
            ·intro w'
             go_simp
             with_reducible rfl
            rotate_left
            ·simp only [Act.put, Qp1, Qp2, Qp3, i64_w, i32_w]
             rfl
            refine take_ (i := 3) (N := some 69) (v := ?_) (a' := ?_) (Qbz 11 639) rfl rfl (by kernel_rfl) (fun _ _ _ h => h) (Or.inl ⟨by rfl, ?_⟩) hHeld ?_ ?_
            rotate_left
            ·rintro w' ⟨s0, s1⟩
             go_simp
             with_reducible rfl
            rotate_left
            ·simp only [Act.put, Qp1, Qp2, Qp3, i64_w, i32_w]
             rfl
            refine pure_ (i := 7) (N := some 73) (v := ?_) (a' := ?_) (Qbz 11 767) rfl rfl (by kernel_rfl) (fun _ _ _ h => h) (Or.inl ⟨by rfl, ?_⟩) ?_ ?_
            rotate_left
            ·intro w'
             go_simp
             with_reducible rfl
            rotate_left
            ·simp only [Act.put, Qp1, Qp2, Qp3, i64_w, i32_w]
             rfl
            refine one_ (i := 8) (N := some 74) (Qbz 11 1023) rfl rfl (by kernel_rfl) (by decide) (fun K hK => ?_)
            refine goes_ Tryd.func69 (by kernel_rfl) rfl #[.int .i64 (q : Int)] (by rfl) rfl rfl (by simp only [List.map_toArray, List.map_cons, List.map_nil]; rfl) ?_
            with_reducible refine (CND.out _ hHeld).mono ?_
            rintro e w12 ⟨A8, c8, rfl, hC8, g2, gB2⟩
            refine ⟨_, rfl, ?_⟩
            refine hK.out _ _ ⟨g2, gB2⟩ (fun hHeld => ?_)
            clear hK K
            refine norm_ (a' := ?_) ?_ ?_
            rotate_left
            ·show Act.put _ (some 74) _ = _
             simp only [Act.put, Qp1, Qp2, Qp3, i64_w, i32_w]
             rfl
            refine one_ (i := 10) (N := some 76) (Qbz 11 2047) rfl rfl (by kernel_rfl) (by decide) (fun K hK => ?_)
            refine goes_ Tryd.func68 (by kernel_rfl) rfl #[.slice A8 l.length c8, .func (.func 70) #[] #[.pointer (some ⟨mB, 0, none⟩), .pointer (some ⟨w2.heap.size, 0, none⟩), .pointer (some ⟨sB, 0, none⟩)]] (by rfl) rfl rfl (by simp only [List.map_toArray, List.map_cons, List.map_nil]; rfl) ?_
            with_reducible refine (CCF.out _ _ _ hHeld hC8).mono ?_
            rintro e w13 ⟨rfl, k2, kB2⟩
            refine ⟨_, rfl, ?_⟩
            refine hK.out _ _ ⟨k2, kB2⟩ (fun hHeld => ?_)
            clear hK K
            refine norm_ (a' := ?_) ?_ ?_
            rotate_left
            ·show Act.put _ (some 76) _ = _
             simp only [Act.put, Qp1, Qp2, Qp3, i64_w, i32_w]
             rfl
            refine done_ (by kernel_rfl) ?_
            go_wp2
            go_ret2
            exact ⟨rfl, below_step HBW11.out hHeld.2⟩
         ·have ht1 : ((((xn &&& used : Nat) : Int)) != 0) = true := by simp; omega
          have HNO : Aside0 (false = r1) := ⟨by
           have := HAH.out
           rw [decide_eq_false hna] at this
           simpa using this⟩
          have hr1 := HNO.out
          subst hr1
          clear hna
          go_wp2
          rw [← hw9]
          refine start_ (n := 20) (S := fun w' => w'.cell? ⟨sB, 0, none⟩ = some (.int .i64 (xn : Int)) ∧ w'.cell? ⟨w2.heap.size, 0, none⟩ = some (.slice A5 G.length c5) ∧ Below w9.heap.size w9 w') (ds := []) (Qbz 20 0) (by kernel_rfl) rfl rfl ⟨f0d, f1d, fBd⟩ (fun hHeld => ?_)
          refine take_ (i := 0) (N := some 43) (v := ?_) (a' := ?_) (Qbz 20 1) rfl rfl (by kernel_rfl) (fun _ _ _ h => h) (Or.inl ⟨by rfl, ?_⟩) hHeld ?_ ?_
          rotate_left
          ·rintro w' ⟨s0, s1, s2⟩
           go_simp
           with_reducible rfl
          rotate_left
          ·simp only [Act.put, Qp1, Qp2, Qp3, i64_w, i32_w]
           rfl
          refine pure_ (i := 1) (N := some 44) (v := ?_) (a' := ?_) (Qbz 20 3) rfl rfl (by kernel_rfl) (fun _ _ _ h => h) (Or.inl ⟨by rfl, ?_⟩) ?_ ?_
          rotate_left
          ·intro w'
           go_simp
           with_reducible rfl
          rotate_left
          ·simp only [Act.put, Qp1, Qp2, Qp3, i64_w, i32_w]
           rfl
          refine pure_ (i := 2) (N := some 45) (v := ?_) (a' := ?_) (Qbz 20 7) rfl rfl (by kernel_rfl) (fun _ _ _ h => h) (Or.inl ⟨by rfl, ?_⟩) ?_ ?_
          rotate_left
          ·intro w'
           go_simp
           with_reducible rfl
          rotate_left
          ·simp only [Act.put, Qp1, Qp2, Qp3, i64_w, i32_w]
           rfl
          refine take_ (i := 3) (N := some 46) (v := ?_) (a' := ?_) (Qbz 20 15) rfl rfl (by kernel_rfl) (fun _ _ _ h => h) (Or.inl ⟨by rfl, ?_⟩) hHeld ?_ ?_
          rotate_left
          ·rintro w' ⟨s0, s1, s2⟩
           go_simp
           with_reducible rfl
          rotate_left
          ·simp only [Act.put, Qp1, Qp2, Qp3, i64_w, i32_w]
           rfl
          refine take_ (i := 4) (N := some 47) (v := ?_) (a' := ?_) (Qbz 20 31) rfl rfl (by kernel_rfl) (fun _ _ _ h => h) (Or.inl ⟨by rfl, ?_⟩) hHeld ?_ ?_
          rotate_left
          ·rintro w' ⟨s0, s1, s2⟩
           go_simp
           with_reducible rfl
          rotate_left
          ·simp only [Act.put, Qp1, Qp2, Qp3, i64_w, i32_w]
           rfl
          refine one_ (i := 5) (N := some 48) (Qbz 20 63) rfl rfl (by kernel_rfl) (by decide) (fun K hK => ?_)
          refine goes_ Tryd.func66 (by kernel_rfl) rfl #[.slice A5 G.length c5] (by rfl) rfl rfl (by simp only [List.map_toArray, List.map_cons, List.map_nil]; rfl) ?_
          with_reducible refine (CALL.out _ hHeld).mono ?_
          rintro e w10 ⟨rfl, g0, g1, gB⟩
          refine ⟨_, rfl, ?_⟩
          refine hK.out _ _ ⟨g0, g1, gB⟩ (fun hHeld => ?_)
          clear hK K
          refine norm_ (a' := ?_) ?_ ?_
          rotate_left
          ·show Act.put _ (some 48) _ = _
           simp only [Act.put, Qp1, Qp2, Qp3, i64_w, i32_w]
           rfl
          refine pure_ (i := 6) (N := some 49) (v := ?_) (a' := ?_) (Qbz 20 127) rfl rfl (by kernel_rfl) (fun _ _ _ h => h) (Or.inl ⟨by rfl, ?_⟩) ?_ ?_
          rotate_left
          ·intro w'
           go_simp
           with_reducible rfl
          rotate_left
          ·simp only [Act.put, Qp1, Qp2, Qp3, i64_w, i32_w]
           rfl
          refine pure_ (i := 7) (N := some 50) (v := ?_) (a' := ?_) (Qbz 20 255) rfl rfl (by kernel_rfl) (fun _ _ _ h => h) (Or.inl ⟨by rfl, ?_⟩) ?_ ?_
          rotate_left
          ·intro w'
           go_simp
           with_reducible rfl
          rotate_left
          ·simp only [Act.put, Qp1, Qp2, Qp3, i64_w, i32_w]
           rfl
          refine pure_ (i := 8) (N := some 51) (v := ?_) (a' := ?_) (Qbz 20 511) rfl rfl (by kernel_rfl) (fun _ _ _ h => h) (Or.inl ⟨by rfl, ?_⟩) ?_ ?_
          rotate_left
          ·intro w'
           go_simp
           with_reducible rfl
          rotate_left
          ·simp only [Act.put, Qp1, Qp2, Qp3, i64_w, i32_w]
           rfl
          refine pure_ (i := 10) (N := some 53) (v := ?_) (a' := ?_) (Qbz 20 1535) rfl rfl (by kernel_rfl) (fun _ _ _ h => h) (Or.inl ⟨by rfl, ?_⟩) ?_ ?_
          rotate_left
          ·intro w'
           go_simp
           with_reducible rfl
          rotate_left
          ·simp only [Act.put, Qp1, Qp2, Qp3, i64_w, i32_w]
           rfl
          refine take_ (i := 9) (N := some 52) (v := ?_) (a' := ?_) (Qbz 20 2047) rfl rfl (by kernel_rfl) (fun _ _ _ h => h) (Or.inl ⟨by rfl, ?_⟩) hHeld ?_ ?_
          rotate_left
          ·rintro w' ⟨s0, s1, s2⟩
           go_simp
           with_reducible rfl
          rotate_left
          ·simp only [Act.put, Qp1, Qp2, Qp3, i64_w, i32_w]
           rfl
          refine pure_ (i := 11) (N := some 54) (v := ?_) (a' := ?_) (Qbz 20 4095) rfl rfl (by kernel_rfl) (fun _ _ _ h => h) (Or.inl ⟨by rfl, ?_⟩) ?_ ?_
          rotate_left
          ·intro w'
           go_simp
           with_reducible rfl
          rotate_left
          ·simp only [Act.put, Qp1, Qp2, Qp3, i64_w, i32_w]
           rfl
          refine pure_ (i := 12) (N := some 55) (v := ?_) (a' := ?_) (Qbz 20 8191) rfl rfl (by kernel_rfl) (fun _ _ _ h => h) (Or.inl ⟨by rfl, ?_⟩) ?_ ?_
          rotate_left
          ·intro w'
           go_simp
           with_reducible rfl
          rotate_left
          ·simp only [Act.put, Qp1, Qp2, Qp3, i64_w, i32_w]
           rfl
          refine pure_ (i := 13) (N := some 56) (v := ?_) (a' := ?_) (Qbz 20 16383) rfl rfl (by kernel_rfl) (fun _ _ _ h => h) (Or.inl ⟨by rfl, ?_⟩) ?_ ?_
          rotate_left
          ·intro w'
           go_simp
           with_reducible rfl
          rotate_left
          ·simp only [Act.put, Qp1, Qp2, Qp3, i64_w, i32_w]
           rfl
          refine pure_ (i := 14) (N := some 57) (v := ?_) (a' := ?_) (Qbz 20 32767) rfl rfl (by kernel_rfl) (fun _ _ _ h => h) (Or.inl ⟨by rfl, ?_⟩) ?_ ?_
          rotate_left
          ·intro w'
           go_simp
           with_reducible rfl
          rotate_left
          ·simp only [Act.put, Qp1, Qp2, Qp3, i64_w, i32_w]
           rfl
          refine pure_ (i := 15) (N := some 58) (v := undef) (a' := ?_) (Qbz 20 65535) rfl rfl (by kernel_rfl) (fun _ _ _ h => h) (Or.inr ⟨by rfl, rfl⟩) ?_ ?_
          rotate_left
          ·simp only [Act.put, Qp1, Qp2, Qp3, i64_w, i32_w]
           rfl
          refine pure_ (i := 16) (N := some 59) (v := undef) (a' := ?_) (Qbz 20 131071) rfl rfl (by kernel_rfl) (fun _ _ _ h => h) (Or.inr ⟨by rfl, rfl⟩) ?_ ?_
          rotate_left
          ·simp only [Act.put, Qp1, Qp2, Qp3, i64_w, i32_w]
           rfl
          refine pure_ (i := 17) (N := some 60) (v := undef) (a' := ?_) (Qbz 20 262143) rfl rfl (by kernel_rfl) (fun _ _ _ h => h) (Or.inr ⟨by rfl, rfl⟩) ?_ ?_
          rotate_left
          ·simp only [Act.put, Qp1, Qp2, Qp3, i64_w, i32_w]
           rfl
          refine pure_ (i := 18) (N := some 61) (v := undef) (a' := ?_) (Qbz 20 524287) rfl rfl (by kernel_rfl) (fun _ _ _ h => h) (Or.inr ⟨by rfl, rfl⟩) ?_ ?_
          rotate_left
          ·simp only [Act.put, Qp1, Qp2, Qp3, i64_w, i32_w]
           rfl
          refine pure_ (i := 19) (N := some 62) (v := ?_) (a' := ?_) (Qbz 20 1048575) rfl rfl (by kernel_rfl) (fun _ _ _ h => h) (Or.inl ⟨by rfl, ?_⟩) ?_ ?_
          rotate_left
          ·intro w'
           go_simp
           with_reducible rfl
          rotate_left
          ·simp only [Act.put, Qp1, Qp2, Qp3, i64_w, i32_w]
           rfl
          refine done_ (by kernel_rfl) ?_
          go_wp2
          go_ret2
          exact ⟨rfl, below_step HB4.out (below_step HBW.out (below_step HB9.out hHeld.2.2))⟩
      ·have hi1 : ((i : Int) < (l2.length : Int)) = False := eq_false (by omega)
       have hi2 : decide ((i : Int) < (l2.length : Int)) = false := decide_eq_false (by omega)
       have ha := HA.out
       rw [List.drop_eq_nil_of_le (by omega)] at ha
       have hr : r1 = true := ha.symm
       subst hr
       clear ha HA
       go_wp2
       go_ret2
       exact ⟨rfl, below_step HB4.out HBW.out⟩
    ·have hlp1 : ((l2.length : Int) != (P.length : Int)) = true := by simp; omega
     simp only [Bool.and_self, if_true, if_neg hLP] at h
     injection h with h1 h2
     subst h1 h2
     go_enter Tryd.func23, Tryd.ntmps23
     go_wp2_with (first
      | ((with_reducible refine gate_dst (N := 5) rfl ?_); refine box_event ?hg (N := 5) ?hd (cs := #[.slice A2 l2.length c2]) (t := 22) ?hr ?_; (case hd => rfl); (case hg => rfl); (case hr => first | (go_simp; done) | (go_simp; rfl)); intro mB hga w1 hbox hb1; have HB1 := Aside0.mk hb1; have HM1 := Aside0.mk hbox; clear hga hbox hb1)
      | (go_at_call 63; refine (HC2.out _ (below_alloc HB2.out _)).mono ?_; rintro e w4 ⟨v2, rfl, hv2, hb4⟩; obtain ⟨A6, c6, rfl, hc6, hC6⟩ := hv2 trivial; have HB4 := Aside0.mk (below_step (below_alloc HB2.out _) hb4); have hm2 : w2.heap[mB]? = some (.cells #[.slice A2 l2.length c2] 22 (0, 0)) := blk_below HM1.out HB12.out; have hm4 : w4.cell? ⟨mB, 0, none⟩ = some (.slice A2 l2.length c2) := (blk_cell (blk_below (blk_alloc hm2 _) hb4) 0).trans rfl; clear hb4 hv2 hC6 hm2)
      | (go_at_call 63; refine (HC1.out _ HB1.out).mono ?_; rintro e w2 ⟨v1, rfl, hv1, hb2⟩; obtain ⟨A5, c5, rfl, hc5, hC5⟩ := hv1 trivial; have HC5 := Aside0.mk hC5; clear hC5; have HB2 := Aside0.mk (below_step HB1.out hb2); have HB12 := Aside0.mk hb2; clear hb2 hv1))
     go_ret2
     exact ⟨rfl, HB4.out⟩
 ·rw [if_neg hlen] at h
  cases h
end Go.Proofs.YtjloppfdagfpmaaDoor.X
end
section
namespace Go.Proofs.YtjloppfdagfpmaaDoor.X
open Go.RowKit YtjloppfdagfpmaaDoorW.PrintWords YtjloppfdagfpmaaDoorW.PrintLast YtjloppfdagfpmaaDoorW.PrintMore
attribute [local go_sem] max2_int min2_int max_two min_two max_three min_three max_four min_four
/-! ### slices_Equal_int_int: function 27 -/
def slices_Equal_int_int.l0 : Nat → List Int → List Int → Int → Int → Option (Bool)
 | 0, _, _, _, _ => none
 | k + 1, x0, x1, x12, x13 => if x13 < x12 then (if 0 ≤ x13 then (if x13 < (x0.length : Int) then (if x13 < (x1.length : Int) then (if (rd x0 x13) = (rd x1 x13) then (slices_Equal_int_int.l0 k x0 x1 x12 (wrap64 (x13 + 1))) else (some false)) else (none)) else (none)) else (none)) else (some true)
def slices_Equal_int_int.f (k : Nat) (l0 : List Int) (l1 : List Int) : Option (Bool) := if (l0.length : Int) = (l1.length : Int) then (slices_Equal_int_int.l0 k l0 l1 (l0.length : Int) 0) else (some false)
theorem slices_Equal_int_int.mono_l : ∀ k, (∀ y0 y1 y2 y3, LeO (slices_Equal_int_int.l0 k y0 y1 y2 y3) (slices_Equal_int_int.l0 (k + 1) y0 y1 y2 y3))
 | 0 => fun _ _ _ _ r h => by simp [slices_Equal_int_int.l0] at h
 | k + 1 => by
  have ih0 := slices_Equal_int_int.mono_l k
  ·intro y0 y1 y2 y3
   unfold slices_Equal_int_int.l0
   repeat' first
   | (with_reducible exact ih0 _ _ _ _)
   | (with_reducible exact LeO.refl _)
   | (with_reducible exact LeO.none _)
   | (with_reducible refine LeO.ite ?_ ?_)
   | (with_reducible refine LeO.bind ?_ (fun _ => ?_))
   | exact ih0 _ _ _ _
   | exact LeO.none _
   | refine LeO.ite ?_ ?_
   | refine LeO.bind ?_ (fun _ => ?_)
theorem slices_Equal_int_int.mono : ∀ a0 a1 k, LeO (slices_Equal_int_int.f k a0 a1) (slices_Equal_int_int.f (k + 1) a0 a1) := by
 intro a0 a1 k
 have ih0 := slices_Equal_int_int.mono_l k
 unfold slices_Equal_int_int.f
 repeat' first
   | (with_reducible exact ih0 _ _ _ _)
   | (with_reducible exact LeO.refl _)
   | (with_reducible exact LeO.none _)
   | (with_reducible refine LeO.ite ?_ ?_)
   | (with_reducible refine LeO.bind ?_ (fun _ => ?_))
   | exact ih0 _ _ _ _
   | exact LeO.none _
   | refine LeO.ite ?_ ?_
   | refine LeO.bind ?_ (fun _ => ?_)
set_option maxHeartbeats 8000000 in
set_option maxRecDepth 100000 in
theorem slices_Equal_int_int.calls (k : Nat) (A0 : Option Addr) (c0 : Nat) (l0 : List Int) (A1 : Option Addr) (c1 : Nat) (l1 : List Int) (r : Bool) (w : World) (hr0 : Kd.C (Kd.int .i64) w A0 l0.length l0) (hc0 : l0.length ≤ c0) (hr1 : Kd.C (Kd.int .i64) w A1 l1.length l1) (hc1 : l1.length ≤ c1) (h : slices_Equal_int_int.f k l0 l1 = some r) :
  Calls Tryd.prog 27 #[.slice A0 l0.length c0, .slice A1 l1.length c1] w fun e w' => e = .returned (.bool r) ∧ Drawn0 w w' := by
 have HR0 := Aside0.mk hr0
 have HC0 := Aside0.mk hc0
 clear hr0 hc0
 have HR1 := Aside0.mk hr1
 have HC1 := Aside0.mk hc1
 clear hr1 hc1
 have H : (if (l0.length : Int) = (l1.length : Int) then (slices_Equal_int_int.l0 k l0 l1 (l0.length : Int) 0) else (some false)) = some r := h
 clear h
 by_cases c3 : (l0.length : Int) = (l1.length : Int)
 ·rw [if_pos c3] at H
  have c3b0 : ((l0.length : Int) == (l1.length : Int)) = true := beq_iff_eq.mpr c3
  have c3b1 : ((l0.length : Int) != (l1.length : Int)) = false := bne_eq_false_iff_eq.mpr c3
  have c3b2 : (l0.length == l1.length) = true := by first | simpa using c3 | (simp at c3 ⊢; omega)
  clear c3
  have H' := Aside0.mk H
  clear H
  go_enter Tryd.func27, Tryd.ntmps27
  go_wp2
  repeat (go_quiet (fail); try go_wp2)
  go_loopg [13] k (fun kq v13 w' => ∃ (x13_1 : Int), v13 = .int .i64 x13_1 ∧ Aside0 (slices_Equal_int_int.l0 kq l0 l1 (l0.length : Int) x13_1 = some r) ∧ Aside0 (kq ≤ k) ∧ Drawn0 w w')
  case atStart => exact ⟨(0), (by first | rfl | (simp; done) | (simp [*]; done)), H', ⟨Nat.le_refl _⟩, by repeat (first | exact Drawn0.refl _ | apply Drawn0.step)⟩
  case round =>
   clear H'
   try clear c1
   try clear c2
   try clear p2
   try clear c3
   try clear c3b0
   try clear c3b1
   try clear c3b2
   obtain ⟨x13_1, rfl, HA, HK1, ⟨m1, rfl⟩⟩ := hrel
   cases gk with
   | zero => exact absurd HA.out (by simp [slices_Equal_int_int.l0])
   | succ k1 =>
    have H := HA.out
    clear HA
    simp only [slices_Equal_int_int.l0] at H
    by_cases c4 : x13_1 < (l0.length : Int)
    ·rw [if_pos c4] at H
     have c4b0 : decide (x13_1 < (l0.length : Int)) = true := decide_eq_true c4
     clear c4
     by_cases c5 : 0 ≤ x13_1
     ·rw [if_pos c5] at H
      have c5b0 : decide (0 ≤ x13_1) = true := decide_eq_true c5
      clear c5
      by_cases c6 : x13_1 < (l0.length : Int)
      ·rw [if_pos c6] at H
       have c6b0 : decide (x13_1 < (l0.length : Int)) = true := decide_eq_true c6
       clear c6
       by_cases c7 : x13_1 < (l1.length : Int)
       ·rw [if_pos c7] at H
        have c7b0 : decide (x13_1 < (l1.length : Int)) = true := decide_eq_true c7
        clear c7
        by_cases c8 : (rd l0 x13_1) = (rd l1 x13_1)
        ·rw [if_pos c8] at H
         have c8b0 : ((rd l0 x13_1) == (rd l1 x13_1)) = true := beq_iff_eq.mpr c8
         have c8b1 : ((rd l0 x13_1) != (rd l1 x13_1)) = false := bne_eq_false_iff_eq.mpr c8
         clear c8
         have H' := Aside0.mk H
         clear H
         have p127 : 0 ≤ (x13_1 : Int) := of_decide_eq_true (by first | (with_reducible assumption) | assumption)
         have q127 : x13_1 < (l0.length : Int) := of_decide_eq_true (by first | (with_reducible assumption) | assumption)
         obtain ⟨ad127, e127, hx127_0⟩ := Kd.at_int HR0.out x13_1 p127 q127
         cases e127
         replace p127 := eq_true p127
         replace q127 := eq_true q127
         have p128 : 0 ≤ (x13_1 : Int) := of_decide_eq_true (by first | (with_reducible assumption) | assumption)
         have q128 : x13_1 < (l1.length : Int) := of_decide_eq_true (by first | (with_reducible assumption) | assumption)
         obtain ⟨ad128, e128, hx128_0⟩ := Kd.at_int HR1.out x13_1 p128 q128
         cases e128
         replace p128 := eq_true p128
         replace q128 := eq_true q128
         go_wp2
         repeat (go_quiet (fail); try go_wp2)
         go_roundg k1
         case measure => have := HK1.out; omega
         case rel => exact ⟨(wrap64 (x13_1 + 1)), (by first | rfl | (simp; done) | (simp [*]; done)), H', ⟨by have := HK1.out; omega⟩, by repeat (first | exact Drawn0.refl _ | apply Drawn0.step)⟩
        ·rw [if_neg c8] at H
         have c8b0 : ((rd l0 x13_1) == (rd l1 x13_1)) = false := beq_eq_false_iff_ne.mpr c8
         have c8b1 : ((rd l0 x13_1) != (rd l1 x13_1)) = true := bne_iff_ne.mpr c8
         obtain rfl := Option.some.inj H
         have p127 : 0 ≤ (x13_1 : Int) := of_decide_eq_true (by first | (with_reducible assumption) | assumption)
         have q127 : x13_1 < (l0.length : Int) := of_decide_eq_true (by first | (with_reducible assumption) | assumption)
         obtain ⟨ad127, e127, hx127_0⟩ := Kd.at_int HR0.out x13_1 p127 q127
         cases e127
         replace p127 := eq_true p127
         replace q127 := eq_true q127
         have p128 : 0 ≤ (x13_1 : Int) := of_decide_eq_true (by first | (with_reducible assumption) | assumption)
         have q128 : x13_1 < (l1.length : Int) := of_decide_eq_true (by first | (with_reducible assumption) | assumption)
         obtain ⟨ad128, e128, hx128_0⟩ := Kd.at_int HR1.out x13_1 p128 q128
         cases e128
         replace p128 := eq_true p128
         replace q128 := eq_true q128
         go_wp2
         repeat (go_quiet (fail); try go_wp2)
         go_ret
         exact ⟨by first | rfl | (simp; done) | (simp [*]; done), by repeat (first | exact Drawn0.refl _ | apply Drawn0.step)⟩
       ·rw [if_neg c7] at H
        exact absurd H (by simp)
      ·rw [if_neg c6] at H
       exact absurd H (by simp)
     ·rw [if_neg c5] at H
      exact absurd H (by simp)
    ·rw [if_neg c4] at H
     have c4b0 : decide (x13_1 < (l0.length : Int)) = false := decide_eq_false c4
     clear c4
     obtain rfl := Option.some.inj H
     go_wp2
     repeat (go_quiet (fail); try go_wp2)
     go_ret
     exact ⟨by first | rfl | (simp; done) | (simp [*]; done), by repeat (first | exact Drawn0.refl _ | apply Drawn0.step)⟩
 ·rw [if_neg c3] at H
  have c3b0 : ((l0.length : Int) == (l1.length : Int)) = false := beq_eq_false_iff_ne.mpr c3
  have c3b1 : ((l0.length : Int) != (l1.length : Int)) = true := bne_iff_ne.mpr c3
  have c3b2 : (l0.length == l1.length) = false := by first | simpa using c3 | (simp at c3 ⊢; omega)
  obtain rfl := Option.some.inj H
  go_enter Tryd.func27, Tryd.ntmps27
  go_wp2
  repeat (go_quiet (fail); try go_wp2)
  go_ret
  exact ⟨by first | rfl | (simp; done) | (simp [*]; done), by repeat (first | exact Drawn0.refl _ | apply Drawn0.step)⟩
end Go.Proofs.YtjloppfdagfpmaaDoor.X
end
section
namespace Go.Proofs.YtjloppfdagfpmaaDoor.X
open Go.RowKit YtjloppfdagfpmaaDoorW.PrintWords YtjloppfdagfpmaaDoorW.PrintLast YtjloppfdagfpmaaDoorW.PrintMore
attribute [local go_sem] max2_int min2_int max_two min_two max_three min_three max_four min_four
/-! ### lampblacklaw07_awake: function 17 -/
def lampblacklaw07_awake.f (k : Nat)  : Option (Bool) := (minor_Model.f (([2, 1] : List Int)) (([2, 1] : List Int))).bind fun bt135 => (if bt135.2 = 0 then ((slices_Equal_int_int.f k bt135.1 (([1, 2] : List Int))).bind fun t142 => (some t142)) else (some false))
theorem lampblacklaw07_awake.mono : ∀ k, LeO (lampblacklaw07_awake.f k ) (lampblacklaw07_awake.f (k + 1) ) := by
 intro  k
 unfold lampblacklaw07_awake.f
 repeat' first
   | (with_reducible exact slices_Equal_int_int.mono _ _ _)
   | (with_reducible exact LeO.refl _)
   | (with_reducible exact LeO.none _)
   | (with_reducible refine LeO.ite ?_ ?_)
   | (with_reducible refine LeO.bind ?_ (fun _ => ?_))
   | exact slices_Equal_int_int.mono _ _ _
   | exact LeO.none _
   | refine LeO.ite ?_ ?_
   | refine LeO.bind ?_ (fun _ => ?_)
set_option maxHeartbeats 8000000 in
set_option maxRecDepth 100000 in
theorem lampblacklaw07_awake.calls (k : Nat)  (r : Bool) (w : World) (hGL : GL w) (h : lampblacklaw07_awake.f k  = some r) :
  Calls Tryd.prog 17 #[] w fun e w' => e = .returned (.bool r) ∧ Below w.heap.size w w' := by
 have HGL := Aside0.mk hGL
 clear hGL
 have HB := Aside0.mk (Below.refl w.heap.size w)
 have H : ((minor_Model.f (([2, 1] : List Int)) (([2, 1] : List Int))).bind fun bt135 => (if bt135.2 = 0 then ((slices_Equal_int_int.f k bt135.1 (([1, 2] : List Int))).bind fun t142 => (some t142)) else (some false))) = some r := h
 clear h
 obtain ⟨y129, hy129⟩ : ∃ y_ : List Int, y_ = (([2, 1] : List Int)) := ⟨_, rfl⟩
 replace H : ((minor_Model.f y129 (([2, 1] : List Int))).bind fun bt135 => (if bt135.2 = 0 then ((slices_Equal_int_int.f k bt135.1 (([1, 2] : List Int))).bind fun t142 => (some t142)) else (some false))) = some r := by first | (rw [hy129]; with_reducible exact H) | (have H2_ := (Option.bind_some _ _).symm.trans H; rw [hy129]; with_reducible exact H2_) | (have H2_ := (Option.bind_some _ _).symm.trans H; with_reducible exact H2_) | with_reducible exact H | (rw [hy129]; exact H) | exact H
 have Ny129 := Aside0.mk hy129
 clear hy129
 obtain ⟨y132, hy132⟩ : ∃ y_ : List Int, y_ = (([2, 1] : List Int)) := ⟨_, rfl⟩
 replace H : ((minor_Model.f y129 y132).bind fun bt135 => (if bt135.2 = 0 then ((slices_Equal_int_int.f k bt135.1 (([1, 2] : List Int))).bind fun t142 => (some t142)) else (some false))) = some r := by first | (rw [hy132]; with_reducible exact H) | (have H2_ := (Option.bind_some _ _).symm.trans H; rw [hy132]; with_reducible exact H2_) | (have H2_ := (Option.bind_some _ _).symm.trans H; with_reducible exact H2_) | with_reducible exact H | (rw [hy132]; exact H) | exact H
 have Ny132 := Aside0.mk hy132
 clear hy132
 replace H := Option.bind_eq_some_iff.mp H
 obtain ⟨⟨t135, t136⟩, A10, H⟩ := H
 replace H : (if t136 = 0 then ((slices_Equal_int_int.f k t135 (([1, 2] : List Int))).bind fun t142 => (some t142)) else (some false)) = some r := H
 have A1 := Aside0.mk A10
 clear A10
 by_cases c2 : t136 = 0
 ·rw [if_pos c2] at H
  have c2b0 : (t136 == 0) = true := beq_iff_eq.mpr c2
  have c2b1 : (t136 != 0) = false := bne_eq_false_iff_eq.mpr c2
  clear c2
  obtain ⟨y139, hy139⟩ : ∃ y_ : List Int, y_ = (([1, 2] : List Int)) := ⟨_, rfl⟩
  replace H : ((slices_Equal_int_int.f k t135 y139).bind fun t142 => (some t142)) = some r := by first | (rw [hy139]; with_reducible exact H) | (have H2_ := (Option.bind_some _ _).symm.trans H; rw [hy139]; with_reducible exact H2_) | (have H2_ := (Option.bind_some _ _).symm.trans H; with_reducible exact H2_) | with_reducible exact H | (rw [hy139]; exact H) | exact H
  have Ny139 := Aside0.mk hy139
  clear hy139
  replace H := Option.bind_eq_some_iff.mp H
  obtain ⟨t142, A30, H⟩ := H
  replace H : (some t142) = some r := H
  have A3 := Aside0.mk A30
  clear A30
  obtain rfl := Option.some.inj H
  go_enter Tryd.func17, Tryd.ntmps17
  go_wp2_with (first | ((with_reducible refine gate_dst (N := 4) rfl ?_); (try (refine gate_guard (by rfl) ?_; dsimp only)); refine Kd.R_lit (Kd.int .i64) _ 3 ?hg (N := 4) ?hd (xs := ([2, 1] : List Int)) (inner := [.int .i64 2, .int .i64 1]) (ok := fun _ => True) (okp := fun _ => True) ?hr ?hp (fun _ hk => hk) trivial (Below.refl _ _) (Nat.le_refl _) (by simp) ?_; (case hd => rfl); (case hg => rfl); (case hr => first | (go_simp; done) | (go_simp; rfl)); (case hp => exact (Reps.one (show Kd.M (Kd.int .i64) _ _ _ 2 [.int .i64 2] from rfl) (Reps.one (show Kd.M (Kd.int .i64) _ _ _ 1 [.int .i64 1] from rfl) (Reps.none _ _)))); intro v130 w4 ho5 hb hg_ hnew_; clear hg_ hnew_; (first | rw [← Ny129.out] at ho5 | (simp only [Int.reduceToNat] at ho5; rw [← Ny129.out] at ho5)); have n0_ := Aside0.mk (Kd.R_lower ho5 (below_size (Qaw))); have n1_ := Aside0.mk (below_step (Qaw) hb); clear HB; have HO131 := n0_; have HB := n1_; clear n0_ n1_; clear hb ho5) | ((with_reducible refine gate_dst (N := 5) rfl ?_); (try (refine gate_guard (by rfl) ?_; dsimp only)); refine Kd.R_lit (Kd.int .i64) _ 3 ?hg (N := 5) ?hd (xs := ([2, 1] : List Int)) (inner := [.int .i64 2, .int .i64 1]) (ok := fun _ => True) (okp := fun _ => True) ?hr ?hp (fun _ hk => hk) trivial (Below.refl _ _) (Nat.le_refl _) (by simp) ?_; (case hd => rfl); (case hg => rfl); (case hr => first | (go_simp; done) | (go_simp; rfl)); (case hp => exact (Reps.one (show Kd.M (Kd.int .i64) _ _ _ 2 [.int .i64 2] from rfl) (Reps.one (show Kd.M (Kd.int .i64) _ _ _ 1 [.int .i64 1] from rfl) (Reps.none _ _)))); intro v133 w6 ho7 hb hg_ hnew_; clear hg_ hnew_; (first | rw [← Ny132.out] at ho7 | (simp only [Int.reduceToNat] at ho7; rw [← Ny132.out] at ho7)); have n0_ := Aside0.mk (Kd.R_elder' (Qro HO131.out) (Kd.R_base ho7) hb); have n1_ := Aside0.mk (Kd.R_lower (Kd.R_new' ho7 (Kd.R_lt (Qro HO131.out))) (below_size (Qaw))); have n2_ := Aside0.mk (below_step (Qaw) hb); clear HO131; clear HB; have HO131 := n0_; have HO134 := n1_; have HB := n2_; clear n0_ n1_ n2_; clear hb ho7; obtain ⟨Ao8, co8, eo8⟩ := Kd.R_slice HO131.out; subst eo8; obtain ⟨Ao9, co9, eo9⟩ := Kd.R_slice HO134.out; subst eo9) | ((with_reducible refine gate_callee (f := 21) rfl ?_); refine goesL_ (some 6) rfl rfl Tryd.func21 (by kernel_rfl) rfl #[.slice Ao8 y129.length co8, .slice Ao9 y132.length co9] rfl (Qls) ?_; (with_reducible refine (minor_Model.calls (hGL := (Qlg)) _ _ y129 _ _ y132 t135 t136 _ ?side1 ?side2 ?side3 ?side4 A1.out).mono ?_); (case side1 => exact Qsc (Kd.R_reads' HO131.out).2.2); (case side2 => exact (Kd.R_reads' HO131.out).2.1); (case side3 => exact Qsc (Kd.R_reads' HO134.out).2.2); (case side4 => exact (Kd.R_reads' HO134.out).2.1); rintro e w10 ⟨v137, rfl, ho0, hb⟩; refine ⟨_, rfl, ?_⟩; have n0_ := Aside0.mk (Kd.R_elder' (Qro HO131.out) (Kd.R_base ho0) hb); have n1_ := Aside0.mk (Kd.R_elder' (Qro HO134.out) (Kd.R_base ho0) hb); have n2_ := Aside0.mk (Kd.R_lower (Kd.R_new' (Kd.R_new' ho0 (Kd.R_lt (Qro HO131.out))) (Kd.R_lt (Qro HO134.out))) (below_size (Qaw))); have n3_ := Aside0.mk (below_step (Qaw) hb); clear HO131; clear HO134; clear HB; have HO131 := n0_; have HO134 := n1_; have HO138 := n2_; have HB := n3_; clear n0_ n1_ n2_ n3_; (try clear hb); (try clear hb2); (try clear hk); (try clear hi); (try clear ho0)) | ((with_reducible refine gate_dst (N := 13) rfl ?_); (try (refine gate_guard (by rfl) ?_; dsimp only)); refine Kd.R_lit (Kd.int .i64) _ 3 ?hg (N := 13) ?hd (xs := ([1, 2] : List Int)) (inner := [.int .i64 1, .int .i64 2]) (ok := fun _ => True) (okp := fun _ => True) ?hr ?hp (fun _ hk => hk) trivial (Below.refl _ _) (Nat.le_refl _) (by simp) ?_; (case hd => rfl); (case hg => rfl); (case hr => first | (go_simp; done) | (go_simp; rfl)); (case hp => exact (Reps.one (show Kd.M (Kd.int .i64) _ _ _ 1 [.int .i64 1] from rfl) (Reps.one (show Kd.M (Kd.int .i64) _ _ _ 2 [.int .i64 2] from rfl) (Reps.none _ _)))); intro v140 w11 ho12 hb hg_ hnew_; clear hg_ hnew_; (first | rw [← Ny139.out] at ho12 | (simp only [Int.reduceToNat] at ho12; rw [← Ny139.out] at ho12)); have n0_ := Aside0.mk (Kd.R_elder' (Qro HO131.out) (Kd.R_base ho12) hb); have n1_ := Aside0.mk (Kd.R_elder' (Qro HO134.out) (Kd.R_base ho12) hb); have n2_ := Aside0.mk (Kd.R_elder' (Qro HO138.out) (Kd.R_base ho12) hb); have n3_ := Aside0.mk (Kd.R_lower (Kd.R_new' (Kd.R_new' (Kd.R_new' ho12 (Kd.R_lt (Qro HO131.out))) (Kd.R_lt (Qro HO134.out))) (Kd.R_lt (Qro HO138.out))) (below_size (Qaw))); have n4_ := Aside0.mk (below_step (Qaw) hb); clear HO131; clear HO134; clear HO138; clear HB; have HO131 := n0_; have HO134 := n1_; have HO138 := n2_; have HO141 := n3_; have HB := n4_; clear n0_ n1_ n2_ n3_ n4_; clear hb ho12; obtain ⟨Ao13, co13, eo13⟩ := Kd.R_slice HO138.out; subst eo13; obtain ⟨Ao14, co14, eo14⟩ := Kd.R_slice HO141.out; subst eo14) | (go_at_call 27; (with_reducible refine (slices_Equal_int_int.calls k _ _ t135 _ _ y139 t142 _ ?side1 ?side2 ?side3 ?side4 A3.out).mono ?_); (case side1 => exact Qsc (Kd.R_reads' HO138.out).2.2); (case side2 => exact (Kd.R_reads' HO138.out).2.1); (case side3 => exact Qsc (Kd.R_reads' HO141.out).2.2); (case side4 => exact (Kd.R_reads' HO141.out).2.1); rintro e w' ⟨rfl, ⟨nd, rfl⟩⟩))
  go_ret
  exact ⟨by first | rfl | (simp [errW_none, errW_some] <;> rfl) | (simp [*, errW_none, errW_some] <;> rfl), by repeat (first | (with_reducible first | exact HB.out | apply below_alloc | apply pw_below_drewN | apply below_drew1) | exact HB.out)⟩
 ·rw [if_neg c2] at H
  have c2b0 : (t136 == 0) = false := beq_eq_false_iff_ne.mpr c2
  have c2b1 : (t136 != 0) = true := bne_iff_ne.mpr c2
  obtain rfl := Option.some.inj H
  go_enter Tryd.func17, Tryd.ntmps17
  go_wp2_with (first | ((with_reducible refine gate_dst (N := 4) rfl ?_); (try (refine gate_guard (by rfl) ?_; dsimp only)); refine Kd.R_lit (Kd.int .i64) _ 3 ?hg (N := 4) ?hd (xs := ([2, 1] : List Int)) (inner := [.int .i64 2, .int .i64 1]) (ok := fun _ => True) (okp := fun _ => True) ?hr ?hp (fun _ hk => hk) trivial (Below.refl _ _) (Nat.le_refl _) (by simp) ?_; (case hd => rfl); (case hg => rfl); (case hr => first | (go_simp; done) | (go_simp; rfl)); (case hp => exact (Reps.one (show Kd.M (Kd.int .i64) _ _ _ 2 [.int .i64 2] from rfl) (Reps.one (show Kd.M (Kd.int .i64) _ _ _ 1 [.int .i64 1] from rfl) (Reps.none _ _)))); intro v130 w15 ho16 hb hg_ hnew_; clear hg_ hnew_; (first | rw [← Ny129.out] at ho16 | (simp only [Int.reduceToNat] at ho16; rw [← Ny129.out] at ho16)); have n0_ := Aside0.mk (Kd.R_lower ho16 (below_size (Qaw))); have n1_ := Aside0.mk (below_step (Qaw) hb); clear HB; have HO131 := n0_; have HB := n1_; clear n0_ n1_; clear hb ho16) | ((with_reducible refine gate_dst (N := 5) rfl ?_); (try (refine gate_guard (by rfl) ?_; dsimp only)); refine Kd.R_lit (Kd.int .i64) _ 3 ?hg (N := 5) ?hd (xs := ([2, 1] : List Int)) (inner := [.int .i64 2, .int .i64 1]) (ok := fun _ => True) (okp := fun _ => True) ?hr ?hp (fun _ hk => hk) trivial (Below.refl _ _) (Nat.le_refl _) (by simp) ?_; (case hd => rfl); (case hg => rfl); (case hr => first | (go_simp; done) | (go_simp; rfl)); (case hp => exact (Reps.one (show Kd.M (Kd.int .i64) _ _ _ 2 [.int .i64 2] from rfl) (Reps.one (show Kd.M (Kd.int .i64) _ _ _ 1 [.int .i64 1] from rfl) (Reps.none _ _)))); intro v133 w17 ho18 hb hg_ hnew_; clear hg_ hnew_; (first | rw [← Ny132.out] at ho18 | (simp only [Int.reduceToNat] at ho18; rw [← Ny132.out] at ho18)); have n0_ := Aside0.mk (Kd.R_elder' (Qro HO131.out) (Kd.R_base ho18) hb); have n1_ := Aside0.mk (Kd.R_lower (Kd.R_new' ho18 (Kd.R_lt (Qro HO131.out))) (below_size (Qaw))); have n2_ := Aside0.mk (below_step (Qaw) hb); clear HO131; clear HB; have HO131 := n0_; have HO134 := n1_; have HB := n2_; clear n0_ n1_ n2_; clear hb ho18; obtain ⟨Ao19, co19, eo19⟩ := Kd.R_slice HO131.out; subst eo19; obtain ⟨Ao20, co20, eo20⟩ := Kd.R_slice HO134.out; subst eo20) | ((with_reducible refine gate_callee (f := 21) rfl ?_); refine goesL_ (some 6) rfl rfl Tryd.func21 (by kernel_rfl) rfl #[.slice Ao19 y129.length co19, .slice Ao20 y132.length co20] rfl (Qls) ?_; (with_reducible refine (minor_Model.calls (hGL := (Qlg)) _ _ y129 _ _ y132 t135 t136 _ ?side1 ?side2 ?side3 ?side4 A1.out).mono ?_); (case side1 => exact Qsc (Kd.R_reads' HO131.out).2.2); (case side2 => exact (Kd.R_reads' HO131.out).2.1); (case side3 => exact Qsc (Kd.R_reads' HO134.out).2.2); (case side4 => exact (Kd.R_reads' HO134.out).2.1); rintro e w21 ⟨v137, rfl, ho0, hb⟩; refine ⟨_, rfl, ?_⟩; have n0_ := Aside0.mk (Kd.R_elder' (Qro HO131.out) (Kd.R_base ho0) hb); have n1_ := Aside0.mk (Kd.R_elder' (Qro HO134.out) (Kd.R_base ho0) hb); have n2_ := Aside0.mk (Kd.R_lower (Kd.R_new' (Kd.R_new' ho0 (Kd.R_lt (Qro HO131.out))) (Kd.R_lt (Qro HO134.out))) (below_size (Qaw))); have n3_ := Aside0.mk (below_step (Qaw) hb); clear HO131; clear HO134; clear HB; have HO131 := n0_; have HO134 := n1_; have HO138 := n2_; have HB := n3_; clear n0_ n1_ n2_ n3_; (try clear hb); (try clear hb2); (try clear hk); (try clear hi); (try clear ho0)))
  go_ret
  exact ⟨by first | rfl | (simp [errW_none, errW_some] <;> rfl) | (simp [*, errW_none, errW_some] <;> rfl), by repeat (first | (with_reducible first | exact HB.out | apply below_alloc | apply pw_below_drewN | apply below_drew1) | exact HB.out)⟩
end Go.Proofs.YtjloppfdagfpmaaDoor.X
end
section
namespace Go.Proofs.YtjloppfdagfpmaaDoor.X
open Go.RowKit YtjloppfdagfpmaaDoorW.PrintWords YtjloppfdagfpmaaDoorW.PrintLast YtjloppfdagfpmaaDoorW.PrintMore
attribute [local go_sem] max2_int min2_int max_two min_two max_three min_three max_four min_four
/-! ### slices_Clone_Graph: function 65 -/
def slices_Clone_Graph.f (l0 : List Int) : Option (List Int) := (some (([] : List Int) : List Int)).bind fun y154 => (if y154.length + l0.length < 17592186044416 then (some (y154 ++ l0)) else (none))
set_option maxHeartbeats 8000000 in
set_option maxRecDepth 100000 in
theorem slices_Clone_Graph.calls_some (a0 : Addr) (c0 : Nat) (l0 : List Int) (r : List Int) (w : World) (hr0 : Kd.C (Kd.int .i64) w (some a0) l0.length l0) (hc0 : l0.length ≤ c0) (h : slices_Clone_Graph.f l0 = some r) :
  Calls Tryd.prog 65 #[.slice (some a0) l0.length c0] w fun e w' => ∃ v0_ : Value, e = .returned (v0_) ∧ Kd.R (Kd.int .i64) 3 w' w.heap.size (fun _ => True) v0_ r ∧ Below w.heap.size w w' := by
 have HR0 := Aside0.mk hr0
 have HC0 := Aside0.mk hc0
 clear hr0 hc0
 have HB := Aside0.mk (Below.refl w.heap.size w)
 have H : ((some (([] : List Int) : List Int)).bind fun y154 => (if y154.length + l0.length < 17592186044416 then (some (y154 ++ l0)) else (none))) = some r := h
 clear h
 obtain ⟨y154, hy154⟩ : ∃ y_ : List Int, y_ = (([] : List Int)) := ⟨_, rfl⟩
 replace H : (if y154.length + l0.length < 17592186044416 then (some (y154 ++ l0)) else (none)) = some r := by first | (rw [hy154]; with_reducible exact H) | (have H2_ := (Option.bind_some _ _).symm.trans H; rw [hy154]; with_reducible exact H2_) | (have H2_ := (Option.bind_some _ _).symm.trans H; with_reducible exact H2_) | with_reducible exact H | (rw [hy154]; exact H) | exact H
 have Ny154 := Aside0.mk hy154
 clear hy154
 by_cases c2 : y154.length + l0.length < 17592186044416
 ·rw [if_pos c2] at H
  have LMc2 := Aside0.mk c2
  clear c2
  obtain ⟨y157, hy157⟩ : ∃ y_ : List Int, y_ = (y154 ++ l0) := ⟨_, rfl⟩
  replace H : (some y157) = some r := by first | (rw [hy157]; with_reducible exact H) | (have H2_ := (Option.bind_some _ _).symm.trans H; rw [hy157]; with_reducible exact H2_) | (have H2_ := (Option.bind_some _ _).symm.trans H; with_reducible exact H2_) | with_reducible exact H | (rw [hy157]; exact H) | exact H
  have Ny157 := Aside0.mk hy157
  clear hy157
  obtain rfl := Option.some.inj H
  have heq_ := fun (w : World) => Lib.run_eql_slice_nil (P := Tryd.prog) w 23 3 (some a0) l0.length c0 0 0 Tryd.underlying23
  go_enter Tryd.func65, Tryd.ntmps65
  go_wp2_with (first | ((with_reducible refine gate_dst (N := 5) rfl ?_); refine Kd.R_lit (Kd.int .i64) _ 3 ?hg (N := 5) ?hd (xs := ([] : List Int)) (inner := []) (ok := fun _ => True) (okp := fun _ => True) ?hr ?hp (fun _ hk => hk) trivial (Below.refl _ _) (Nat.le_refl _) (by simp) ?_; (case hd => rfl); (case hg => rfl); (case hr => first | (go_simp; done) | (go_simp; rfl)); (case hp => exact (Reps.none _ _)); intro v155 w3 ho4 hb hg_ hnew_; clear hg_ hnew_; (first | rw [← Ny154.out] at ho4 | (simp only [Int.reduceToNat] at ho4; rw [← Ny154.out] at ho4)); have n0_ := Aside0.mk (Kd.R_lower ho4 (below_size (Qaw))); have n1_ := Aside0.mk (below_step (Qaw) hb); clear HB; have HO156 := n0_; have HB := n1_; clear n0_ n1_; clear hb ho4) | ((with_reducible refine gate_builtin (b := .append) (xs := #[.tmp 5, .tmp 6]) rfl ?_); at_builtin; refine Kd.R_append_rows (Kd.int .i64) (w0 := w) w.heap.size rfl (.tmp 5) (.tmp 6) 23 3 (.int .i64 0) 8 rfl Tryd.underlying23 info3 rfl (by decide) (by omega) v155 y154 l0 _ _ _ (fun _ => True) (fun _ => False) rfl rfl ?aO ?aR (fun _ _ h => h) (fun _ h => h.elim) ?aF ?aB ?aS ?aL ?_; (case aR => exact Qsc (Kd.C_below HR0.out HB.out)); (case aB => exact (Qaw)); (case aF => exact (fun _ _ => trivial)); (case aO => exact (Qro HO156.out)); (case aS => exact (below_size (Qaw))); (case aL => have := LMc2.out; omega); intro v158 w5 ho hb hg hat; rw [← Ny157.out] at ho; have n0_ := Aside0.mk (hb); have n1_ := Aside0.mk (ho); clear HB; clear HO156; have HB := n0_; have HO159 := n1_; clear n0_ n1_; clear ho hb hg hat))
  go_ret
  exact ⟨_, by first | rfl | (simp [errW_none, errW_some] <;> rfl) | (simp [*, errW_none, errW_some] <;> rfl), by (with_reducible repeat (first | apply Kd.R_alloc | apply Kd.R_drewN | apply Kd.R_drew)); exact HO159.out, by repeat (first | (with_reducible first | exact HB.out | apply below_alloc | apply pw_below_drewN | apply below_drew1) | exact HB.out)⟩
 ·rw [if_neg c2] at H
  exact absurd H (by simp)
theorem slices_Clone_Graph.calls (A0 : Option Addr) (c0 : Nat) (l0 : List Int) (r : List Int) (w : World) (hr0 : Kd.C (Kd.int .i64) w A0 l0.length l0) (hc0 : l0.length ≤ c0) (h : slices_Clone_Graph.f l0 = some r) :
  Calls Tryd.prog 65 #[.slice A0 l0.length c0] w fun e w' => ∃ v0_ : Value, e = .returned (v0_) ∧ Kd.R (Kd.int .i64) 3 w' w.heap.size (fun _ => True) v0_ r ∧ Below w.heap.size w w' := by
 cases A0 with
 | some a0 => exact slices_Clone_Graph.calls_some a0 c0 l0 r w hr0 hc0 h
 | none =>
  have hl : l0 = [] := by
   rcases Nat.eq_zero_or_pos l0.length with h0 | h0
   ·exact List.length_eq_zero_iff.mp h0
   ·obtain ⟨ad, he, _⟩ := hr0.2.2 h0
    cases he
  subst hl
  obtain rfl : [] = r := by simpa [slices_Clone_Graph.f] using h
  clear h hr0 hc0
  have heq_ := fun (w : World) => Lib.run_eql_slice_nil (P := Tryd.prog) w 23 3 none 0 c0 0 0 Tryd.underlying23
  go_enter Tryd.func65, Tryd.ntmps65
  go_wp2
  go_ret
  exact ⟨_, rfl, Kd.R_nil _ _ _ _ _, Below.refl _ _⟩
end Go.Proofs.YtjloppfdagfpmaaDoor.X
end
section
namespace Go.Proofs.YtjloppfdagfpmaaDoor.X
open Go.RowKit YtjloppfdagfpmaaDoorW.PrintWords YtjloppfdagfpmaaDoorW.PrintLast YtjloppfdagfpmaaDoorW.PrintMore
attribute [local go_sem] max2_int min2_int max_two min_two max_three min_three max_four min_four
/-! ### lampblacklaw07_Few: function 22 -/
def lampblacklaw07_Few.f (l0 : List Int) : Option (List Int) := if 0 ≤ (mn (l0.length : Int) 12) then (if (mn (l0.length : Int) 12) ≤ (l0.length : Int) then ((slices_Clone_Graph.f (l0.take ((mn (l0.length : Int) 12) : Int).toNat)).bind fun t161 => (some t161)) else (none)) else (none)
set_option maxHeartbeats 8000000 in
set_option maxRecDepth 100000 in
theorem lampblacklaw07_Few.calls (A0 : Option Addr) (c0 : Nat) (l0 : List Int) (r : List Int) (w : World) (hr0 : Kd.C (Kd.int .i64) w A0 l0.length l0) (hc0 : l0.length ≤ c0) (h : lampblacklaw07_Few.f l0 = some r) :
  Calls Tryd.prog 22 #[.slice A0 l0.length c0] w fun e w' => ∃ v0_ : Value, e = .returned (v0_) ∧ Kd.R (Kd.int .i64) 3 w' w.heap.size (fun _ => True) v0_ r ∧ Below w.heap.size w w' := by
 have HR0 := Aside0.mk hr0
 have HC0 := Aside0.mk hc0
 clear hr0 hc0
 have HB := Aside0.mk (Below.refl w.heap.size w)
 have H : (if 0 ≤ (mn (l0.length : Int) 12) then (if (mn (l0.length : Int) 12) ≤ (l0.length : Int) then ((slices_Clone_Graph.f (l0.take ((mn (l0.length : Int) 12) : Int).toNat)).bind fun t161 => (some t161)) else (none)) else (none)) = some r := h
 clear h
 obtain ⟨ji2, hji2⟩ : ∃ j_ : Int, (mn (l0.length : Int) 12) = j_ := ⟨_, rfl⟩
 replace H : (if 0 ≤ (ji2) then (if (ji2) ≤ (l0.length : Int) then ((slices_Clone_Graph.f (l0.take ((ji2) : Int).toNat)).bind fun t161 => (some t161)) else (none)) else (none)) = some r := by first | (rw [hji2] at H; exact H) | (simp only [hji2] at H ⊢; exact H)
 (try (have hji2h : ji2 ≤ 12 := by (rw [← hji2]; unfold mn; (repeat' split) <;> omega)))
 (try (have hji2g : ji2 ≤ 64 := by omega))
 (try (have hji2l : 0 ≤ ji2 := by (rw [← hji2]; unfold mn; (repeat' split) <;> omega)))
 (try (have hji2m : 0 ≤ ji2 := by omega))
 have hji2_ : (if 12 < (l0.length : Int) then 12 else (l0.length : Int)) = ji2 := hji2
 by_cases c3 : 0 ≤ (ji2)
 ·rw [if_pos c3] at H
  have c3b0 := eq_true c3
  have c3b1 : decide (0 ≤ (ji2)) = true := decide_eq_true c3
  clear c3
  by_cases c4 : (ji2) ≤ (l0.length : Int)
  ·rw [if_pos c4] at H
   have c4b0 := eq_true c4
   have c4b1 : decide ((ji2) ≤ (l0.length : Int)) = true := decide_eq_true c4
   clear c4
   replace H := Option.bind_eq_some_iff.mp H
   obtain ⟨t161, A50, H⟩ := H
   replace H : (some t161) = some r := H
   have A5 := Aside0.mk A50
   clear A50
   obtain rfl := Option.some.inj H
   obtain ⟨i06, hi06, _, hsz6, _⟩ := info_parts info3
   obtain ⟨hcut6, hA6, hC6⟩ := print_take_of (P := Tryd.prog) (Value.int .i64) 0 23 3 .i64 Tryd.underlying23 hi06 hsz6 A0 c0 l0 (ji2) (of_decide_eq_true (by first | (with_reducible assumption) | assumption)) (of_decide_eq_true (by first | (with_reducible assumption) | assumption)) HC0.out
   have HR160 := Aside0.mk (Kd.C_of_reads (h1 := fun _ => rfl) (hA6 _ (Kd.reads_of_C HR0.out)))
   have HC160 := Aside0.mk hC6
   clear hA6 hC6 hi06 hsz6
   go_enter Tryd.func22, Tryd.ntmps22
   go_wp2_with (first | ((with_reducible refine gate_callee (f := 65) rfl ?_); refine goesL_ (some 8) rfl rfl Tryd.func65 (by kernel_rfl) rfl #[.slice A0 (l0.take ((ji2) : Int).toNat).length c0] rfl (by (try simp only [List.map_toArray, List.map_cons, List.map_nil]); first | done | (rw [show (l0.take ((ji2) : Int).toNat).length = (ji2).toNat from (by rw [List.length_take]; have h_ : ((ji2) : Int) ≤ (l0.length : Int) := of_decide_eq_true (by first | (with_reducible assumption) | assumption); omega)] <;> rfl) | (simp only [hji2]; rfl) | rfl | (simp only [List.length_drop, List.length_take]; rfl)) ?_; (with_reducible refine (slices_Clone_Graph.calls _ _ (l0.take ((ji2) : Int).toNat) t161 _ ?side1 ?side2 A5.out).mono ?_); (case side1 => exact Qsc HR160.out); (case side2 => exact HC160.out); rintro e w7 ⟨v162, rfl, ho0, hb⟩; refine ⟨_, rfl, ?_⟩; have n0_ := Aside0.mk (Kd.R_lower ho0 (below_size (Qaw))); have n1_ := Aside0.mk (below_step (Qaw) hb); clear HB; have HO163 := n0_; have HB := n1_; clear n0_ n1_; (try clear hb); (try clear hb2); (try clear hk); (try clear hi); (try clear ho0)))
   go_ret
   exact ⟨_, by first | rfl | (simp [errW_none, errW_some] <;> rfl) | (simp only [← hji2]; first | rfl | (simp [errW_none, errW_some] <;> rfl)) | (simp [*, errW_none, errW_some] <;> rfl), by (with_reducible repeat (first | apply Kd.R_alloc | apply Kd.R_drewN | apply Kd.R_drew)); exact HO163.out, by repeat (first | (with_reducible first | exact HB.out | apply below_alloc | apply pw_below_drewN | apply below_drew1) | exact HB.out)⟩
  ·rw [if_neg c4] at H
   exact absurd H (by simp)
 ·rw [if_neg c3] at H
  exact absurd H (by simp)
end Go.Proofs.YtjloppfdagfpmaaDoor.X
end
section
namespace Go.Proofs.YtjloppfdagfpmaaDoor.X
open Go.RowKit YtjloppfdagfpmaaDoorW.PrintWords YtjloppfdagfpmaaDoorW.PrintLast YtjloppfdagfpmaaDoorW.PrintMore
attribute [local go_sem] max2_int min2_int max_two min_two max_three min_three max_four min_four
/-! ### lampblacklaw07_has: function 20 -/
def lampblacklaw07_has.f (l0 : List Int) (l1 : List Int) : Option (Bool × Bool) := (lampblacklaw07_Few.f l0).bind fun t164 => ((minor_Model.f t164 l1).bind fun bt167 => (if bt167.2 = 0 then (some ((bt167.2 == 0), true)) else (some ((bt167.2 == 0), (bt167.2 == 4)))))
set_option maxHeartbeats 8000000 in
set_option maxRecDepth 100000 in
theorem lampblacklaw07_has.calls (A0 : Option Addr) (c0 : Nat) (l0 : List Int) (A1 : Option Addr) (c1 : Nat) (l1 : List Int) (r1 : Bool) (r2 : Bool) (w : World) (hGL : GL w) (hr0 : Kd.C (Kd.int .i64) w A0 l0.length l0) (hc0 : l0.length ≤ c0) (hr1 : Kd.C (Kd.int .i64) w A1 l1.length l1) (hc1 : l1.length ≤ c1) (h : lampblacklaw07_has.f l0 l1 = some (r1, r2)) :
  Calls Tryd.prog 20 #[.slice A0 l0.length c0, .slice A1 l1.length c1] w fun e w' => e = .returned (.tuple #[.bool r1, .bool r2]) ∧ Below w.heap.size w w' := by
 have HGL := Aside0.mk hGL
 clear hGL
 have HR0 := Aside0.mk hr0
 have HC0 := Aside0.mk hc0
 clear hr0 hc0
 have HR1 := Aside0.mk hr1
 have HC1 := Aside0.mk hc1
 clear hr1 hc1
 have HB := Aside0.mk (Below.refl w.heap.size w)
 have H : ((lampblacklaw07_Few.f l0).bind fun t164 => ((minor_Model.f t164 l1).bind fun bt167 => (if bt167.2 = 0 then (some ((bt167.2 == 0), true)) else (some ((bt167.2 == 0), (bt167.2 == 4)))))) = some (r1, r2) := h
 clear h
 replace H := Option.bind_eq_some_iff.mp H
 obtain ⟨t164, A30, H⟩ := H
 replace H : ((minor_Model.f t164 l1).bind fun bt167 => (if bt167.2 = 0 then (some ((bt167.2 == 0), true)) else (some ((bt167.2 == 0), (bt167.2 == 4))))) = some (r1, r2) := H
 have A3 := Aside0.mk A30
 clear A30
 replace H := Option.bind_eq_some_iff.mp H
 obtain ⟨⟨t167, t168⟩, A40, H⟩ := H
 replace H : (if t168 = 0 then (some ((t168 == 0), true)) else (some ((t168 == 0), (t168 == 4)))) = some (r1, r2) := H
 have A4 := Aside0.mk A40
 clear A40
 by_cases c5 : t168 = 0
 ·rw [if_pos c5] at H
  have c5b0 : (t168 == 0) = true := beq_iff_eq.mpr c5
  have c5b1 : (t168 != 0) = false := bne_eq_false_iff_eq.mpr c5
  clear c5
  simp only [Option.some.injEq, Prod.mk.injEq] at H
  obtain ⟨rfl, rfl⟩ := H
  go_enter Tryd.func20, Tryd.ntmps20
  go_wp2_with (first | ((with_reducible refine gate_callee (f := 22) rfl ?_); refine goesL_ (some 10) rfl rfl Tryd.func22 (by kernel_rfl) rfl #[.slice A0 l0.length c0] rfl (Qls) ?_; (with_reducible refine (lampblacklaw07_Few.calls _ _ l0 t164 _ ?side1 ?side2 A3.out).mono ?_); (case side1 => exact Qsc HR0.out); (case side2 => exact HC0.out); rintro e w6 ⟨v165, rfl, ho0, hb⟩; refine ⟨_, rfl, ?_⟩; have n0_ := Aside0.mk (Kd.R_lower ho0 (below_size (Qaw))); have n1_ := Aside0.mk (below_step (Qaw) hb); clear HB; have HO166 := n0_; have HB := n1_; clear n0_ n1_; (try clear hb); (try clear hb2); (try clear hk); (try clear hi); (try clear ho0); obtain ⟨Ao7, co7, eo7⟩ := Kd.R_slice HO166.out; subst eo7) | ((with_reducible refine gate_callee (f := 21) rfl ?_); refine goesL_ (some 12) rfl rfl Tryd.func21 (by kernel_rfl) rfl #[.slice Ao7 t164.length co7, .slice A1 l1.length c1] rfl (Qls) ?_; (with_reducible refine (minor_Model.calls (hGL := (Qlg)) _ _ t164 _ _ l1 t167 t168 _ ?side1 ?side2 ?side3 ?side4 A4.out).mono ?_); (case side1 => exact Qsc (Kd.R_reads' HO166.out).2.2); (case side2 => exact (Kd.R_reads' HO166.out).2.1); (case side3 => exact Qsc (Kd.C_below HR1.out HB.out)); (case side4 => exact HC1.out); rintro e w8 ⟨v169, rfl, ho0, hb⟩; refine ⟨_, rfl, ?_⟩; have n0_ := Aside0.mk (Kd.R_elder' (Qro HO166.out) (Kd.R_base ho0) hb); have n1_ := Aside0.mk (Kd.R_lower (Kd.R_new' ho0 (Kd.R_lt (Qro HO166.out))) (below_size (Qaw))); have n2_ := Aside0.mk (below_step (Qaw) hb); clear HO166; clear HB; have HO166 := n0_; have HO170 := n1_; have HB := n2_; clear n0_ n1_ n2_; (try clear hb); (try clear hb2); (try clear hk); (try clear hi); (try clear ho0)))
  go_ret2
  exact ⟨by first | rfl | (simp [errW_none, errW_some] <;> rfl) | (simp [*, errW_none, errW_some] <;> rfl), by repeat (first | (with_reducible first | exact HB.out | apply below_alloc | apply pw_below_drewN | apply below_drew1) | exact HB.out)⟩
 ·rw [if_neg c5] at H
  have c5b0 : (t168 == 0) = false := beq_eq_false_iff_ne.mpr c5
  have c5b1 : (t168 != 0) = true := bne_iff_ne.mpr c5
  simp only [Option.some.injEq, Prod.mk.injEq] at H
  obtain ⟨rfl, rfl⟩ := H
  go_enter Tryd.func20, Tryd.ntmps20
  go_wp2_with (first | ((with_reducible refine gate_callee (f := 22) rfl ?_); refine goesL_ (some 10) rfl rfl Tryd.func22 (by kernel_rfl) rfl #[.slice A0 l0.length c0] rfl (Qls) ?_; (with_reducible refine (lampblacklaw07_Few.calls _ _ l0 t164 _ ?side1 ?side2 A3.out).mono ?_); (case side1 => exact Qsc HR0.out); (case side2 => exact HC0.out); rintro e w9 ⟨v165, rfl, ho0, hb⟩; refine ⟨_, rfl, ?_⟩; have n0_ := Aside0.mk (Kd.R_lower ho0 (below_size (Qaw))); have n1_ := Aside0.mk (below_step (Qaw) hb); clear HB; have HO166 := n0_; have HB := n1_; clear n0_ n1_; (try clear hb); (try clear hb2); (try clear hk); (try clear hi); (try clear ho0); obtain ⟨Ao10, co10, eo10⟩ := Kd.R_slice HO166.out; subst eo10) | ((with_reducible refine gate_callee (f := 21) rfl ?_); refine goesL_ (some 12) rfl rfl Tryd.func21 (by kernel_rfl) rfl #[.slice Ao10 t164.length co10, .slice A1 l1.length c1] rfl (Qls) ?_; (with_reducible refine (minor_Model.calls (hGL := (Qlg)) _ _ t164 _ _ l1 t167 t168 _ ?side1 ?side2 ?side3 ?side4 A4.out).mono ?_); (case side1 => exact Qsc (Kd.R_reads' HO166.out).2.2); (case side2 => exact (Kd.R_reads' HO166.out).2.1); (case side3 => exact Qsc (Kd.C_below HR1.out HB.out)); (case side4 => exact HC1.out); rintro e w11 ⟨v169, rfl, ho0, hb⟩; refine ⟨_, rfl, ?_⟩; have n0_ := Aside0.mk (Kd.R_elder' (Qro HO166.out) (Kd.R_base ho0) hb); have n1_ := Aside0.mk (Kd.R_lower (Kd.R_new' ho0 (Kd.R_lt (Qro HO166.out))) (below_size (Qaw))); have n2_ := Aside0.mk (below_step (Qaw) hb); clear HO166; clear HB; have HO166 := n0_; have HO170 := n1_; have HB := n2_; clear n0_ n1_ n2_; (try clear hb); (try clear hb2); (try clear hk); (try clear hi); (try clear ho0)))
  go_ret2
  exact ⟨by first | rfl | (simp [errW_none, errW_some] <;> rfl) | (simp [*, errW_none, errW_some] <;> rfl), by repeat (first | (with_reducible first | exact HB.out | apply below_alloc | apply pw_below_drewN | apply below_drew1) | exact HB.out)⟩
end Go.Proofs.YtjloppfdagfpmaaDoor.X
end
section
namespace Go.Proofs.YtjloppfdagfpmaaDoor.X
open Go.RowKit YtjloppfdagfpmaaDoorW.PrintWords YtjloppfdagfpmaaDoorW.PrintLast YtjloppfdagfpmaaDoorW.PrintMore
attribute [local go_sem] max2_int min2_int max_two min_two max_three min_three max_four min_four
/-! ### slices_Clone_int_int: function 57 -/
def slices_Clone_int_int.f (l0 : List Int) : Option (List Int) := (some (([] : List Int) : List Int)).bind fun y184 => (if y184.length + l0.length < 17592186044416 then (some (y184 ++ l0)) else (none))
set_option maxHeartbeats 8000000 in
set_option maxRecDepth 100000 in
theorem slices_Clone_int_int.calls_some (a0 : Addr) (c0 : Nat) (l0 : List Int) (r : List Int) (w : World) (hr0 : Kd.C (Kd.int .i64) w (some a0) l0.length l0) (hc0 : l0.length ≤ c0) (h : slices_Clone_int_int.f l0 = some r) :
  Calls Tryd.prog 57 #[.slice (some a0) l0.length c0] w fun e w' => ∃ v0_ : Value, e = .returned (v0_) ∧ Kd.R (Kd.int .i64) 3 w' w.heap.size (fun _ => True) v0_ r ∧ Below w.heap.size w w' := by
 have HR0 := Aside0.mk hr0
 have HC0 := Aside0.mk hc0
 clear hr0 hc0
 have HB := Aside0.mk (Below.refl w.heap.size w)
 have H : ((some (([] : List Int) : List Int)).bind fun y184 => (if y184.length + l0.length < 17592186044416 then (some (y184 ++ l0)) else (none))) = some r := h
 clear h
 obtain ⟨y184, hy184⟩ : ∃ y_ : List Int, y_ = (([] : List Int)) := ⟨_, rfl⟩
 replace H : (if y184.length + l0.length < 17592186044416 then (some (y184 ++ l0)) else (none)) = some r := by first | (rw [hy184]; with_reducible exact H) | (have H2_ := (Option.bind_some _ _).symm.trans H; rw [hy184]; with_reducible exact H2_) | (have H2_ := (Option.bind_some _ _).symm.trans H; with_reducible exact H2_) | with_reducible exact H | (rw [hy184]; exact H) | exact H
 have Ny184 := Aside0.mk hy184
 clear hy184
 by_cases c2 : y184.length + l0.length < 17592186044416
 ·rw [if_pos c2] at H
  have LMc2 := Aside0.mk c2
  clear c2
  obtain ⟨y187, hy187⟩ : ∃ y_ : List Int, y_ = (y184 ++ l0) := ⟨_, rfl⟩
  replace H : (some y187) = some r := by first | (rw [hy187]; with_reducible exact H) | (have H2_ := (Option.bind_some _ _).symm.trans H; rw [hy187]; with_reducible exact H2_) | (have H2_ := (Option.bind_some _ _).symm.trans H; with_reducible exact H2_) | with_reducible exact H | (rw [hy187]; exact H) | exact H
  have Ny187 := Aside0.mk hy187
  clear hy187
  obtain rfl := Option.some.inj H
  have heq_ := fun (w : World) => Lib.run_eql_slice_nil (P := Tryd.prog) w 22 3 (some a0) l0.length c0 0 0 Tryd.underlying22
  go_enter Tryd.func57, Tryd.ntmps57
  go_wp2_with (first | ((with_reducible refine gate_dst (N := 5) rfl ?_); refine Kd.R_lit (Kd.int .i64) _ 3 ?hg (N := 5) ?hd (xs := ([] : List Int)) (inner := []) (ok := fun _ => True) (okp := fun _ => True) ?hr ?hp (fun _ hk => hk) trivial (Below.refl _ _) (Nat.le_refl _) (by simp) ?_; (case hd => rfl); (case hg => rfl); (case hr => first | (go_simp; done) | (go_simp; rfl)); (case hp => exact (Reps.none _ _)); intro v185 w3 ho4 hb hg_ hnew_; clear hg_ hnew_; (first | rw [← Ny184.out] at ho4 | (simp only [Int.reduceToNat] at ho4; rw [← Ny184.out] at ho4)); have n0_ := Aside0.mk (Kd.R_lower ho4 (below_size (Qaw))); have n1_ := Aside0.mk (below_step (Qaw) hb); clear HB; have HO186 := n0_; have HB := n1_; clear n0_ n1_; clear hb ho4) | ((with_reducible refine gate_builtin (b := .append) (xs := #[.tmp 5, .tmp 6]) rfl ?_); at_builtin; refine Kd.R_append_rows (Kd.int .i64) (w0 := w) w.heap.size rfl (.tmp 5) (.tmp 6) 22 3 (.int .i64 0) 8 rfl Tryd.underlying22 info3 rfl (by decide) (by omega) v185 y184 l0 _ _ _ (fun _ => True) (fun _ => False) rfl rfl ?aO ?aR (fun _ _ h => h) (fun _ h => h.elim) ?aF ?aB ?aS ?aL ?_; (case aR => exact Qsc (Kd.C_below HR0.out HB.out)); (case aB => exact (Qaw)); (case aF => exact (fun _ _ => trivial)); (case aO => exact (Qro HO186.out)); (case aS => exact (below_size (Qaw))); (case aL => have := LMc2.out; omega); intro v188 w5 ho hb hg hat; rw [← Ny187.out] at ho; have n0_ := Aside0.mk (hb); have n1_ := Aside0.mk (ho); clear HB; clear HO186; have HB := n0_; have HO189 := n1_; clear n0_ n1_; clear ho hb hg hat))
  go_ret
  exact ⟨_, by first | rfl | (simp [errW_none, errW_some] <;> rfl) | (simp [*, errW_none, errW_some] <;> rfl), by (with_reducible repeat (first | apply Kd.R_alloc | apply Kd.R_drewN | apply Kd.R_drew)); exact HO189.out, by repeat (first | (with_reducible first | exact HB.out | apply below_alloc | apply pw_below_drewN | apply below_drew1) | exact HB.out)⟩
 ·rw [if_neg c2] at H
  exact absurd H (by simp)
theorem slices_Clone_int_int.calls (A0 : Option Addr) (c0 : Nat) (l0 : List Int) (r : List Int) (w : World) (hr0 : Kd.C (Kd.int .i64) w A0 l0.length l0) (hc0 : l0.length ≤ c0) (h : slices_Clone_int_int.f l0 = some r) :
  Calls Tryd.prog 57 #[.slice A0 l0.length c0] w fun e w' => ∃ v0_ : Value, e = .returned (v0_) ∧ Kd.R (Kd.int .i64) 3 w' w.heap.size (fun _ => True) v0_ r ∧ Below w.heap.size w w' := by
 cases A0 with
 | some a0 => exact slices_Clone_int_int.calls_some a0 c0 l0 r w hr0 hc0 h
 | none =>
  have hl : l0 = [] := by
   rcases Nat.eq_zero_or_pos l0.length with h0 | h0
   ·exact List.length_eq_zero_iff.mp h0
   ·obtain ⟨ad, he, _⟩ := hr0.2.2 h0
    cases he
  subst hl
  obtain rfl : [] = r := by simpa [slices_Clone_int_int.f] using h
  clear h hr0 hc0
  have heq_ := fun (w : World) => Lib.run_eql_slice_nil (P := Tryd.prog) w 22 3 none 0 c0 0 0 Tryd.underlying22
  go_enter Tryd.func57, Tryd.ntmps57
  go_wp2
  go_ret
  exact ⟨_, rfl, Kd.R_nil _ _ _ _ _, Below.refl _ _⟩
end Go.Proofs.YtjloppfdagfpmaaDoor.X
end
section
namespace Go.Proofs.YtjloppfdagfpmaaDoor.X
open Go.RowKit YtjloppfdagfpmaaDoorW.PrintWords YtjloppfdagfpmaaDoorW.PrintLast YtjloppfdagfpmaaDoorW.PrintMore
attribute [local go_sem] max2_int min2_int max_two min_two max_three min_three max_four min_four
/-! ### lampblacklaw07_list: function 24 -/
def lampblacklaw07_list.f (l0 : List Int) : Option (List Int) := if 0 ≤ (mn (l0.length : Int) 12) then (if (mn (l0.length : Int) 12) ≤ (l0.length : Int) then ((slices_Clone_int_int.f (l0.take ((mn (l0.length : Int) 12) : Int).toNat)).bind fun t191 => (some t191)) else (none)) else (none)
set_option maxHeartbeats 8000000 in
set_option maxRecDepth 100000 in
theorem lampblacklaw07_list.calls (A0 : Option Addr) (c0 : Nat) (l0 : List Int) (r : List Int) (w : World) (hr0 : Kd.C (Kd.int .i64) w A0 l0.length l0) (hc0 : l0.length ≤ c0) (h : lampblacklaw07_list.f l0 = some r) :
  Calls Tryd.prog 24 #[.slice A0 l0.length c0] w fun e w' => ∃ v0_ : Value, e = .returned (v0_) ∧ Kd.R (Kd.int .i64) 3 w' w.heap.size (fun _ => True) v0_ r ∧ Below w.heap.size w w' := by
 have HR0 := Aside0.mk hr0
 have HC0 := Aside0.mk hc0
 clear hr0 hc0
 have HB := Aside0.mk (Below.refl w.heap.size w)
 have H : (if 0 ≤ (mn (l0.length : Int) 12) then (if (mn (l0.length : Int) 12) ≤ (l0.length : Int) then ((slices_Clone_int_int.f (l0.take ((mn (l0.length : Int) 12) : Int).toNat)).bind fun t191 => (some t191)) else (none)) else (none)) = some r := h
 clear h
 obtain ⟨ji2, hji2⟩ : ∃ j_ : Int, (mn (l0.length : Int) 12) = j_ := ⟨_, rfl⟩
 replace H : (if 0 ≤ (ji2) then (if (ji2) ≤ (l0.length : Int) then ((slices_Clone_int_int.f (l0.take ((ji2) : Int).toNat)).bind fun t191 => (some t191)) else (none)) else (none)) = some r := by first | (rw [hji2] at H; exact H) | (simp only [hji2] at H ⊢; exact H)
 (try (have hji2h : ji2 ≤ 12 := by (rw [← hji2]; unfold mn; (repeat' split) <;> omega)))
 (try (have hji2g : ji2 ≤ 64 := by omega))
 (try (have hji2l : 0 ≤ ji2 := by (rw [← hji2]; unfold mn; (repeat' split) <;> omega)))
 (try (have hji2m : 0 ≤ ji2 := by omega))
 have hji2_ : (if 12 < (l0.length : Int) then 12 else (l0.length : Int)) = ji2 := hji2
 by_cases c3 : 0 ≤ (ji2)
 ·rw [if_pos c3] at H
  have c3b0 := eq_true c3
  have c3b1 : decide (0 ≤ (ji2)) = true := decide_eq_true c3
  clear c3
  by_cases c4 : (ji2) ≤ (l0.length : Int)
  ·rw [if_pos c4] at H
   have c4b0 := eq_true c4
   have c4b1 : decide ((ji2) ≤ (l0.length : Int)) = true := decide_eq_true c4
   clear c4
   replace H := Option.bind_eq_some_iff.mp H
   obtain ⟨t191, A50, H⟩ := H
   replace H : (some t191) = some r := H
   have A5 := Aside0.mk A50
   clear A50
   obtain rfl := Option.some.inj H
   obtain ⟨i06, hi06, _, hsz6, _⟩ := info_parts info3
   obtain ⟨hcut6, hA6, hC6⟩ := print_take_of (P := Tryd.prog) (Value.int .i64) 0 22 3 .i64 Tryd.underlying22 hi06 hsz6 A0 c0 l0 (ji2) (of_decide_eq_true (by first | (with_reducible assumption) | assumption)) (of_decide_eq_true (by first | (with_reducible assumption) | assumption)) HC0.out
   have HR190 := Aside0.mk (Kd.C_of_reads (h1 := fun _ => rfl) (hA6 _ (Kd.reads_of_C HR0.out)))
   have HC190 := Aside0.mk hC6
   clear hA6 hC6 hi06 hsz6
   go_enter Tryd.func24, Tryd.ntmps24
   go_wp2_with (first | ((with_reducible refine gate_callee (f := 57) rfl ?_); refine goesL_ (some 8) rfl rfl Tryd.func57 (by kernel_rfl) rfl #[.slice A0 (l0.take ((ji2) : Int).toNat).length c0] rfl (by (try simp only [List.map_toArray, List.map_cons, List.map_nil]); first | done | (rw [show (l0.take ((ji2) : Int).toNat).length = (ji2).toNat from (by rw [List.length_take]; have h_ : ((ji2) : Int) ≤ (l0.length : Int) := of_decide_eq_true (by first | (with_reducible assumption) | assumption); omega)] <;> rfl) | (simp only [hji2]; rfl) | rfl | (simp only [List.length_drop, List.length_take]; rfl)) ?_; (with_reducible refine (slices_Clone_int_int.calls _ _ (l0.take ((ji2) : Int).toNat) t191 _ ?side1 ?side2 A5.out).mono ?_); (case side1 => exact Qsc HR190.out); (case side2 => exact HC190.out); rintro e w7 ⟨v192, rfl, ho0, hb⟩; refine ⟨_, rfl, ?_⟩; have n0_ := Aside0.mk (Kd.R_lower ho0 (below_size (Qaw))); have n1_ := Aside0.mk (below_step (Qaw) hb); clear HB; have HO193 := n0_; have HB := n1_; clear n0_ n1_; (try clear hb); (try clear hb2); (try clear hk); (try clear hi); (try clear ho0)))
   go_ret
   exact ⟨_, by first | rfl | (simp [errW_none, errW_some] <;> rfl) | (simp only [← hji2]; first | rfl | (simp [errW_none, errW_some] <;> rfl)) | (simp [*, errW_none, errW_some] <;> rfl), by (with_reducible repeat (first | apply Kd.R_alloc | apply Kd.R_drewN | apply Kd.R_drew)); exact HO193.out, by repeat (first | (with_reducible first | exact HB.out | apply below_alloc | apply pw_below_drewN | apply below_drew1) | exact HB.out)⟩
  ·rw [if_neg c4] at H
   exact absurd H (by simp)
 ·rw [if_neg c3] at H
  exact absurd H (by simp)
end Go.Proofs.YtjloppfdagfpmaaDoor.X
end
section
namespace Go.Proofs.YtjloppfdagfpmaaDoor.X
open Go.RowKit YtjloppfdagfpmaaDoorW.PrintWords YtjloppfdagfpmaaDoorW.PrintLast YtjloppfdagfpmaaDoorW.PrintMore
attribute [local go_sem] max2_int min2_int max_two min_two max_three min_three max_four min_four
/-! ### lampblackref02_Size: function 39 -/
def lampblackref02_Size.l0 : Nat → Int → Int → Option (Int)
 | 0, _, _ => none
 | k + 1, x0, x3 => if x0 > 0 then (lampblackref02_Size.l0 k (Go.bits .and .i64 x0 (wrap64 (x0 - 1))) (wrap64 (x3 + 1))) else (some x3)
def lampblackref02_Size.f (k : Nat) (a0 : Int) : Option (Int) := lampblackref02_Size.l0 k a0 0
theorem lampblackref02_Size.mono_l : ∀ k, (∀ y0 y1, LeO (lampblackref02_Size.l0 k y0 y1) (lampblackref02_Size.l0 (k + 1) y0 y1))
 | 0 => fun _ _ r h => by simp [lampblackref02_Size.l0] at h
 | k + 1 => by
  have ih0 := lampblackref02_Size.mono_l k
  ·intro y0 y1
   unfold lampblackref02_Size.l0
   repeat' first
   | (with_reducible exact ih0 _ _)
   | (with_reducible exact LeO.refl _)
   | (with_reducible exact LeO.none _)
   | (with_reducible refine LeO.ite ?_ ?_)
   | (with_reducible refine LeO.bind ?_ (fun _ => ?_))
   | exact ih0 _ _
   | exact LeO.none _
   | refine LeO.ite ?_ ?_
   | refine LeO.bind ?_ (fun _ => ?_)
theorem lampblackref02_Size.mono : ∀ a0 k, LeO (lampblackref02_Size.f k a0) (lampblackref02_Size.f (k + 1) a0) := by
 intro a0 k
 have ih0 := lampblackref02_Size.mono_l k
 unfold lampblackref02_Size.f
 repeat' first
   | (with_reducible exact ih0 _ _)
   | (with_reducible exact LeO.refl _)
   | (with_reducible exact LeO.none _)
   | (with_reducible refine LeO.ite ?_ ?_)
   | (with_reducible refine LeO.bind ?_ (fun _ => ?_))
   | exact ih0 _ _
   | exact LeO.none _
   | refine LeO.ite ?_ ?_
   | refine LeO.bind ?_ (fun _ => ?_)
set_option maxHeartbeats 8000000 in
set_option maxRecDepth 100000 in
theorem lampblackref02_Size.calls (k : Nat) (a0 : Int) (r : Int) (w : World) (h : lampblackref02_Size.f k a0 = some r) :
  Calls Tryd.prog 39 #[.int .i64 a0] w fun e w' => e = .returned (.int .i64 r) ∧ Drawn0 w w' := by
 have H : (lampblackref02_Size.l0 k a0 0) = some r := h
 clear h
 have H' := Aside0.mk H
 clear H
 go_enter Tryd.func39, Tryd.ntmps39
 go_wp2
 go_loopg [0, 3] k (fun kq v0 v3 w' => ∃ (x0_1 : Int) (x3_1 : Int), v0 = .int .i64 x0_1 ∧ v3 = .int .i64 x3_1 ∧ Aside0 (lampblackref02_Size.l0 kq x0_1 x3_1 = some r) ∧ Aside0 (kq ≤ k) ∧ Drawn0 w w')
 case atStart => exact ⟨(a0), (0), (by first | rfl | (simp; done) | (simp [*]; done)), (by first | rfl | (simp; done) | (simp [*]; done)), H', ⟨Nat.le_refl _⟩, by repeat (first | exact Drawn0.refl _ | apply Drawn0.step)⟩
 case round =>
  clear H'
  obtain ⟨x0_1, x3_1, rfl, rfl, HA, HK1, ⟨m1, rfl⟩⟩ := hrel
  cases gk with
  | zero => exact absurd HA.out (by simp [lampblackref02_Size.l0])
  | succ k1 =>
   have H := HA.out
   clear HA
   simp only [lampblackref02_Size.l0] at H
   by_cases c2 : x0_1 > 0
   ·rw [if_pos c2] at H
    have c2b0 : decide (0 < x0_1) = true := decide_eq_true c2
    clear c2
    have H' := Aside0.mk H
    clear H
    go_wp2
    go_roundg k1
    case measure => have := HK1.out; omega
    case rel => exact ⟨(Go.bits .and .i64 x0_1 (wrap64 (x0_1 - 1))), (wrap64 (x3_1 + 1)), (by first | rfl | (simp; done) | (simp [*]; done)), (by first | rfl | (simp; done) | (simp [*]; done)), H', ⟨by have := HK1.out; omega⟩, by repeat (first | exact Drawn0.refl _ | apply Drawn0.step)⟩
   ·rw [if_neg c2] at H
    have c2b0 : decide (0 < x0_1) = false := decide_eq_false c2
    clear c2
    obtain rfl := Option.some.inj H
    go_wp2
    go_ret
    exact ⟨by first | rfl | (simp; done) | (simp [*]; done), by repeat (first | exact Drawn0.refl _ | apply Drawn0.step)⟩
end Go.Proofs.YtjloppfdagfpmaaDoor.X
end
section
namespace Go.Proofs.YtjloppfdagfpmaaDoor.X
open Go.RowKit YtjloppfdagfpmaaDoorW.PrintWords YtjloppfdagfpmaaDoorW.PrintLast YtjloppfdagfpmaaDoorW.PrintMore
attribute [local go_sem] max2_int min2_int max_two min_two max_three min_three max_four min_four
/-! ### minor_town_int: function 77 -/
def minor_town_int.f (l0 : List Int) : Option (List Int) := (some (([] : List Int) : List Int)).bind fun y295 => (if y295.length + l0.length < 17592186044416 then (some (y295 ++ l0)) else (none))
set_option maxHeartbeats 8000000 in
set_option maxRecDepth 100000 in
theorem minor_town_int.calls_some (a0 : Addr) (c0 : Nat) (l0 : List Int) (r : List Int) (w : World) (hr0 : Kd.C (Kd.int .i64) w (some a0) l0.length l0) (hc0 : l0.length ≤ c0) (h : minor_town_int.f l0 = some r) :
  Calls Tryd.prog 77 #[.slice (some a0) l0.length c0] w fun e w' => ∃ v0_ : Value, e = .returned (v0_) ∧ Kd.R (Kd.int .i64) 3 w' w.heap.size (fun _ => True) v0_ r ∧ Below w.heap.size w w' := by
 have HR0 := Aside0.mk hr0
 have HC0 := Aside0.mk hc0
 clear hr0 hc0
 have HB := Aside0.mk (Below.refl w.heap.size w)
 have H : ((some (([] : List Int) : List Int)).bind fun y295 => (if y295.length + l0.length < 17592186044416 then (some (y295 ++ l0)) else (none))) = some r := h
 clear h
 obtain ⟨y295, hy295⟩ : ∃ y_ : List Int, y_ = (([] : List Int)) := ⟨_, rfl⟩
 replace H : (if y295.length + l0.length < 17592186044416 then (some (y295 ++ l0)) else (none)) = some r := by first | (rw [hy295]; with_reducible exact H) | (have H2_ := (Option.bind_some _ _).symm.trans H; rw [hy295]; with_reducible exact H2_) | (have H2_ := (Option.bind_some _ _).symm.trans H; with_reducible exact H2_) | with_reducible exact H | (rw [hy295]; exact H) | exact H
 have Ny295 := Aside0.mk hy295
 clear hy295
 by_cases c2 : y295.length + l0.length < 17592186044416
 ·rw [if_pos c2] at H
  have LMc2 := Aside0.mk c2
  clear c2
  obtain ⟨y298, hy298⟩ : ∃ y_ : List Int, y_ = (y295 ++ l0) := ⟨_, rfl⟩
  replace H : (some y298) = some r := by first | (rw [hy298]; with_reducible exact H) | (have H2_ := (Option.bind_some _ _).symm.trans H; rw [hy298]; with_reducible exact H2_) | (have H2_ := (Option.bind_some _ _).symm.trans H; with_reducible exact H2_) | with_reducible exact H | (rw [hy298]; exact H) | exact H
  have Ny298 := Aside0.mk hy298
  clear hy298
  obtain rfl := Option.some.inj H
  have heq_ := fun (w : World) => Lib.run_eql_slice_nil (P := Tryd.prog) w 79 3 (some a0) l0.length c0 0 0 Tryd.underlying79
  go_enter Tryd.func77, Tryd.ntmps77
  go_wp2_with (first | ((with_reducible refine gate_dst (N := 5) rfl ?_); refine Kd.R_lit (Kd.int .i64) _ 3 ?hg (N := 5) ?hd (xs := ([] : List Int)) (inner := []) (ok := fun _ => True) (okp := fun _ => True) ?hr ?hp (fun _ hk => hk) trivial (Below.refl _ _) (Nat.le_refl _) (by simp) ?_; (case hd => rfl); (case hg => rfl); (case hr => first | (go_simp; done) | (go_simp; rfl)); (case hp => exact (Reps.none _ _)); intro v296 w3 ho4 hb hg_ hnew_; clear hg_ hnew_; (first | rw [← Ny295.out] at ho4 | (simp only [Int.reduceToNat] at ho4; rw [← Ny295.out] at ho4)); have n0_ := Aside0.mk (Kd.R_lower ho4 (below_size (Qaw))); have n1_ := Aside0.mk (below_step (Qaw) hb); clear HB; have HO297 := n0_; have HB := n1_; clear n0_ n1_; clear hb ho4) | ((with_reducible refine gate_builtin (b := .append) (xs := #[.tmp 5, .tmp 6]) rfl ?_); at_builtin; refine Kd.R_append_rows (Kd.int .i64) (w0 := w) w.heap.size rfl (.tmp 5) (.tmp 6) 79 3 (.int .i64 0) 8 rfl Tryd.underlying79 info3 rfl (by decide) (by omega) v296 y295 l0 _ _ _ (fun _ => True) (fun _ => False) rfl rfl ?aO ?aR (fun _ _ h => h) (fun _ h => h.elim) ?aF ?aB ?aS ?aL ?_; (case aR => exact Qsc (Kd.C_below HR0.out HB.out)); (case aB => exact (Qaw)); (case aF => exact (fun _ _ => trivial)); (case aO => exact (Qro HO297.out)); (case aS => exact (below_size (Qaw))); (case aL => have := LMc2.out; omega); intro v299 w5 ho hb hg hat; rw [← Ny298.out] at ho; have n0_ := Aside0.mk (hb); have n1_ := Aside0.mk (ho); clear HB; clear HO297; have HB := n0_; have HO300 := n1_; clear n0_ n1_; clear ho hb hg hat))
  go_ret
  exact ⟨_, by first | rfl | (simp [errW_none, errW_some] <;> rfl) | (simp [*, errW_none, errW_some] <;> rfl), by (with_reducible repeat (first | apply Kd.R_alloc | apply Kd.R_drewN | apply Kd.R_drew)); exact HO300.out, by repeat (first | (with_reducible first | exact HB.out | apply below_alloc | apply pw_below_drewN | apply below_drew1) | exact HB.out)⟩
 ·rw [if_neg c2] at H
  exact absurd H (by simp)
theorem minor_town_int.calls (A0 : Option Addr) (c0 : Nat) (l0 : List Int) (r : List Int) (w : World) (hr0 : Kd.C (Kd.int .i64) w A0 l0.length l0) (hc0 : l0.length ≤ c0) (h : minor_town_int.f l0 = some r) :
  Calls Tryd.prog 77 #[.slice A0 l0.length c0] w fun e w' => ∃ v0_ : Value, e = .returned (v0_) ∧ Kd.R (Kd.int .i64) 3 w' w.heap.size (fun _ => True) v0_ r ∧ Below w.heap.size w w' := by
 cases A0 with
 | some a0 => exact minor_town_int.calls_some a0 c0 l0 r w hr0 hc0 h
 | none =>
  have hl : l0 = [] := by
   rcases Nat.eq_zero_or_pos l0.length with h0 | h0
   ·exact List.length_eq_zero_iff.mp h0
   ·obtain ⟨ad, he, _⟩ := hr0.2.2 h0
    cases he
  subst hl
  obtain rfl : [] = r := by simpa [minor_town_int.f] using h
  clear h hr0 hc0
  have heq_ := fun (w : World) => Lib.run_eql_slice_nil (P := Tryd.prog) w 79 3 none 0 c0 0 0 Tryd.underlying79
  go_enter Tryd.func77, Tryd.ntmps77
  go_wp2
  go_ret
  exact ⟨_, rfl, Kd.R_nil _ _ _ _ _, Below.refl _ _⟩
end Go.Proofs.YtjloppfdagfpmaaDoor.X
end
section
namespace Go.Proofs.YtjloppfdagfpmaaDoor.X
open Go.RowKit YtjloppfdagfpmaaDoorW.PrintWords YtjloppfdagfpmaaDoorW.PrintLast YtjloppfdagfpmaaDoorW.PrintMore
attribute [local go_sem] max2_int min2_int max_two min_two max_three min_three max_four min_four
/-! ### minor_town_join: function 62 -/
def minor_town_join.f (l0 : List Int) (a1 : Int) (a2 : Int) : Option (List Int) := if 0 ≤ a1 then (if a1 < (l0.length : Int) then (if 0 ≤ a2 then ((some (l0.set (a1 : Int).toNat (Go.bits .or .i64 (rd l0 a1) (shl .i64 1 a2)) : List Int)).bind fun y146 => (if a2 < (l0.length : Int) then (some (y146.set (a2 : Int).toNat (Go.bits .or .i64 (rd y146 a2) (shl .i64 1 a1)))) else (none))) else (none)) else (none)) else (none)
def minor_town_join.T0 : Bool × List (List Nat × List Nat) := (true, [([], []), ([], []), ([0, 1], [0, 1]), ([2], [2]), ([], []), ([4], [4]), ([3, 5], [3, 5]), ([0, 1, 0, 1, 2, 3, 4, 5, 6], [0, 1]), ([7, 6, 0, 1, 2, 3, 4, 5, 6], [6, 7])])
def minor_town_join.B0 : List Nat := [0, 0, 3, 7, 0, 16, 63, 127, 255]
theorem minor_town_join.tab0 : rtab .any (opsOf Tryd.f62 0) = minor_town_join.T0 := by kernel_rfl
theorem minor_town_join.bits0 : waitsOk minor_town_join.T0.2 minor_town_join.B0 = true := by kernel_rfl
def minor_town_join.T1 : Bool × List (List Nat × List Nat) := (true, [([], []), ([], []), ([0, 1], [0, 1]), ([2], [2]), ([], []), ([4], [4]), ([3, 5], [3, 5]), ([0, 1, 0, 1, 2, 3, 4, 5, 6], [0, 1]), ([7, 6, 0, 1, 2, 3, 4, 5, 6], [6, 7])])
def minor_town_join.B1 : List Nat := [0, 0, 3, 7, 0, 16, 63, 127, 255]
theorem minor_town_join.tab1 : rtab .any (opsOf Tryd.f62 1) = minor_town_join.T1 := by kernel_rfl
theorem minor_town_join.bits1 : waitsOk minor_town_join.T1.2 minor_town_join.B1 = true := by kernel_rfl
set_option maxHeartbeats 8000000 in
set_option maxRecDepth 100000 in
theorem minor_town_join.calls (P0_ : Nat → Prop) (u9000_ : Value) (l0 : List Int) (a1 : Int) (a2 : Int) (r : List Int) (w0 w : World) (hB : Below w0.heap.size w0 w) (ho0 : Kd.R (Kd.int .i64) 3 w w0.heap.size P0_ u9000_ l0) (h : minor_town_join.f l0 a1 a2 = some r) :
  Calls Tryd.prog 62 #[u9000_, .int .i64 a1, .int .i64 a2] w fun e w' => e = .returned (.tuple #[]) ∧ Kd.R (Kd.int .i64) 3 w' w0.heap.size (fun k_ => (P0_ k_ ∨ w.heap.size ≤ k_)) u9000_ r ∧ Below w0.heap.size w0 w' ∧ Kept w w' (fun k_ => P0_ k_) := by
 have HO0 := Aside0.mk (show Kd.R (Kd.int .i64) 3 w w0.heap.size (fun k_ => (P0_ k_ ∨ w.heap.size ≤ k_)) u9000_ l0 from Kd.R_mono ho0 (fun k_ hk => (.inl hk)))
 have HK := Aside0.mk (Kept.refl w (fun k_ => P0_ k_))
 have HW0 := Aside0.mk hB.size
 have HB := Aside0.mk hB
 clear hB
 have H : (if 0 ≤ a1 then (if a1 < (l0.length : Int) then (if 0 ≤ a2 then ((some (l0.set (a1 : Int).toNat (Go.bits .or .i64 (rd l0 a1) (shl .i64 1 a2)) : List Int)).bind fun y146 => (if a2 < (l0.length : Int) then (some (y146.set (a2 : Int).toNat (Go.bits .or .i64 (rd y146 a2) (shl .i64 1 a1)))) else (none))) else (none)) else (none)) else (none)) = some r := h
 clear h
 by_cases c4 : 0 ≤ a1
 ·rw [if_pos c4] at H
  have c4b0 : decide (0 ≤ a1) = true := decide_eq_true c4
  clear c4
  by_cases c5 : a1 < (l0.length : Int)
  ·rw [if_pos c5] at H
   have c5b0 : decide (a1 < (l0.length : Int)) = true := decide_eq_true c5
   clear c5
   by_cases c6 : 0 ≤ a2
   ·rw [if_pos c6] at H
    have c6b0 := eq_true c6
    have c6b1 : decide (0 ≤ a2) = true := decide_eq_true c6
    clear c6
    obtain ⟨ji7, hji7⟩ : ∃ j_ : Int, (shl .i64 1 a2) = j_ := ⟨_, rfl⟩
    replace H : ((some (l0.set (a1 : Int).toNat (Go.bits .or .i64 (rd l0 a1) (ji7)) : List Int)).bind fun y146 => (if a2 < (l0.length : Int) then (some (y146.set (a2 : Int).toNat (Go.bits .or .i64 (rd y146 a2) (shl .i64 1 a1)))) else (none))) = some r := by first | (rw [hji7] at H; exact H) | (simp only [hji7] at H ⊢; exact H)
    have hji7_ : (IntKind.i64.wrap (1 * 2 ^ min a2.toNat 64)) = ji7 := hji7
    have hji7z : a2 ≤ 64 → (IntKind.i64.wrap (1 * 2 ^ a2.toNat)) = ji7 := shl_small hji7
    have hji7u : (IntKind.i64.wrap (2 ^ min a2.toNat 64)) = ji7 := by have h_ := hji7_; rw [Int.one_mul] at h_; exact h_
    have hji7v : a2 ≤ 64 → (IntKind.i64.wrap (2 ^ a2.toNat)) = ji7 := fun hle_ => by have h_ := hji7z hle_; rw [Int.one_mul] at h_; exact h_
    have hji7y : (wrap64 (1 * 2 ^ min a2.toNat 64)) = ji7 := (i64_w _).symm.trans hji7_
    have hji7x : a2 ≤ 64 → (wrap64 (1 * 2 ^ a2.toNat)) = ji7 := fun h_ => (i64_w _).symm.trans (hji7z h_)
    obtain ⟨y146, hy146⟩ : ∃ y_ : List Int, y_ = (l0.set (a1 : Int).toNat (Go.bits .or .i64 (rd l0 a1) (ji7))) := ⟨_, rfl⟩
    replace H : (if a2 < (l0.length : Int) then (some (y146.set (a2 : Int).toNat (Go.bits .or .i64 (rd y146 a2) (shl .i64 1 a1)))) else (none)) = some r := by first | (rw [hy146]; with_reducible exact H) | (have H2_ := (Option.bind_some _ _).symm.trans H; rw [hy146]; with_reducible exact H2_) | (have H2_ := (Option.bind_some _ _).symm.trans H; with_reducible exact H2_) | with_reducible exact H | (rw [hy146]; exact H) | exact H
    have Ny146 := Aside0.mk hy146
    clear hy146
    by_cases c9 : a2 < (l0.length : Int)
    ·rw [if_pos c9] at H
     have c9b0 : decide (a2 < (l0.length : Int)) = true := decide_eq_true c9
     clear c9
     have c10b0 := eq_true (of_decide_eq_true (by first | (with_reducible assumption) | assumption) : 0 ≤ a1)
     obtain ⟨ji11, hji11⟩ : ∃ j_ : Int, (shl .i64 1 a1) = j_ := ⟨_, rfl⟩
     replace H : (some (y146.set (a2 : Int).toNat (Go.bits .or .i64 (rd y146 a2) (ji11)))) = some r := by first | (rw [hji11] at H; exact H) | (simp only [hji11] at H ⊢; exact H)
     have hji11_ : (IntKind.i64.wrap (1 * 2 ^ min a1.toNat 64)) = ji11 := hji11
     have hji11z : a1 ≤ 64 → (IntKind.i64.wrap (1 * 2 ^ a1.toNat)) = ji11 := shl_small hji11
     have hji11u : (IntKind.i64.wrap (2 ^ min a1.toNat 64)) = ji11 := by have h_ := hji11_; rw [Int.one_mul] at h_; exact h_
     have hji11v : a1 ≤ 64 → (IntKind.i64.wrap (2 ^ a1.toNat)) = ji11 := fun hle_ => by have h_ := hji11z hle_; rw [Int.one_mul] at h_; exact h_
     have hji11y : (wrap64 (1 * 2 ^ min a1.toNat 64)) = ji11 := (i64_w _).symm.trans hji11_
     have hji11x : a1 ≤ 64 → (wrap64 (1 * 2 ^ a1.toNat)) = ji11 := fun h_ => (i64_w _).symm.trans (hji11z h_)
     obtain ⟨y148, hy148⟩ : ∃ y_ : List Int, y_ = (y146.set (a2 : Int).toNat (Go.bits .or .i64 (rd y146 a2) (ji11))) := ⟨_, rfl⟩
     replace H : (some y148) = some r := by first | (rw [hy148]; with_reducible exact H) | (have H2_ := (Option.bind_some _ _).symm.trans H; rw [hy148]; with_reducible exact H2_) | (have H2_ := (Option.bind_some _ _).symm.trans H; with_reducible exact H2_) | with_reducible exact H | (rw [hy148]; exact H) | exact H
     have Ny148 := Aside0.mk hy148
     clear hy148
     obtain rfl := Option.some.inj H
     go_enter Tryd.func62, Tryd.ntmps62
     try go_wp2
     have n0_ := Aside0.mk (Kd.R_drew HO0.out)
     have n1_ := Aside0.mk (Kept.drew HK.out)
     have n2_ := Aside0.mk (below_drew1 HB.out)
     clear HO0
     clear HK
     clear HB
     have HO0 := n0_
     have HK := n1_
     have HB := n2_
     clear n0_ n1_ n2_
     obtain ⟨Ao14, co14, eo14⟩ := Kd.R_slice HO0.out
     (first | subst eo14 | (injection eo14 with f1_ f2_ f3_; have f4_ := f1_.symm; have f5_ := f3_.symm; clear f1_ f2_ f3_; subst f4_; subst f5_))
     have p145 : 0 ≤ (a1 : Int) := of_decide_eq_true (by first | (with_reducible assumption) | assumption)
     have q145 : a1 < (l0.length : Int) := of_decide_eq_true (by first | (with_reducible assumption) | assumption)
     obtain ⟨ad145, e145, hx145_0⟩ := Kd.at_int (Kd.R_reads' HO0.out).2.2 a1 p145 q145
     cases e145
     replace p145 := eq_true p145
     replace q145 := eq_true q145
     have p8 : 0 ≤ (a1 : Int) := of_decide_eq_true (by first | (with_reducible assumption) | assumption)
     have q8 : (a1 : Int) < ((l0.length : Int) : Int) := of_decide_eq_true (by first | (with_reducible assumption) | assumption)
     obtain ⟨go8, co8, eo8, gb8, gl8, cl8, HG8⟩ := Kd.R_form HO0.out (by omega)
     (first | cases eo8 | (injection eo8 with ea_ en_ ec_; (first | subst ea_ | (injection ea_ with ea_; subst ea_)); subst ec_; clear en_))
     have GB8 := Aside0.mk gb8
     have GG8 := Aside0.mk HG8
     clear gb8 gl8 HG8
     have HMgo8 := Aside0.mk (show (P0_ go8 ∨ w.heap.size ≤ go8) from (HO0.out.1 _ rfl))
     (first | simp only [add_plain] at hx145_0 | skip)
     obtain ⟨hx8_0, hf8_0⟩ := Kd.R_celln 0 HO0.out (a1 : Int) p8 q8
     replace p8 := eq_true p8
     replace q8 := eq_true q8
     have HP15 := Kd.R_putn HO0.out (a1 : Int) (Go.bits .or .i64 (rd l0 a1) (ji7))
     rw [← Ny146.out] at HP15
     have HQ15 := Aside0.mk HP15
     clear HP15
     refine start_ (n := 9) (S := fun w' => w'.cell? ⟨go8, (a1).toNat, none⟩ = some (.int .i64 (rd l0 a1))) (ds := [8]) (Qbz 9 0) (by kernel_rfl) rfl rfl (hx145_0) (fun hHeld => ?_); refine with_tabW minor_town_join.tab0 minor_town_join.bits0 (fun HT_ HW_ => ?_)
     generalize w.drew = w13 at HO0 HK HB GG8 HQ15 hf8_0 hx145_0 hx8_0 hHeld ⊢
     refine pure_ (i := 0) (N := some 6) (v := ?_) (a' := ?_) (Qbz 9 1) rfl rfl (any_of HT_.out (by kernel_rfl)) (fun _ _ _ h => h) (Or.inl ⟨by rfl, ?_⟩) ?_ ?_
     rotate_left
     ·intro w'
      go_simp
      with_reducible rfl
     rotate_left
     ·simp only [Act.put, Qp1, Qp2, Qp3, i64_w, i32_w]
      rfl
     refine pure_ (i := 1) (N := some 7) (v := ?_) (a' := ?_) (Qbz 9 3) rfl rfl (any_of HT_.out (by kernel_rfl)) (fun _ _ _ h => h) (Or.inl ⟨by rfl, ?_⟩) ?_ ?_
     rotate_left
     ·intro w'
      go_simp
      with_reducible rfl
     rotate_left
     ·simp only [Act.put, Qp1, Qp2, Qp3, i64_w, i32_w]
      rfl
     refine pure_ (i := 2) (N := some 8) (v := ?_) (a' := ?_) (Qbz 9 7) rfl rfl (any_of HT_.out (by kernel_rfl)) (fun _ _ _ h => h) (Or.inl ⟨by rfl, ?_⟩) ?_ ?_
     rotate_left
     ·intro w'
      go_simp
      with_reducible rfl
     rotate_left
     ·simp only [Act.put, Qp1, Qp2, Qp3, i64_w, i32_w]
      rfl
     refine pure_ (i := 4) (N := some 10) (v := ?_) (a' := ?_) (Qbz 9 23) rfl rfl (any_of HT_.out (by kernel_rfl)) (fun _ _ _ h => h) (Or.inl ⟨by rfl, ?_⟩) ?_ ?_
     rotate_left
     ·intro w'
      go_simp
      with_reducible rfl
     rotate_left
     ·simp only [Act.put, Qp1, Qp2, Qp3, i64_w, i32_w]
      rfl
     refine pure_ (i := 5) (N := some 11) (v := ?_) (a' := ?_) (Qbz 9 55) rfl rfl (any_of HT_.out (by kernel_rfl)) (fun _ _ _ h => h) (Or.inl ⟨by rfl, ?_⟩) ?_ ?_
     rotate_left
     ·intro w'
      go_simp
      with_reducible rfl
     rotate_left
     ·simp only [Act.put, Qp1, Qp2, Qp3, i64_w, i32_w]
      rfl
     refine take_ (i := 3) (N := some 9) (v := ?_) (a' := ?_) (Qbz 9 63) rfl rfl (take_ofW HT_.out HW_.out (by kernel_rfl)) (fun _ _ _ h => h) (Or.inl ⟨by rfl, ?_⟩) hHeld ?_ ?_
     rotate_left
     ·intro w' s0
      go_simp
      with_reducible rfl
     rotate_left
     ·simp only [Act.put, Qp1, Qp2, Qp3, i64_w, i32_w]
      rfl
     refine pure_ (i := 6) (N := some 12) (v := ?_) (a' := ?_) (Qbz 9 127) rfl rfl (any_of HT_.out (by kernel_rfl)) (fun _ _ _ h => h) (Or.inl ⟨by rfl, ?_⟩) ?_ ?_
     rotate_left
     ·intro w'
      go_simp
      with_reducible rfl
     rotate_left
     ·simp only [Act.put, Qp1, Qp2, Qp3, i64_w, i32_w]
      rfl
     refine pure_ (i := 7) (N := some 13) (v := ?_) (a' := ?_) (Qbz 9 255) rfl rfl (any_of HT_.out (by kernel_rfl)) (fun _ _ _ h => h) (Or.inl ⟨by rfl, ?_⟩) ?_ ?_
     rotate_left
     ·intro w'
      go_simp
      with_reducible rfl
     rotate_left
     ·simp only [Act.put, Qp1, Qp2, Qp3, i64_w, i32_w]
      rfl
     refine last_ (i := 8) (N := none) (Qbz 9 511) rfl rfl (one_of HT_.out (by kernel_rfl)) (by decide) (fun K hK => ?_)
     refine skip_ (w1 := ?_) (by rfl) rfl ?_ ?_
     rotate_left
     ·go_simp
      rfl
     refine hK.out _ _ ?_
     clear hK K
     refine done_ (done_of HT_.out (by kernel_rfl)) ?_
     try go_wp2
     have n0_ : Aside0 (Kd.R (Kd.int .i64) 3 (w13.setCell ⟨go8, (a1 : Int).toNat, none⟩ (.int .i64 (Go.bits .or .i64 (rd l0 a1) (ji7)))) w0.heap.size (fun k_ => (P0_ k_ ∨ w.heap.size ≤ k_)) (.slice (some ⟨go8, 0, none⟩) l0.length co14) y146) := ⟨by (with_reducible repeat (first | apply Kd.R_alloc | apply Kd.R_drewN | apply Kd.R_drew)); exact HQ15.out⟩
     have n1_ : Aside0 (Kept w (w13.setCell ⟨go8, (a1 : Int).toNat, none⟩ (.int .i64 (Go.bits .or .i64 (rd l0 a1) (ji7)))) (fun k_ => P0_ k_)) := ⟨by repeat (first | (with_reducible first | exact HK.out | apply Kept.alloc | apply Kept.drewN | apply Kept.drew | refine Kept.setCell ?_ HMgo8.out _) | exact HK.out)⟩
     have n2_ : Aside0 (Below w0.heap.size w0 (w13.setCell ⟨go8, (a1 : Int).toNat, none⟩ (.int .i64 (Go.bits .or .i64 (rd l0 a1) (ji7))))) := ⟨by repeat (first | (with_reducible first | exact HB.out | apply below_alloc | apply pw_below_drewN | apply below_drew1 | refine below_set ?_ GB8.out) | exact HB.out)⟩
     (try clear HO0)
     (try clear HK)
     (try clear HB)
     generalize (w13.setCell ⟨go8, (a1 : Int).toNat, none⟩ (.int .i64 (Go.bits .or .i64 (rd l0 a1) (ji7)))) = w16 at n0_ n1_ n2_ ⊢
     have HO0 := n0_
     have HK := n1_
     have HB := n2_
     clear n0_ n1_ n2_
     have n0_ := Aside0.mk (Kd.R_drew HO0.out)
     have n1_ := Aside0.mk (Kept.drew HK.out)
     have n2_ := Aside0.mk (below_drew1 HB.out)
     clear HO0
     clear HK
     clear HB
     have HO0 := n0_
     have HK := n1_
     have HB := n2_
     clear n0_ n1_ n2_
     have p147 : 0 ≤ (a2 : Int) := of_decide_eq_true (by first | (with_reducible assumption) | assumption)
     have q147 : a2 < (y146.length : Int) := (by have h_ : (a2 : Int) < ((l0.length : Int) : Int) := of_decide_eq_true (by first | (with_reducible assumption) | assumption); first | (have e_ := (Kd.R_reads' HO0.out).1; omega) | simpa only [Ny146.out, List.length_set] using h_)
     have ql147 : ((a2 : Int) < ((l0.length : Int) : Int)) = True := eq_true (of_decide_eq_true (by first | (with_reducible assumption) | assumption))
     obtain ⟨ad147, e147, hx147_0⟩ := Kd.at_int (Kd.R_reads' HO0.out).2.2 a2 p147 q147
     obtain rfl : (⟨go8, 0, none⟩ : Addr) = ad147 := (by injection e147)
     (first | simp only [add_plain] at hx147_0 | simp only [add_at] at hx147_0 | simp only [Addr.add, Nat.zero_add] at hx147_0 | skip)
     replace p147 := eq_true p147
     replace q147 := eq_true q147
     have p12 : 0 ≤ (a2 : Int) := of_decide_eq_true (by first | (with_reducible assumption) | assumption)
     have q12 : (a2 : Int) < ((l0.length : Int) : Int) := of_decide_eq_true (by first | (with_reducible assumption) | assumption)
     obtain ⟨hx12_0, hf12_0⟩ := Kd.R_celln 0 HO0.out (a2 : Int) p12 q12
     replace p12 := eq_true p12
     replace q12 := eq_true q12
     have HP18 := Kd.R_putn HO0.out (a2 : Int) (Go.bits .or .i64 (rd y146 a2) (ji11))
     rw [← Ny148.out] at HP18
     have HQ18 := Aside0.mk HP18
     clear HP18
     refine start_ (n := 9) (S := fun w' => w'.cell? ⟨go8, (a2).toNat, none⟩ = some (.int .i64 (rd y146 a2))) (ds := [8]) (Qbz 9 0) (by kernel_rfl) rfl rfl (hx147_0) (fun hHeld => ?_); refine with_tabW minor_town_join.tab1 minor_town_join.bits1 (fun HT_ HW_ => ?_)
     generalize w16.drew = w17 at HO0 HK HB HQ15 HQ18 hf12_0 hx12_0 hx147_0 hHeld ⊢
     refine pure_ (i := 0) (N := some 14) (v := ?_) (a' := ?_) (Qbz 9 1) rfl rfl (any_of HT_.out (by kernel_rfl)) (fun _ _ _ h => h) (Or.inl ⟨by rfl, ?_⟩) ?_ ?_
     rotate_left
     ·intro w'
      go_simp
      with_reducible rfl
     rotate_left
     ·simp only [Act.put, Qp1, Qp2, Qp3, i64_w, i32_w]
      rfl
     refine pure_ (i := 1) (N := some 15) (v := ?_) (a' := ?_) (Qbz 9 3) rfl rfl (any_of HT_.out (by kernel_rfl)) (fun _ _ _ h => h) (Or.inl ⟨by rfl, ?_⟩) ?_ ?_
     rotate_left
     ·intro w'
      go_simp
      with_reducible rfl
     rotate_left
     ·simp only [Act.put, Qp1, Qp2, Qp3, i64_w, i32_w]
      rfl
     refine pure_ (i := 2) (N := some 16) (v := ?_) (a' := ?_) (Qbz 9 7) rfl rfl (any_of HT_.out (by kernel_rfl)) (fun _ _ _ h => h) (Or.inl ⟨by rfl, ?_⟩) ?_ ?_
     rotate_left
     ·intro w'
      go_simp
      with_reducible rfl
     rotate_left
     ·simp only [Act.put, Qp1, Qp2, Qp3, i64_w, i32_w]
      rfl
     refine pure_ (i := 4) (N := some 18) (v := ?_) (a' := ?_) (Qbz 9 23) rfl rfl (any_of HT_.out (by kernel_rfl)) (fun _ _ _ h => h) (Or.inl ⟨by rfl, ?_⟩) ?_ ?_
     rotate_left
     ·intro w'
      go_simp
      with_reducible rfl
     rotate_left
     ·simp only [Act.put, Qp1, Qp2, Qp3, i64_w, i32_w]
      rfl
     refine pure_ (i := 5) (N := some 19) (v := ?_) (a' := ?_) (Qbz 9 55) rfl rfl (any_of HT_.out (by kernel_rfl)) (fun _ _ _ h => h) (Or.inl ⟨by rfl, ?_⟩) ?_ ?_
     rotate_left
     ·intro w'
      go_simp
      with_reducible rfl
     rotate_left
     ·simp only [Act.put, Qp1, Qp2, Qp3, i64_w, i32_w]
      rfl
     refine take_ (i := 3) (N := some 17) (v := ?_) (a' := ?_) (Qbz 9 63) rfl rfl (take_ofW HT_.out HW_.out (by kernel_rfl)) (fun _ _ _ h => h) (Or.inl ⟨by rfl, ?_⟩) hHeld ?_ ?_
     rotate_left
     ·intro w' s0
      go_simp
      with_reducible rfl
     rotate_left
     ·simp only [Act.put, Qp1, Qp2, Qp3, i64_w, i32_w]
      rfl
     refine pure_ (i := 6) (N := some 20) (v := ?_) (a' := ?_) (Qbz 9 127) rfl rfl (any_of HT_.out (by kernel_rfl)) (fun _ _ _ h => h) (Or.inl ⟨by rfl, ?_⟩) ?_ ?_
     rotate_left
     ·intro w'
      go_simp
      with_reducible rfl
     rotate_left
     ·simp only [Act.put, Qp1, Qp2, Qp3, i64_w, i32_w]
      rfl
     refine pure_ (i := 7) (N := some 21) (v := ?_) (a' := ?_) (Qbz 9 255) rfl rfl (any_of HT_.out (by kernel_rfl)) (fun _ _ _ h => h) (Or.inl ⟨by rfl, ?_⟩) ?_ ?_
     rotate_left
     ·intro w'
      go_simp
      with_reducible rfl
     rotate_left
     ·simp only [Act.put, Qp1, Qp2, Qp3, i64_w, i32_w]
      rfl
     refine last_ (i := 8) (N := none) (Qbz 9 511) rfl rfl (one_of HT_.out (by kernel_rfl)) (by decide) (fun K hK => ?_)
     refine skip_ (w1 := ?_) (by rfl) rfl ?_ ?_
     rotate_left
     ·go_simp
      rfl
     refine hK.out _ _ ?_
     clear hK K
     refine done_ (done_of HT_.out (by kernel_rfl)) ?_
     try go_wp2
     first | go_end0 | ((try simp only [Exit.inBlock, Exit.then]); refine bodyPost_ret (results_none rfl _ _ _) rfl ?_)
     exact ⟨by first | rfl | (simp [errW_none, errW_some] <;> rfl) | (simp only [← hji7, ← hji11]; first | rfl | (simp [errW_none, errW_some] <;> rfl)) | (simp [*, errW_none, errW_some] <;> rfl), by (with_reducible repeat (first | apply Kd.R_alloc | apply Kd.R_drewN | apply Kd.R_drew)); exact HQ18.out, by repeat (first | (with_reducible first | exact HB.out | apply below_alloc | apply pw_below_drewN | apply below_drew1 | refine below_set ?_ GB8.out) | exact HB.out), by repeat (first | (with_reducible first | exact HK.out | apply Kept.alloc | apply Kept.drewN | apply Kept.drew | refine Kept.setCell ?_ HMgo8.out _) | exact HK.out)⟩
    ·rw [if_neg c9] at H
     exact absurd H (by simp)
   ·rw [if_neg c6] at H
    exact absurd H (by simp)
  ·rw [if_neg c5] at H
   exact absurd H (by simp)
 ·rw [if_neg c4] at H
  exact absurd H (by simp)
end Go.Proofs.YtjloppfdagfpmaaDoor.X
end
section
namespace Go.Proofs.YtjloppfdagfpmaaDoor.X
open Go.RowKit YtjloppfdagfpmaaDoorW.PrintWords YtjloppfdagfpmaaDoorW.PrintLast YtjloppfdagfpmaaDoorW.PrintMore
attribute [local go_sem] max2_int min2_int max_two min_two max_three min_three max_four min_four
/-! ### minor_town_without: function 76 -/
def minor_town_without.l0 : Nat → Int → List Int → List Int → Int → Int → Option (List Int)
 | 0, _, _, _, _, _ => none
 | k + 1, x1, x5, x8, x9, x10 => if x10 < x9 then (if 0 ≤ x10 then (if x10 < (x8.length : Int) then (if x10 = x1 then (minor_town_without.l0 k x1 x5 x8 x9 (wrap64 (x10 + 1))) else (if 0 ≤ x1 then (if 0 ≤ (wrap64 (x1 + 1)) then (if x5.length < 17592186044416 then (minor_town_without.l0 k x1 (x5 ++ [Go.bits .or .i64 (Go.bits .and .i64 (rd x8 x10) (wrap64 ((shl .i64 1 x1) - 1))) (shl .i64 (shr .i64 (rd x8 x10) (wrap64 (x1 + 1))) x1)]) x8 x9 (wrap64 (x10 + 1))) else (none)) else (none)) else (none))) else (none)) else (none)) else (some x5)
def minor_town_without.f (k : Nat) (l0 : List Int) (a1 : Int) : Option (List Int) := minor_town_without.l0 k a1 ([] : List Int) l0 (l0.length : Int) 0
def minor_town_without.T6 : Bool × List (List Nat × List Nat) := (true, [([], []), ([], []), ([], []), ([2], [2]), ([3], [3]), ([1, 4], [1, 4]), ([], []), ([], []), ([7], [7]), ([6, 8], [6, 8]), ([], []), ([9, 10], [9, 10]), ([5, 11], [5, 11]), ([12], [12]), ([0, 13], [0, 13]), ([14, 14, 0, 1, 2, 3, 4, 5, 6, 7, 8, 9, 10, 11, 12, 13, 14], [0, 14])])
def minor_town_without.B6 : List Nat := [0, 0, 0, 4, 12, 30, 0, 0, 128, 448, 0, 1984, 4094, 8190, 16383, 32767]
theorem minor_town_without.tab6 : rtab .any (opsOf Tryd.f76 6) = minor_town_without.T6 := by kernel_rfl
theorem minor_town_without.bits6 : waitsOk minor_town_without.T6.2 minor_town_without.B6 = true := by kernel_rfl
set_option maxHeartbeats 8000000 in
set_option maxRecDepth 100000 in
theorem minor_town_without.calls (k : Nat) (A0 : Option Addr) (c0 : Nat) (l0 : List Int) (a1 : Int) (r : List Int) (w : World) (hr0 : Kd.C (Kd.int .i64) w A0 l0.length l0) (hc0 : l0.length ≤ c0) (h : minor_town_without.f k l0 a1 = some r) :
  Calls Tryd.prog 76 #[.slice A0 l0.length c0, .int .i64 a1] w fun e w' => ∃ v0_ : Value, e = .returned (v0_) ∧ Kd.R (Kd.int .i64) 3 w' w.heap.size (fun _ => True) v0_ r ∧ Below w.heap.size w w' := by
 have HR0 := Aside0.mk hr0
 have HC0 := Aside0.mk hc0
 clear hr0 hc0
 have HB := Aside0.mk (Below.refl w.heap.size w)
 have H : (minor_town_without.l0 k a1 ([] : List Int) l0 (l0.length : Int) 0) = some r := h
 clear h
 have H' := Aside0.mk H
 clear H
 go_enter Tryd.func76, Tryd.ntmps76
 go_wp2
 go_loopg [5, 10] k (fun kq v5 v10 w' => ∃ (x5_1 : List Int) (x10_1 : Int), v10 = .int .i64 x10_1 ∧ Aside0 (minor_town_without.l0 kq a1 x5_1 l0 (l0.length : Int) x10_1 = some r) ∧ Aside0 (kq ≤ k) ∧ Aside0 (Kd.R (Kd.int .i64) 3 w' w.heap.size (fun _ => True) v5 x5_1) ∧ Aside0 (Below w.heap.size w w'))
 case atStart => exact ⟨(([] : List Int)), (0), (by first | rfl | (simp; done) | (simp [*]; done)), H', ⟨Nat.le_refl _⟩, ⟨by first | exact Kd.R_nil _ _ _ _ _ | exact Kd.N_nil _ _ _ _ _ | exact Kd.V_nil _ _ _ _ _ | exact Kd.Q_nil _ _ _ _ _ | exact Kd.S_nil _ _ _ _ _⟩, ⟨by repeat (first | (with_reducible first | exact HB.out | apply below_alloc | apply pw_below_drewN | apply below_drew1) | exact HB.out)⟩⟩
 case round =>
  clear H'
  try clear p2
  obtain ⟨x5_1, x10_1, rfl, HA, HK1, HO_5, HB⟩ := hrel
  cases gk with
  | zero => exact absurd HA.out (by simp [minor_town_without.l0])
  | succ k1 =>
   have H := HA.out
   clear HA
   simp only [minor_town_without.l0] at H
   by_cases c3 : x10_1 < (l0.length : Int)
   ·rw [if_pos c3] at H
    have c3b0 : decide (x10_1 < (l0.length : Int)) = true := decide_eq_true c3
    clear c3
    by_cases c4 : 0 ≤ x10_1
    ·rw [if_pos c4] at H
     have c4b0 : decide (0 ≤ x10_1) = true := decide_eq_true c4
     clear c4
     by_cases c5 : x10_1 < (l0.length : Int)
     ·rw [if_pos c5] at H
      have c5b0 : decide (x10_1 < (l0.length : Int)) = true := decide_eq_true c5
      clear c5
      by_cases c6 : x10_1 = a1
      ·rw [if_pos c6] at H
       have c6b0 : (x10_1 == a1) = true := beq_iff_eq.mpr c6
       have c6b1 : (x10_1 != a1) = false := bne_eq_false_iff_eq.mpr c6
       clear c6
       have H' := Aside0.mk H
       clear H
       have p284 : 0 ≤ (x10_1 : Int) := of_decide_eq_true (by first | (with_reducible assumption) | assumption)
       have q284 : x10_1 < (l0.length : Int) := of_decide_eq_true (by first | (with_reducible assumption) | assumption)
       obtain ⟨ad284, e284, hx284_0⟩ := Kd.at_int HR0.out x10_1 p284 q284
       cases e284
       replace hx284_0 := (HB.out.cell (World.block_lt_of_cell? w _ hx284_0)).trans hx284_0
       replace p284 := eq_true p284
       replace q284 := eq_true q284
       go_wp2
       go_roundg k1
       case measure => have := HK1.out; omega
       case rel => exact ⟨(x5_1), (wrap64 (x10_1 + 1)), (by first | rfl | (simp; done) | (simp [*]; done)), H', ⟨by have := HK1.out; omega⟩, ⟨by (with_reducible repeat (first | apply Kd.R_alloc | apply Kd.R_drewN | apply Kd.R_drew)); exact HO_5.out⟩, ⟨by repeat (first | (with_reducible first | exact HB.out | apply below_alloc | apply pw_below_drewN | apply below_drew1) | exact HB.out)⟩⟩
      ·rw [if_neg c6] at H
       have c6b0 : (x10_1 == a1) = false := beq_eq_false_iff_ne.mpr c6
       have c6b1 : (x10_1 != a1) = true := bne_iff_ne.mpr c6
       by_cases c7 : 0 ≤ a1
       ·rw [if_pos c7] at H
        have c7b0 := eq_true c7
        have c7b1 : decide (0 ≤ a1) = true := decide_eq_true c7
        clear c7
        obtain ⟨ji8, hji8⟩ : ∃ j_ : Int, (shl .i64 1 a1) = j_ := ⟨_, rfl⟩
        replace H : (if 0 ≤ (wrap64 (a1 + 1)) then (if x5_1.length < 17592186044416 then (minor_town_without.l0 k1 a1 (x5_1 ++ [Go.bits .or .i64 (Go.bits .and .i64 (rd l0 x10_1) (wrap64 ((ji8) - 1))) (shl .i64 (shr .i64 (rd l0 x10_1) (wrap64 (a1 + 1))) a1)]) l0 (l0.length : Int) (wrap64 (x10_1 + 1))) else (none)) else (none)) = some r := by first | (rw [hji8] at H; exact H) | (simp only [hji8] at H ⊢; exact H)
        have hji8_ : (IntKind.i64.wrap (1 * 2 ^ min a1.toNat 64)) = ji8 := hji8
        have hji8z : a1 ≤ 64 → (IntKind.i64.wrap (1 * 2 ^ a1.toNat)) = ji8 := shl_small hji8
        have hji8u : (IntKind.i64.wrap (2 ^ min a1.toNat 64)) = ji8 := by have h_ := hji8_; rw [Int.one_mul] at h_; exact h_
        have hji8v : a1 ≤ 64 → (IntKind.i64.wrap (2 ^ a1.toNat)) = ji8 := fun hle_ => by have h_ := hji8z hle_; rw [Int.one_mul] at h_; exact h_
        have hji8y : (wrap64 (1 * 2 ^ min a1.toNat 64)) = ji8 := (i64_w _).symm.trans hji8_
        have hji8x : a1 ≤ 64 → (wrap64 (1 * 2 ^ a1.toNat)) = ji8 := fun h_ => (i64_w _).symm.trans (hji8z h_)
        obtain ⟨ji9, hji9⟩ : ∃ j_ : Int, (wrap64 (a1 + 1)) = j_ := ⟨_, rfl⟩
        replace H : (if 0 ≤ (ji9) then (if x5_1.length < 17592186044416 then (minor_town_without.l0 k1 a1 (x5_1 ++ [Go.bits .or .i64 (Go.bits .and .i64 (rd l0 x10_1) (wrap64 ((ji8) - 1))) (shl .i64 (shr .i64 (rd l0 x10_1) (ji9)) a1)]) l0 (l0.length : Int) (wrap64 (x10_1 + 1))) else (none)) else (none)) = some r := by first | (rw [hji9] at H; exact H) | (simp only [hji9] at H ⊢; exact H)
        have hji9w : (IntKind.i64.wrap (a1 + 1)) = ji9 := (i64_w _).trans hji9
        by_cases c10 : 0 ≤ (ji9)
        ·rw [if_pos c10] at H
         have c10b0 := eq_true c10
         have c10b1 : decide (0 ≤ (ji9)) = true := decide_eq_true c10
         clear c10
         obtain ⟨ji11, hji11⟩ : ∃ j_ : Int, (shr .i64 (rd l0 x10_1) (ji9)) = j_ := ⟨_, rfl⟩
         replace H : (if x5_1.length < 17592186044416 then (minor_town_without.l0 k1 a1 (x5_1 ++ [Go.bits .or .i64 (Go.bits .and .i64 (rd l0 x10_1) (wrap64 ((ji8) - 1))) (shl .i64 (ji11) a1)]) l0 (l0.length : Int) (wrap64 (x10_1 + 1))) else (none)) = some r := by first | (rw [hji11] at H; exact H) | (simp only [hji11] at H ⊢; exact H)
         have hji11_ : ((rd l0 x10_1) / 2 ^ min (ji9).toNat 64) = ji11 := hji11
         have hji11z : (ji9) ≤ 64 → ((rd l0 x10_1) / 2 ^ (ji9).toNat) = ji11 := shr_small hji11
         have c12b0 := eq_true (of_decide_eq_true (by first | (with_reducible assumption) | assumption) : 0 ≤ a1)
         obtain ⟨ji13, hji13⟩ : ∃ j_ : Int, (shl .i64 (ji11) a1) = j_ := ⟨_, rfl⟩
         replace H : (if x5_1.length < 17592186044416 then (minor_town_without.l0 k1 a1 (x5_1 ++ [Go.bits .or .i64 (Go.bits .and .i64 (rd l0 x10_1) (wrap64 ((ji8) - 1))) (ji13)]) l0 (l0.length : Int) (wrap64 (x10_1 + 1))) else (none)) = some r := by first | (rw [hji13] at H; exact H) | (simp only [hji13] at H ⊢; exact H)
         have hji13_ : (IntKind.i64.wrap ((ji11) * 2 ^ min a1.toNat 64)) = ji13 := hji13
         have hji13z : a1 ≤ 64 → (IntKind.i64.wrap ((ji11) * 2 ^ a1.toNat)) = ji13 := shl_small hji13
         have hji13y : (wrap64 ((ji11) * 2 ^ min a1.toNat 64)) = ji13 := (i64_w _).symm.trans hji13_
         have hji13x : a1 ≤ 64 → (wrap64 ((ji11) * 2 ^ a1.toNat)) = ji13 := fun h_ => (i64_w _).symm.trans (hji13z h_)
         by_cases c14 : x5_1.length < 17592186044416
         ·rw [if_pos c14] at H
          have LMc14 := Aside0.mk c14
          clear c14
          obtain ⟨y285, hy285⟩ : ∃ y_ : List Int, y_ = (x5_1 ++ [Go.bits .or .i64 (Go.bits .and .i64 (rd l0 x10_1) (wrap64 ((ji8) - 1))) (ji13)]) := ⟨_, rfl⟩
          replace H : (minor_town_without.l0 k1 a1 y285 l0 (l0.length : Int) (wrap64 (x10_1 + 1))) = some r := by first | (rw [hy285]; with_reducible exact H) | (have H2_ := (Option.bind_some _ _).symm.trans H; rw [hy285]; with_reducible exact H2_) | (have H2_ := (Option.bind_some _ _).symm.trans H; with_reducible exact H2_) | with_reducible exact H | (rw [hy285]; exact H) | exact H
          have Ny285 := Aside0.mk hy285
          clear hy285
          have H' := Aside0.mk H
          clear H
          have p284 : 0 ≤ (x10_1 : Int) := of_decide_eq_true (by first | (with_reducible assumption) | assumption)
          have q284 : x10_1 < (l0.length : Int) := of_decide_eq_true (by first | (with_reducible assumption) | assumption)
          obtain ⟨ad284, e284, hx284_0⟩ := Kd.at_int HR0.out x10_1 p284 q284
          cases e284
          replace hx284_0 := (HB.out.cell (World.block_lt_of_cell? w _ hx284_0)).trans hx284_0
          replace p284 := eq_true p284
          replace q284 := eq_true q284
          try go_wp2
          have n0_ := Aside0.mk (Kd.R_drew HO_5.out)
          have n1_ := Aside0.mk (below_drew1 HB.out)
          clear HO_5
          clear HB
          have HO_5 := n0_
          have HB := n1_
          clear n0_ n1_
          refine start_ (n := 16) (S := fun w' => True) (ds := []) (Qbz 16 0) (by kernel_rfl) rfl rfl trivial (fun hHeld => ?_); refine with_tabW minor_town_without.tab6 minor_town_without.bits6 (fun HT_ HW_ => ?_)
          generalize wr.drew = w15 at HO_5 HB hHeld ⊢
          refine pure_ (i := 0) (N := some 18) (v := ?_) (a' := ?_) (Qbz 16 1) rfl rfl (any_of HT_.out (by kernel_rfl)) (fun _ _ _ h => h) (Or.inl ⟨by rfl, ?_⟩) ?_ ?_
          rotate_left
          ·intro w'
           go_simp
           with_reducible rfl
          rotate_left
          ·simp only [Act.put, Qp1, Qp2, Qp3, i64_w, i32_w]
           rfl
          refine pure_ (i := 1) (N := some 19) (v := ?_) (a' := ?_) (Qbz 16 3) rfl rfl (any_of HT_.out (by kernel_rfl)) (fun _ _ _ h => h) (Or.inl ⟨by rfl, ?_⟩) ?_ ?_
          rotate_left
          ·intro w'
           go_simp
           with_reducible rfl
          rotate_left
          ·simp only [Act.put, Qp1, Qp2, Qp3, i64_w, i32_w]
           rfl
          refine pure_ (i := 2) (N := some 20) (v := ?_) (a' := ?_) (Qbz 16 7) rfl rfl (any_of HT_.out (by kernel_rfl)) (fun _ _ _ h => h) (Or.inl ⟨by rfl, ?_⟩) ?_ ?_
          rotate_left
          ·intro w'
           go_simp
           with_reducible rfl
          rotate_left
          ·simp only [Act.put, Qp1, Qp2, Qp3, i64_w, i32_w]
           rfl
          refine pure_ (i := 3) (N := some 21) (v := ?_) (a' := ?_) (Qbz 16 15) rfl rfl (any_of HT_.out (by kernel_rfl)) (fun _ _ _ h => h) (Or.inl ⟨by rfl, ?_⟩) ?_ ?_
          rotate_left
          ·intro w'
           go_simp
           with_reducible rfl
          rotate_left
          ·simp only [Act.put, Qp1, Qp2, Qp3, i64_w, i32_w]
           rfl
          refine pure_ (i := 4) (N := some 22) (v := ?_) (a' := ?_) (Qbz 16 31) rfl rfl (any_of HT_.out (by kernel_rfl)) (fun _ _ _ h => h) (Or.inl ⟨by rfl, ?_⟩) ?_ ?_
          rotate_left
          ·intro w'
           go_simp
           with_reducible rfl
          rotate_left
          ·simp only [Act.put, Qp1, Qp2, Qp3, i64_w, i32_w]
           rfl
          refine pure_ (i := 5) (N := some 23) (v := ?_) (a' := ?_) (Qbz 16 63) rfl rfl (any_of HT_.out (by kernel_rfl)) (fun _ _ _ h => h) (Or.inl ⟨by rfl, ?_⟩) ?_ ?_
          rotate_left
          ·intro w'
           go_simp
           with_reducible rfl
          rotate_left
          ·simp only [Act.put, Qp1, Qp2, Qp3, i64_w, i32_w]
           rfl
          refine pure_ (i := 6) (N := some 24) (v := ?_) (a' := ?_) (Qbz 16 127) rfl rfl (any_of HT_.out (by kernel_rfl)) (fun _ _ _ h => h) (Or.inl ⟨by rfl, ?_⟩) ?_ ?_
          rotate_left
          ·intro w'
           go_simp
           with_reducible rfl
          rotate_left
          ·simp only [Act.put, Qp1, Qp2, Qp3, i64_w, i32_w]
           rfl
          refine pure_ (i := 7) (N := some 25) (v := ?_) (a' := ?_) (Qbz 16 255) rfl rfl (any_of HT_.out (by kernel_rfl)) (fun _ _ _ h => h) (Or.inl ⟨by rfl, ?_⟩) ?_ ?_
          rotate_left
          ·intro w'
           go_simp
           with_reducible rfl
          rotate_left
          ·simp only [Act.put, Qp1, Qp2, Qp3, i64_w, i32_w]
           rfl
          refine pure_ (i := 8) (N := some 26) (v := ?_) (a' := ?_) (Qbz 16 511) rfl rfl (any_of HT_.out (by kernel_rfl)) (fun _ _ _ h => h) (Or.inl ⟨by rfl, ?_⟩) ?_ ?_
          rotate_left
          ·intro w'
           go_simp
           with_reducible rfl
          rotate_left
          ·simp only [Act.put, Qp1, Qp2, Qp3, i64_w, i32_w]
           rfl
          refine pure_ (i := 9) (N := some 27) (v := ?_) (a' := ?_) (Qbz 16 1023) rfl rfl (any_of HT_.out (by kernel_rfl)) (fun _ _ _ h => h) (Or.inl ⟨by rfl, ?_⟩) ?_ ?_
          rotate_left
          ·intro w'
           go_simp
           with_reducible rfl
          rotate_left
          ·simp only [Act.put, Qp1, Qp2, Qp3, i64_w, i32_w]
           rfl
          refine pure_ (i := 10) (N := some 28) (v := ?_) (a' := ?_) (Qbz 16 2047) rfl rfl (any_of HT_.out (by kernel_rfl)) (fun _ _ _ h => h) (Or.inl ⟨by rfl, ?_⟩) ?_ ?_
          rotate_left
          ·intro w'
           go_simp
           with_reducible rfl
          rotate_left
          ·simp only [Act.put, Qp1, Qp2, Qp3, i64_w, i32_w]
           rfl
          refine pure_ (i := 11) (N := some 29) (v := ?_) (a' := ?_) (Qbz 16 4095) rfl rfl (any_of HT_.out (by kernel_rfl)) (fun _ _ _ h => h) (Or.inl ⟨by rfl, ?_⟩) ?_ ?_
          rotate_left
          ·intro w'
           go_simp
           with_reducible rfl
          rotate_left
          ·simp only [Act.put, Qp1, Qp2, Qp3, i64_w, i32_w]
           rfl
          refine pure_ (i := 12) (N := some 30) (v := ?_) (a' := ?_) (Qbz 16 8191) rfl rfl (any_of HT_.out (by kernel_rfl)) (fun _ _ _ h => h) (Or.inl ⟨by rfl, ?_⟩) ?_ ?_
          rotate_left
          ·intro w'
           go_simp
           with_reducible rfl
          rotate_left
          ·simp only [Act.put, Qp1, Qp2, Qp3, i64_w, i32_w]
           rfl
          refine one_ (i := 13) (N := some 31) (Qbz 16 16383) rfl rfl (one_of HT_.out (by kernel_rfl)) (by decide) (fun K hK => ?_)
          refine value_ (w1 := ?_) (v := ?_) (by rfl) rfl ?_ ?_
          rotate_left 2
          ·go_simp
           constructor
           ·rfl
           ·rfl
          refine hK.out _ _ trivial (fun hHeld => ?_)
          clear hK K
          refine norm_ (a' := ?_) ?_ ?_
          rotate_left
          ·show Act.put _ (some 31) _ = _
           simp only [Act.put, Qp1, Qp2, Qp3, i64_w, i32_w]
           rfl
          refine one_ (i := 14) (N := some 32) (Qbz 16 32767) rfl rfl (one_of HT_.out (by kernel_rfl)) (by decide) (fun K hK => ?_)
          refine Kd.R_append_step (Kd.int .i64) (w0 := w) w.heap.size (by rfl) (.tmp 18) (.tmp 31) 79 3 (.int .i64 0) 8 rfl Tryd.underlying79 info3 rfl (by decide) (by omega) u5 x5_1 (Go.bits .or .i64 (Go.bits .and .i64 (rd l0 x10_1) (wrap64 ((ji8) - 1))) (ji13)) [.int .i64 (Go.bits .or .i64 (Go.bits .and .i64 (rd l0 x10_1) (wrap64 ((ji8) - 1))) (ji13))] (fun _ => True) (fun _ => False) rfl rfl ?aP (fun _ hk => hk.elim) ?aF ?aO ?aB ?aS ?aL ?_
          (case aP => exact rfl)
          (case aB => exact (Qaw))
          (case aF => exact (fun _ _ => trivial))
          (case aO => exact (Qro HO_5.out))
          (case aS => exact (below_size (Qaw)))
          (case aL => have := LMc14.out; omega)
          intro v286 w16 ho hb hg hat
          rw [← Ny285.out] at ho
          have n0_ := Aside0.mk (hb)
          have n1_ := Aside0.mk (ho)
          clear HB
          clear HO_5
          have HB := n0_
          have HO287 := n1_
          clear n0_ n1_
          clear ho hb hg hat
          refine hK.out _ _ trivial (fun hHeld => ?_)
          clear hK K
          refine norm_ (a' := ?_) ?_ ?_
          rotate_left
          ·show Act.put _ (some 32) _ = _
           simp only [Act.put, Qp1, Qp2, Qp3, i64_w, i32_w]
           rfl
          refine pure_ (i := 15) (N := some 5) (v := ?_) (a' := ?_) (Qbz 16 65535) rfl rfl (any_of HT_.out (by kernel_rfl)) (fun _ _ _ h => h) (Or.inl ⟨by rfl, ?_⟩) ?_ ?_
          rotate_left
          ·intro w'
           go_simp
           with_reducible rfl
          rotate_left
          ·simp only [Act.put, Qp1, Qp2, Qp3, i64_w, i32_w]
           rfl
          refine done_ (done_of HT_.out (by kernel_rfl)) ?_
          try go_wp2
          go_roundg k1
          case measure => have := HK1.out; omega
          case rel => exact ⟨(y285), (wrap64 (x10_1 + 1)), (by first | rfl | (simp; done) | (simp [*]; done)), H', ⟨by have := HK1.out; omega⟩, ⟨by (with_reducible repeat (first | apply Kd.R_alloc | apply Kd.R_drewN | apply Kd.R_drew)); exact HO287.out⟩, ⟨by repeat (first | (with_reducible first | exact HB.out | apply below_alloc | apply pw_below_drewN | apply below_drew1) | exact HB.out)⟩⟩
         ·rw [if_neg c14] at H
          exact absurd H (by simp)
        ·rw [if_neg c10] at H
         exact absurd H (by simp)
       ·rw [if_neg c7] at H
        exact absurd H (by simp)
     ·rw [if_neg c5] at H
      exact absurd H (by simp)
    ·rw [if_neg c4] at H
     exact absurd H (by simp)
   ·rw [if_neg c3] at H
    have c3b0 : decide (x10_1 < (l0.length : Int)) = false := decide_eq_false c3
    clear c3
    obtain rfl := Option.some.inj H
    go_wp2
    go_ret
    exact ⟨_, by first | rfl | (simp [errW_none, errW_some] <;> rfl) | (simp [*, errW_none, errW_some] <;> rfl), by (with_reducible repeat (first | apply Kd.R_alloc | apply Kd.R_drewN | apply Kd.R_drew)); exact HO_5.out, by repeat (first | (with_reducible first | exact HB.out | apply below_alloc | apply pw_below_drewN | apply below_drew1) | exact HB.out)⟩
end Go.Proofs.YtjloppfdagfpmaaDoor.X
end
section
namespace Go.Proofs.YtjloppfdagfpmaaDoor.X
open Go.RowKit YtjloppfdagfpmaaDoorW.PrintWords YtjloppfdagfpmaaDoorW.PrintLast YtjloppfdagfpmaaDoorW.PrintMore
attribute [local go_sem] max2_int min2_int max_two min_two max_three min_three max_four min_four
/-! ### minor_Contract: function 36 -/
mutual
def minor_Contract.j0 : Nat → Int → Int → List Int → Bool → Option (List Int × Int)
 | 0, _, _, _, _ => none
 | k + 1, x1, x2, x8, x44 => if x44 = true then (some (([] : List Int), 2)) else ((minor_town_int.f x8).bind fun t306 => (if 0 ≤ x2 then (if x2 < (x8.length : Int) then (if 0 ≤ x1 then ((minor_nodes.f k (Go.bits .andNot .i64 (rd x8 x2) (shl .i64 1 x1))).bind fun t310 => (minor_Contract.l0 k x1 x2 t306 t310 (t310.length : Int) 0)) else (none)) else (none)) else (none)))
def minor_Contract.l0 : Nat → Int → Int → List Int → List Int → Int → Int → Option (List Int × Int)
 | 0, _, _, _, _, _, _ => none
 | k + 1, x1, x2, x10, x54, x55, x56 => if x56 < x55 then (if 0 ≤ x56 then (if x56 < (x54.length : Int) then ((minor_town_join.f x10 x1 (rd x54 x56)).bind fun t314 => (minor_Contract.l0 k x1 x2 t314 x54 x55 (wrap64 (x56 + 1)))) else (none)) else (none)) else ((minor_town_without.f k x10 x2).bind fun t315 => (some (t315, 0)))
end
def minor_Contract.f (k : Nat) (l0 : List Int) (a1 : Int) (a2 : Int) : Option (List Int × Int) := (minor_read.f k l0 8).bind fun bt301 => (if bt301.2 = true then (if a1 < 0 then (minor_Contract.j0 k a1 a2 bt301.1 true) else (if a2 ≥ (bt301.1.length : Int) then (minor_Contract.j0 k a1 a2 bt301.1 true) else (if a1 ≥ a2 then (minor_Contract.j0 k a1 a2 bt301.1 true) else (if 0 ≤ a1 then (if a1 < (bt301.1.length : Int) then (if 0 ≤ a2 then (minor_Contract.j0 k a1 a2 bt301.1 ((Go.bits .and .i64 (shr .i64 (rd bt301.1 a1) a2) 1) == 0)) else (none)) else (none)) else (none))))) else (minor_Contract.j0 k a1 a2 bt301.1 true))
def minor_Contract.T5 : Bool × List (List Nat × List Nat) := (true, [([], []), ([], []), ([0, 1], [0, 1]), ([2], [2]), ([], []), ([4], [4]), ([3, 5], [3, 5]), ([6], [6]), ([7], [7]), ([], [])])
def minor_Contract.B5 : List Nat := [0, 0, 3, 7, 0, 16, 63, 127, 255, 0]
theorem minor_Contract.tab5 : rtab .any (opsOf Tryd.f36 5) = minor_Contract.T5 := by kernel_rfl
theorem minor_Contract.bits5 : waitsOk minor_Contract.T5.2 minor_Contract.B5 = true := by kernel_rfl
set_option maxHeartbeats 8000000 in
set_option maxRecDepth 100000 in
theorem minor_Contract.calls (k : Nat) (A0 : Option Addr) (c0 : Nat) (l0 : List Int) (a1 : Int) (a2 : Int) (r1 : List Int) (r2 : Int) (w : World) (hGL : GL w) (hr0 : Kd.C (Kd.int .i64) w A0 l0.length l0) (hc0 : l0.length ≤ c0) (h : minor_Contract.f k l0 a1 a2 = some (r1, r2)) :
  Calls Tryd.prog 36 #[.slice A0 l0.length c0, .int .i64 a1, .int .i64 a2] w fun e w' => ∃ v0_ : Value, e = .returned (.tuple #[v0_, .int .i64 r2]) ∧ Kd.R (Kd.int .i64) 3 w' w.heap.size (fun _ => True) v0_ r1 ∧ Below w.heap.size w w' := by
 have HGL := Aside0.mk hGL
 clear hGL
 have HR0 := Aside0.mk hr0
 have HC0 := Aside0.mk hc0
 clear hr0 hc0
 have HB := Aside0.mk (Below.refl w.heap.size w)
 have H : ((minor_read.f k l0 8).bind fun bt301 => (if bt301.2 = true then (if a1 < 0 then (minor_Contract.j0 k a1 a2 bt301.1 true) else (if a2 ≥ (bt301.1.length : Int) then (minor_Contract.j0 k a1 a2 bt301.1 true) else (if a1 ≥ a2 then (minor_Contract.j0 k a1 a2 bt301.1 true) else (if 0 ≤ a1 then (if a1 < (bt301.1.length : Int) then (if 0 ≤ a2 then (minor_Contract.j0 k a1 a2 bt301.1 ((Go.bits .and .i64 (shr .i64 (rd bt301.1 a1) a2) 1) == 0)) else (none)) else (none)) else (none))))) else (minor_Contract.j0 k a1 a2 bt301.1 true))) = some (r1, r2) := h
 clear h
 replace H := Option.bind_eq_some_iff.mp H
 obtain ⟨⟨t301, t304⟩, A40, H⟩ := H
 replace H : (if t304 = true then (if a1 < 0 then (minor_Contract.j0 k a1 a2 t301 true) else (if a2 ≥ (t301.length : Int) then (minor_Contract.j0 k a1 a2 t301 true) else (if a1 ≥ a2 then (minor_Contract.j0 k a1 a2 t301 true) else (if 0 ≤ a1 then (if a1 < (t301.length : Int) then (if 0 ≤ a2 then (minor_Contract.j0 k a1 a2 t301 ((Go.bits .and .i64 (shr .i64 (rd t301 a1) a2) 1) == 0)) else (none)) else (none)) else (none))))) else (minor_Contract.j0 k a1 a2 t301 true)) = some (r1, r2) := H
 have A4 := Aside0.mk A40
 clear A40
 have HC5 := Aside0.mk H
 clear H
 go_enter Tryd.func36, Tryd.ntmps36
 go_upto_region 2 with (first | ((with_reducible refine gate_callee (f := 63) rfl ?_); refine goesL_ (some 15) rfl rfl Tryd.func63 (by kernel_rfl) rfl #[.slice A0 l0.length c0, .int .i64 8] rfl (Qls) ?_; (with_reducible refine (minor_read.calls k (fun k_ => k_ < w.heap.size) _ _ l0 8 t301 t304 _ ?side1 A4.out).mono ?_); (case side1 => exact Kd.V_mk HC0.out (Kd.F_below (Kd.C_F (Kd.heap_int .i64) HR0.out) (Qaw))); rintro e w6 ⟨v302, rfl, ho0, hb⟩; refine ⟨_, rfl, ?_⟩; have n0_ := Aside0.mk (Kd.V_lower (Kd.V_mono (ok' := fun k_ => True) ho0 (fun k_ hk_ => trivial)) (below_size (Qaw))); have n1_ := Aside0.mk (below_step (Qaw) hb); clear HB; have HO303 := n0_; have HB := n1_; clear n0_ n1_; (try clear hb); (try clear hb2); (try clear hk); (try clear hi); (try clear ho0)))
 (try simp only [Act.put, List.setIfInBounds_toArray, List.set_cons_zero, List.set_cons_succ])
 go_cut [44] (fun v44 wc => ∃ (kq : Nat) (x44_4 : Bool), v44 = .bool x44_4 ∧ Aside0 (minor_Contract.j0 kq a1 a2 t301 x44_4 = some (r1, r2)) ∧ Aside0 (kq ≤ k) ∧ Aside0 (Kd.V (Kd.int .i64) 3 wc w.heap.size (fun _ => True) v302 t301) ∧ Aside0 (Below w.heap.size w wc))
 case first =>
  have H := HC5.out
  clear HC5
  by_cases c7 : t304 = true
  ·subst c7
   have H1 : (if a1 < 0 then (minor_Contract.j0 k a1 a2 t301 true) else (if a2 ≥ (t301.length : Int) then (minor_Contract.j0 k a1 a2 t301 true) else (if a1 ≥ a2 then (minor_Contract.j0 k a1 a2 t301 true) else (if 0 ≤ a1 then (if a1 < (t301.length : Int) then (if 0 ≤ a2 then (minor_Contract.j0 k a1 a2 t301 ((Go.bits .and .i64 (shr .i64 (rd t301 a1) a2) 1) == 0)) else (none)) else (none)) else (none))))) = some (r1, r2) := by rw [if_pos rfl] at H; exact H
   clear H
   have H := H1
   clear H1
   by_cases c8 : a1 < 0
   ·rw [if_pos c8] at H
    have c8b0 : decide (a1 < 0) = true := decide_eq_true c8
    clear c8
    (first | rw [c8b0] | (simp only [i64_w, i32_w]; rw [c8b0]) | skip)
    have H' := Aside0.mk H
    clear H
    go_wp2
    go_meet
    case rel => exact ⟨_, (true), (by first | rfl | (simp; done) | (simp [*]; done)), H', ⟨by first | omega | exact Nat.le_refl _⟩, ⟨by (with_reducible repeat (first | apply Kd.V_alloc | apply Kd.V_drewN | apply Kd.V_drew)); exact HO303.out⟩, ⟨by repeat (first | (with_reducible first | exact HB.out | apply below_alloc | apply pw_below_drewN | apply below_drew1) | exact HB.out)⟩⟩
   ·rw [if_neg c8] at H
    have c8b0 : decide (a1 < 0) = false := decide_eq_false c8
    clear c8
    (first | rw [c8b0] | (simp only [i64_w, i32_w]; rw [c8b0]) | skip)
    by_cases c9 : a2 ≥ (t301.length : Int)
    ·rw [if_pos c9] at H
     have c9b0 : decide ((t301.length : Int) ≤ a2) = true := decide_eq_true c9
     clear c9
     have H' := Aside0.mk H
     clear H
     obtain ⟨Ao10, co10, eo10⟩ := Kd.V_slice HO303.out
     subst eo10
     go_wp2
     go_meet
     case rel => exact ⟨_, (true), (by first | rfl | (simp; done) | (simp [*]; done)), H', ⟨by first | omega | exact Nat.le_refl _⟩, ⟨by (with_reducible repeat (first | apply Kd.V_alloc | apply Kd.V_drewN | apply Kd.V_drew)); exact HO303.out⟩, ⟨by repeat (first | (with_reducible first | exact HB.out | apply below_alloc | apply pw_below_drewN | apply below_drew1) | exact HB.out)⟩⟩
    ·rw [if_neg c9] at H
     have c9b0 : decide ((t301.length : Int) ≤ a2) = false := decide_eq_false c9
     clear c9
     by_cases c11 : a1 ≥ a2
     ·rw [if_pos c11] at H
      have c11b0 : decide (a2 ≤ a1) = true := decide_eq_true c11
      clear c11
      have H' := Aside0.mk H
      clear H
      obtain ⟨Ao12, co12, eo12⟩ := Kd.V_slice HO303.out
      subst eo12
      go_wp2
      go_meet
      case rel => exact ⟨_, (true), (by first | rfl | (simp; done) | (simp [*]; done)), H', ⟨by first | omega | exact Nat.le_refl _⟩, ⟨by (with_reducible repeat (first | apply Kd.V_alloc | apply Kd.V_drewN | apply Kd.V_drew)); exact HO303.out⟩, ⟨by repeat (first | (with_reducible first | exact HB.out | apply below_alloc | apply pw_below_drewN | apply below_drew1) | exact HB.out)⟩⟩
     ·rw [if_neg c11] at H
      have c11b0 : decide (a2 ≤ a1) = false := decide_eq_false c11
      clear c11
      by_cases c13 : 0 ≤ a1
      ·rw [if_pos c13] at H
       have c13b0 : decide (0 ≤ a1) = true := decide_eq_true c13
       clear c13
       by_cases c14 : a1 < (t301.length : Int)
       ·rw [if_pos c14] at H
        have c14b0 : decide (a1 < (t301.length : Int)) = true := decide_eq_true c14
        clear c14
        by_cases c15 : 0 ≤ a2
        ·rw [if_pos c15] at H
         have c15b0 := eq_true c15
         have c15b1 : decide (0 ≤ a2) = true := decide_eq_true c15
         clear c15
         obtain ⟨ji16, hji16⟩ : ∃ j_ : Int, (shr .i64 (rd t301 a1) a2) = j_ := ⟨_, rfl⟩
         replace H : (minor_Contract.j0 k a1 a2 t301 ((Go.bits .and .i64 (ji16) 1) == 0)) = some (r1, r2) := by first | (rw [hji16] at H; exact H) | (simp only [hji16] at H ⊢; exact H)
         have hji16_ : ((rd t301 a1) / 2 ^ min a2.toNat 64) = ji16 := hji16
         have hji16z : a2 ≤ 64 → ((rd t301 a1) / 2 ^ a2.toNat) = ji16 := shr_small hji16
         have H' := Aside0.mk H
         clear H
         obtain ⟨Ao17, co17, eo17⟩ := Kd.V_slice HO303.out
         subst eo17
         have p305 : 0 ≤ (a1 : Int) := of_decide_eq_true (by first | (with_reducible assumption) | assumption)
         have q305 : a1 < (t301.length : Int) := of_decide_eq_true (by first | (with_reducible assumption) | assumption)
         obtain ⟨ad305, e305, hx305_0⟩ := Kd.at_int (Kd.V_reads' HO303.out).2.2 a1 p305 q305
         cases e305
         replace p305 := eq_true p305
         replace q305 := eq_true q305
         go_wp2
         go_meet
         case rel => exact ⟨_, (((Go.bits .and .i64 (ji16) 1) == 0)), (by first | rfl | (simp; done) | (simp only [← hji16] <;> (first | rfl | simp)) | (simp [*]; done)), H', ⟨by first | omega | exact Nat.le_refl _⟩, ⟨by (with_reducible repeat (first | apply Kd.V_alloc | apply Kd.V_drewN | apply Kd.V_drew)); exact HO303.out⟩, ⟨by repeat (first | (with_reducible first | exact HB.out | apply below_alloc | apply pw_below_drewN | apply below_drew1) | exact HB.out)⟩⟩
        ·rw [if_neg c15] at H
         exact absurd H (by simp)
       ·rw [if_neg c14] at H
        exact absurd H (by simp)
      ·rw [if_neg c13] at H
       exact absurd H (by simp)
  ·replace c7 := Bool.eq_false_iff.mpr c7
   subst c7
   have H1 : (minor_Contract.j0 k a1 a2 t301 true) = some (r1, r2) := by rw [if_neg (show ¬ (false = true) by decide)] at H; exact H
   clear H
   have H := H1
   clear H1
   have H' := Aside0.mk H
   clear H
   go_wp2
   go_meet
   case rel => exact ⟨_, (true), (by first | rfl | (simp; done) | (simp [*]; done)), H', ⟨by first | omega | exact Nat.le_refl _⟩, ⟨by (with_reducible repeat (first | apply Kd.V_alloc | apply Kd.V_drewN | apply Kd.V_drew)); exact HO303.out⟩, ⟨by repeat (first | (with_reducible first | exact HB.out | apply below_alloc | apply pw_below_drewN | apply below_drew1) | exact HB.out)⟩⟩
 case rest =>
  clear HC5
  try clear c1
  try clear p2
  try clear c3
  try clear p3
  try clear q3
  try clear hx3
  try clear c6
  try clear c7
  try clear c8
  try clear c8b0
  try clear c9
  try clear c9b0
  try clear c11
  try clear c11b0
  try clear c13
  try clear c13b0
  try clear c14
  try clear c14b0
  try clear c15
  try clear c15b0
  try clear c15b1
  try clear hx305_0
  try clear p305
  try clear q305
  obtain ⟨kq, x44_4, rfl, HA, HJ4, HO_8, HB⟩ := hcut
  cases kq with
  | zero => exact absurd HA.out (by simp [minor_Contract.j0])
  | succ kj4 =>
   have H := HA.out
   clear HA
   simp only [minor_Contract.j0] at H
   by_cases c18 : x44_4 = true
   ·subst c18
    have H1 : (some (([] : List Int), 2)) = some (r1, r2) := by rw [if_pos rfl] at H; exact H
    clear H
    have H := H1
    clear H1
    simp only [Option.some.injEq, Prod.mk.injEq] at H
    obtain ⟨rfl, rfl⟩ := H
    go_wp2
    go_ret2
    exact ⟨_, by first | rfl | (simp [errW_none, errW_some] <;> rfl) | (simp [*, errW_none, errW_some] <;> rfl), by first | exact Kd.R_nil _ _ _ _ _ | exact Kd.N_nil _ _ _ _ _ | exact Kd.V_nil _ _ _ _ _ | exact Kd.Q_nil _ _ _ _ _ | exact Kd.S_nil _ _ _ _ _, by repeat (first | (with_reducible first | exact HB.out | apply below_alloc | apply pw_below_drewN | apply below_drew1) | exact HB.out)⟩
   ·replace c18 := Bool.eq_false_iff.mpr c18
    subst c18
    have H1 : ((minor_town_int.f t301).bind fun t306 => (if 0 ≤ a2 then (if a2 < (t301.length : Int) then (if 0 ≤ a1 then ((minor_nodes.f kj4 (Go.bits .andNot .i64 (rd t301 a2) (shl .i64 1 a1))).bind fun t310 => (minor_Contract.l0 kj4 a1 a2 t306 t310 (t310.length : Int) 0)) else (none)) else (none)) else (none))) = some (r1, r2) := by rw [if_neg (show ¬ (false = true) by decide)] at H; exact H
    clear H
    have H := H1
    clear H1
    replace H := Option.bind_eq_some_iff.mp H
    obtain ⟨t306, A190, H⟩ := H
    replace H : (if 0 ≤ a2 then (if a2 < (t301.length : Int) then (if 0 ≤ a1 then ((minor_nodes.f kj4 (Go.bits .andNot .i64 (rd t301 a2) (shl .i64 1 a1))).bind fun t310 => (minor_Contract.l0 kj4 a1 a2 t306 t310 (t310.length : Int) 0)) else (none)) else (none)) else (none)) = some (r1, r2) := H
    have A19 := Aside0.mk A190
    clear A190
    by_cases c20 : 0 ≤ a2
    ·rw [if_pos c20] at H
     have c20b0 : decide (0 ≤ a2) = true := decide_eq_true c20
     clear c20
     by_cases c21 : a2 < (t301.length : Int)
     ·rw [if_pos c21] at H
      have c21b0 : decide (a2 < (t301.length : Int)) = true := decide_eq_true c21
      clear c21
      by_cases c22 : 0 ≤ a1
      ·rw [if_pos c22] at H
       have c22b0 := eq_true c22
       have c22b1 : decide (0 ≤ a1) = true := decide_eq_true c22
       clear c22
       obtain ⟨ji23, hji23⟩ : ∃ j_ : Int, (shl .i64 1 a1) = j_ := ⟨_, rfl⟩
       replace H : ((minor_nodes.f kj4 (Go.bits .andNot .i64 (rd t301 a2) (ji23))).bind fun t310 => (minor_Contract.l0 kj4 a1 a2 t306 t310 (t310.length : Int) 0)) = some (r1, r2) := by first | (rw [hji23] at H; exact H) | (simp only [hji23] at H ⊢; exact H)
       (try rw [hji23] at A19)
       have hji23_ : (IntKind.i64.wrap (1 * 2 ^ min a1.toNat 64)) = ji23 := hji23
       have hji23z : a1 ≤ 64 → (IntKind.i64.wrap (1 * 2 ^ a1.toNat)) = ji23 := shl_small hji23
       have hji23u : (IntKind.i64.wrap (2 ^ min a1.toNat 64)) = ji23 := by have h_ := hji23_; rw [Int.one_mul] at h_; exact h_
       have hji23v : a1 ≤ 64 → (IntKind.i64.wrap (2 ^ a1.toNat)) = ji23 := fun hle_ => by have h_ := hji23z hle_; rw [Int.one_mul] at h_; exact h_
       have hji23y : (wrap64 (1 * 2 ^ min a1.toNat 64)) = ji23 := (i64_w _).symm.trans hji23_
       have hji23x : a1 ≤ 64 → (wrap64 (1 * 2 ^ a1.toNat)) = ji23 := fun h_ => (i64_w _).symm.trans (hji23z h_)
       replace H := Option.bind_eq_some_iff.mp H
       obtain ⟨t310, A240, H⟩ := H
       replace H : (minor_Contract.l0 kj4 a1 a2 t306 t310 (t310.length : Int) 0) = some (r1, r2) := H
       have A24 := Aside0.mk A240
       clear A240
       have H' := Aside0.mk H
       clear H
       obtain ⟨Ao25, co25, eo25⟩ := Kd.V_slice HO_8.out
       subst eo25
       try go_wp2_with (first | ((with_reducible refine gate_callee (f := 77) rfl ?_); refine goesL_ (some 46) rfl rfl Tryd.func77 (by kernel_rfl) rfl #[.slice Ao25 t301.length co25] rfl (Qls) ?_; (with_reducible refine (minor_town_int.calls _ _ t301 t306 _ ?side1 ?side2 A19.out).mono ?_); (case side1 => exact Qsc (Kd.V_reads' HO_8.out).2.2); (case side2 => exact (Kd.V_reads' HO_8.out).2.1); rintro e w26 ⟨v307, rfl, ho0, hb⟩; refine ⟨_, rfl, ?_⟩; have n0_ := Aside0.mk (Kd.V_elder' (by (with_reducible repeat (first | apply Kd.V_alloc | apply Kd.V_drewN | apply Kd.V_drew)); exact HO_8.out) (Kd.R_base ho0) hb); have n1_ := Aside0.mk (Kd.R_lower ho0 (below_size (Qaw))); have n2_ := Aside0.mk (below_step (Qaw) hb); clear HO_8; clear HB; have HO_8 := n0_; have HO308 := n1_; have HB := n2_; clear n0_ n1_ n2_; (try clear hb); (try clear hb2); (try clear hk); (try clear hi); (try clear ho0)))
       have n0_ := Aside0.mk (Kd.V_drew HO_8.out)
       have n1_ := Aside0.mk (Kd.R_drew HO308.out)
       have n2_ := Aside0.mk (below_drew1 HB.out)
       clear HO_8
       clear HO308
       clear HB
       have HO_8 := n0_
       have HO308 := n1_
       have HB := n2_
       clear n0_ n1_ n2_
       have p309 : 0 ≤ (a2 : Int) := of_decide_eq_true (by first | (with_reducible assumption) | assumption)
       have q309 : a2 < (t301.length : Int) := of_decide_eq_true (by first | (with_reducible assumption) | assumption)
       obtain ⟨ad309, e309, hx309_0⟩ := Kd.at_int (Kd.V_reads' HO_8.out).2.2 a2 p309 q309
       cases e309
       replace p309 := eq_true p309
       replace q309 := eq_true q309
       refine start_ (n := 10) (S := fun w' => w'.cell? (ad309.add (a2).toNat) = some (.int .i64 (rd t301 a2))) (ds := []) (Qbz 10 0) (by kernel_rfl) rfl rfl (hx309_0) (fun hHeld => ?_); refine with_tabW minor_Contract.tab5 minor_Contract.bits5 (fun HT_ HW_ => ?_)
       generalize w26.drew = w27 at HO_8 HO308 HB hx309_0 hHeld ⊢
       refine pure_ (i := 0) (N := some 47) (v := ?_) (a' := ?_) (Qbz 10 1) rfl rfl (any_of HT_.out (by kernel_rfl)) (fun _ _ _ h => h) (Or.inl ⟨by rfl, ?_⟩) ?_ ?_
       rotate_left
       ·intro w'
        go_simp
        with_reducible rfl
       rotate_left
       ·simp only [Act.put, Qp1, Qp2, Qp3, i64_w, i32_w]
        rfl
       refine pure_ (i := 1) (N := some 48) (v := ?_) (a' := ?_) (Qbz 10 3) rfl rfl (any_of HT_.out (by kernel_rfl)) (fun _ _ _ h => h) (Or.inl ⟨by rfl, ?_⟩) ?_ ?_
       rotate_left
       ·intro w'
        go_simp
        with_reducible rfl
       rotate_left
       ·simp only [Act.put, Qp1, Qp2, Qp3, i64_w, i32_w]
        rfl
       refine pure_ (i := 2) (N := some 49) (v := ?_) (a' := ?_) (Qbz 10 7) rfl rfl (any_of HT_.out (by kernel_rfl)) (fun _ _ _ h => h) (Or.inl ⟨by rfl, ?_⟩) ?_ ?_
       rotate_left
       ·intro w'
        go_simp
        with_reducible rfl
       rotate_left
       ·simp only [Act.put, Qp1, Qp2, Qp3, i64_w, i32_w]
        rfl
       refine pure_ (i := 4) (N := some 51) (v := ?_) (a' := ?_) (Qbz 10 23) rfl rfl (any_of HT_.out (by kernel_rfl)) (fun _ _ _ h => h) (Or.inl ⟨by rfl, ?_⟩) ?_ ?_
       rotate_left
       ·intro w'
        go_simp
        with_reducible rfl
       rotate_left
       ·simp only [Act.put, Qp1, Qp2, Qp3, i64_w, i32_w]
        rfl
       refine pure_ (i := 5) (N := some 52) (v := ?_) (a' := ?_) (Qbz 10 55) rfl rfl (any_of HT_.out (by kernel_rfl)) (fun _ _ _ h => h) (Or.inl ⟨by rfl, ?_⟩) ?_ ?_
       rotate_left
       ·intro w'
        go_simp
        with_reducible rfl
       rotate_left
       ·simp only [Act.put, Qp1, Qp2, Qp3, i64_w, i32_w]
        rfl
       refine pure_ (i := 9) (N := some 56) (v := ?_) (a' := ?_) (Qbz 10 567) rfl rfl (any_of HT_.out (by kernel_rfl)) (fun _ _ _ h => h) (Or.inl ⟨by rfl, ?_⟩) ?_ ?_
       rotate_left
       ·intro w'
        go_simp
        with_reducible rfl
       rotate_left
       ·simp only [Act.put, Qp1, Qp2, Qp3, i64_w, i32_w]
        rfl
       refine take_ (i := 3) (N := some 50) (v := ?_) (a' := ?_) (Qbz 10 575) rfl rfl (take_ofW HT_.out HW_.out (by kernel_rfl)) (fun _ _ _ h => h) (Or.inl ⟨by rfl, ?_⟩) hHeld ?_ ?_
       rotate_left
       ·intro w' s0
        go_simp
        with_reducible rfl
       rotate_left
       ·simp only [Act.put, Qp1, Qp2, Qp3, i64_w, i32_w]
        rfl
       refine pure_ (i := 6) (N := some 53) (v := ?_) (a' := ?_) (Qbz 10 639) rfl rfl (any_of HT_.out (by kernel_rfl)) (fun _ _ _ h => h) (Or.inl ⟨by rfl, ?_⟩) ?_ ?_
       rotate_left
       ·intro w'
        go_simp
        with_reducible rfl
       rotate_left
       ·simp only [Act.put, Qp1, Qp2, Qp3, i64_w, i32_w]
        rfl
       refine one_ (i := 7) (N := some 54) (Qbz 10 767) rfl rfl (one_of HT_.out (by kernel_rfl)) (by decide) (fun K hK => ?_)
       refine goes_ Tryd.func69 (by kernel_rfl) rfl #[.int .i64 (Go.bits .andNot .i64 (rd t301 a2) (ji23))] (by rfl) rfl rfl (by (try simp only [List.map_toArray, List.map_cons, List.map_nil]); first | done | (simp only [hji23]; rfl) | rfl | (simp only [List.length_drop, List.length_take]; rfl)) ?_
       with_reducible refine (minor_nodes.calls (hGL := (Qlg)) kj4 (Go.bits .andNot .i64 (rd t301 a2) (ji23)) t310 _ A24.out).mono ?_
       rintro e w28 ⟨v311, rfl, ho0, hb⟩
       have HS0_ := (hb.cell (World.block_lt_of_cell? _ _ (hHeld))).trans (hHeld)
       refine ⟨_, rfl, ?_⟩
       have n0_ := Aside0.mk (Kd.V_elder' (by (with_reducible repeat (first | apply Kd.V_alloc | apply Kd.V_drewN | apply Kd.V_drew)); exact HO_8.out) (Kd.R_base ho0) hb)
       have n1_ := Aside0.mk (Kd.R_elder' (Qro HO308.out) (Kd.R_base ho0) hb)
       have n2_ := Aside0.mk (Kd.R_lower (Kd.R_new' ho0 (Kd.R_lt (Qro HO308.out))) (below_size (Qaw)))
       have n3_ := Aside0.mk (below_step (Qaw) hb)
       clear HO_8
       clear HO308
       clear HB
       have HO_8 := n0_
       have HO308 := n1_
       have HO312 := n2_
       have HB := n3_
       clear n0_ n1_ n2_ n3_
       (try clear hb)
       (try clear hb2)
       (try clear hk)
       (try clear hi)
       (try clear ho0)
       obtain ⟨Ao29, co29, eo29⟩ := Kd.R_slice HO312.out
       (first | subst eo29 | (injection eo29 with f1_ f2_ f3_; have f4_ := f1_.symm; have f5_ := f3_.symm; clear f1_ f2_ f3_; subst f4_; subst f5_))
       refine hK.out _ _ (HS0_) (fun hHeld => ?_)
       clear hK K
       refine norm_ (a' := ?_) ?_ ?_
       rotate_left
       ·show Act.put _ (some 54) _ = _
        simp only [Act.put, Qp1, Qp2, Qp3, i64_w, i32_w]
        rfl
       refine pure_ (i := 8) (N := some 55) (v := ?_) (a' := ?_) (Qbz 10 1023) rfl rfl (any_of HT_.out (by kernel_rfl)) (fun _ _ _ h => h) (Or.inl ⟨by rfl, ?_⟩) ?_ ?_
       rotate_left
       ·intro w'
        go_simp
        with_reducible rfl
       rotate_left
       ·simp only [Act.put, Qp1, Qp2, Qp3, i64_w, i32_w]
        rfl
       refine done_ (done_of HT_.out (by kernel_rfl)) ?_
       try go_wp2
       go_loopg [56] kj4 (fun kq v56 w' => ∃ (x10_2 : List Int) (x56_2 : Int), v56 = .int .i64 x56_2 ∧ Aside0 (minor_Contract.l0 kq a1 a2 x10_2 t310 (t310.length : Int) x56_2 = some (r1, r2)) ∧ Aside0 (kq ≤ kj4) ∧ Aside0 (Kd.R (Kd.int .i64) 3 w' w.heap.size (fun k_ => some k_ ≠ ((.slice Ao29 t310.length co29) : Value).ownBlock) v307 x10_2) ∧ Aside0 (Kd.R (Kd.int .i64) 3 w' w.heap.size (fun k_ => some k_ ≠ (v307 : Value).ownBlock) (.slice Ao29 t310.length co29) t310) ∧ Aside0 (Below w.heap.size w w'))
       case atStart => exact ⟨(t306), (0), (by first | rfl | (simp; done) | (simp [*]; done)), H', ⟨Nat.le_refl _⟩, ⟨by (with_reducible repeat (first | apply Kd.R_alloc | apply Kd.R_drewN | apply Kd.R_drew)); exact Kd.R_mono HO308.out (fun _ hk => hk.2)⟩, ⟨by (with_reducible repeat (first | apply Kd.R_alloc | apply Kd.R_drewN | apply Kd.R_drew)); exact Kd.R_mono HO312.out (fun _ hk => hk.2)⟩, ⟨by repeat (first | (with_reducible first | exact HB.out | apply below_alloc | apply pw_below_drewN | apply below_drew1) | exact HB.out)⟩⟩
       case round =>
        clear H'
        try clear c1
        try clear c2
        try clear p2
        try clear c3
        try clear p3
        try clear q3
        try clear hx3
        try clear c6
        try clear p6
        try clear c7
        try clear c8
        try clear c8b0
        try clear c9
        try clear c9b0
        try clear c11
        try clear c11b0
        try clear c13
        try clear c13b0
        try clear c14
        try clear c14b0
        try clear c15
        try clear c15b0
        try clear c15b1
        try clear c18
        try clear c20
        try clear c20b0
        try clear c21
        try clear c21b0
        try clear c22
        try clear c22b0
        try clear c22b1
        try clear hx305_0
        try clear hx309_0
        try clear p2
        try clear p3
        try clear p305
        try clear p309
        try clear q3
        try clear q305
        try clear q309
        obtain ⟨x10_2, x56_2, rfl, HA, HK2, HO_10, HO_54, HB⟩ := hrel
        cases gk with
        | zero => exact absurd HA.out (by simp [minor_Contract.l0])
        | succ k2 =>
         have H := HA.out
         clear HA
         simp only [minor_Contract.l0] at H
         by_cases c30 : x56_2 < (t310.length : Int)
         ·rw [if_pos c30] at H
          have c30b0 : decide (x56_2 < (t310.length : Int)) = true := decide_eq_true c30
          clear c30
          by_cases c31 : 0 ≤ x56_2
          ·rw [if_pos c31] at H
           have c31b0 : decide (0 ≤ x56_2) = true := decide_eq_true c31
           clear c31
           by_cases c32 : x56_2 < (t310.length : Int)
           ·rw [if_pos c32] at H
            have c32b0 : decide (x56_2 < (t310.length : Int)) = true := decide_eq_true c32
            clear c32
            replace H := Option.bind_eq_some_iff.mp H
            obtain ⟨t314, A330, H⟩ := H
            replace H : (minor_Contract.l0 k2 a1 a2 t314 t310 (t310.length : Int) (wrap64 (x56_2 + 1))) = some (r1, r2) := H
            have A33 := Aside0.mk A330
            clear A330
            have H' := Aside0.mk H
            clear H
            have p313 : 0 ≤ (x56_2 : Int) := of_decide_eq_true (by first | (with_reducible assumption) | assumption)
            have q313 : x56_2 < (t310.length : Int) := of_decide_eq_true (by first | (with_reducible assumption) | assumption)
            obtain ⟨ad313, e313, hx313_0⟩ := Kd.at_int (Kd.R_reads' HO_54.out).2.2 x56_2 p313 q313
            cases e313
            replace p313 := eq_true p313
            replace q313 := eq_true q313
            obtain ⟨Ao34, co34, eo34⟩ := Kd.R_slice HO_10.out
            subst eo34
            go_wp2_with (first | ((with_reducible refine gate_callee (f := 62) rfl ?_); refine goesL_ (some 63) rfl rfl Tryd.func62 (by kernel_rfl) rfl #[.slice Ao34 x10_2.length co34, .int .i64 a1, .int .i64 (rd t310 x56_2)] rfl (Qls) ?_; (with_reducible refine (minor_town_join.calls (fun k_ => some k_ = (.slice Ao34 x10_2.length co34 : Value).ownBlock) (.slice Ao34 x10_2.length co34) x10_2 a1 (rd t310 x56_2) t314 w _ ?side1 ?side2 A33.out).mono ?_); (case side1 => repeat (first | (with_reducible first | exact HB.out | apply below_alloc | apply pw_below_drewN | apply below_drew1) | exact HB.out)); (case side2 => exact Kd.R_tight rfl HO_10.out); rintro e w35 ⟨rfl, hy0, hb, hkp⟩; refine ⟨_, rfl, ?_⟩; have n0_ := Aside0.mk (Kd.R_reok rfl hy0 (fun k_ e_ => HO_10.out.1 k_ e_)); have n1_ := Aside0.mk (Kd.R_mono (ok' := fun k_ => some k_ ≠ (.slice Ao34 x10_2.length co34 : Value).ownBlock) (Kd.R_keptB (HO_54.out) hkp (fun k_ hk_ hs_ => (hk_) hs_)) (fun k_ hk_ => hk_.1)); have n2_ := Aside0.mk (hb); clear HO_10; clear HO_54; clear HB; have HO_10 := n0_; have HO_54 := n1_; have HB := n2_; clear n0_ n1_ n2_; (try clear hb); (try clear hkp); (try clear hy0)))
            go_roundg k2
            case measure => have := HJ4.out; have := HK2.out; omega
            case rel => exact ⟨(t314), (wrap64 (x56_2 + 1)), (by first | rfl | (simp; done) | (simp [*]; done)), H', ⟨by have := HJ4.out; have := HK2.out; omega⟩, ⟨by (with_reducible repeat (first | apply Kd.R_alloc | apply Kd.R_drewN | apply Kd.R_drew)); exact HO_10.out⟩, ⟨by (with_reducible repeat (first | apply Kd.R_alloc | apply Kd.R_drewN | apply Kd.R_drew)); exact HO_54.out⟩, ⟨by repeat (first | (with_reducible first | exact HB.out | apply below_alloc | apply pw_below_drewN | apply below_drew1) | exact HB.out)⟩⟩
           ·rw [if_neg c32] at H
            exact absurd H (by simp)
          ·rw [if_neg c31] at H
           exact absurd H (by simp)
         ·rw [if_neg c30] at H
          have c30b0 : decide (x56_2 < (t310.length : Int)) = false := decide_eq_false c30
          clear c30
          replace H := Option.bind_eq_some_iff.mp H
          obtain ⟨t315, A360, H⟩ := H
          replace H : (some (t315, 0)) = some (r1, r2) := H
          have A36 := Aside0.mk A360
          clear A360
          simp only [Option.some.injEq, Prod.mk.injEq] at H
          obtain ⟨rfl, rfl⟩ := H
          obtain ⟨Ao37, co37, eo37⟩ := Kd.R_slice HO_10.out
          subst eo37
          go_wp2_with (first | ((with_reducible refine gate_callee (f := 76) rfl ?_); refine goesL_ (some 67) rfl rfl Tryd.func76 (by kernel_rfl) rfl #[.slice Ao37 x10_2.length co37, .int .i64 a2] rfl (Qls) ?_; (with_reducible refine (minor_town_without.calls k2 _ _ x10_2 a2 t315 _ ?side1 ?side2 A36.out).mono ?_); (case side1 => exact Qsc (Kd.R_reads' HO_10.out).2.2); (case side2 => exact (Kd.R_reads' HO_10.out).2.1); rintro e w38 ⟨v316, rfl, ho0, hb⟩; refine ⟨_, rfl, ?_⟩; have n0_ := Aside0.mk (Kd.R_elder' (Qro HO_10.out) (Kd.R_base ho0) hb); have n1_ := Aside0.mk (Kd.R_elder' (Qro HO_54.out) (Kd.R_base ho0) hb); have n2_ := Aside0.mk (Kd.R_lower (Kd.R_new' (Kd.R_new' ho0 (Kd.R_lt (Qro HO_10.out))) (Kd.R_lt (Qro HO_54.out))) (below_size (Qaw))); have n3_ := Aside0.mk (below_step (Qaw) hb); clear HO_10; clear HO_54; clear HB; have HO_10 := n0_; have HO_54 := n1_; have HO317 := n2_; have HB := n3_; clear n0_ n1_ n2_ n3_; (try clear hb); (try clear hb2); (try clear hk); (try clear hi); (try clear ho0)))
          go_ret2
          exact ⟨_, by first | rfl | (simp [errW_none, errW_some] <;> rfl) | (simp only [← hji23]; first | rfl | (simp [errW_none, errW_some] <;> rfl)) | (simp [*, errW_none, errW_some] <;> rfl), by (with_reducible repeat (first | apply Kd.R_alloc | apply Kd.R_drewN | apply Kd.R_drew)); exact Kd.R_mono HO317.out (fun _ hk => trivial), by repeat (first | (with_reducible first | exact HB.out | apply below_alloc | apply pw_below_drewN | apply below_drew1) | exact HB.out)⟩
      ·rw [if_neg c22] at H
       exact absurd H (by simp)
     ·rw [if_neg c21] at H
      exact absurd H (by simp)
    ·rw [if_neg c20] at H
     exact absurd H (by simp)
end Go.Proofs.YtjloppfdagfpmaaDoor.X
end
section
namespace Go.Proofs.YtjloppfdagfpmaaDoor.X
open Go.RowKit YtjloppfdagfpmaaDoorW.PrintWords YtjloppfdagfpmaaDoorW.PrintLast YtjloppfdagfpmaaDoorW.PrintMore
attribute [local go_sem] max2_int min2_int max_two min_two max_three min_three max_four min_four
/-! ### minor_Delete: function 35 -/
def minor_Delete.f (k : Nat) (l0 : List Int) (a1 : Int) : Option (List Int × Int) := (minor_read.f k l0 8).bind fun bt288 => (if bt288.2 = true then (if (bt288.1.length : Int) < 2 then (some (([] : List Int), 2)) else (if a1 < 0 then (some (([] : List Int), 2)) else (if a1 ≥ (bt288.1.length : Int) then (some (([] : List Int), 2)) else ((minor_town_without.f k bt288.1 a1).bind fun t292 => (some (t292, 0)))))) else (some (([] : List Int), 2)))
set_option maxHeartbeats 8000000 in
set_option maxRecDepth 100000 in
theorem minor_Delete.calls (k : Nat) (A0 : Option Addr) (c0 : Nat) (l0 : List Int) (a1 : Int) (r1 : List Int) (r2 : Int) (w : World) (hr0 : Kd.C (Kd.int .i64) w A0 l0.length l0) (hc0 : l0.length ≤ c0) (h : minor_Delete.f k l0 a1 = some (r1, r2)) :
  Calls Tryd.prog 35 #[.slice A0 l0.length c0, .int .i64 a1] w fun e w' => ∃ v0_ : Value, e = .returned (.tuple #[v0_, .int .i64 r2]) ∧ Kd.R (Kd.int .i64) 3 w' w.heap.size (fun _ => True) v0_ r1 ∧ Below w.heap.size w w' := by
 have HR0 := Aside0.mk hr0
 have HC0 := Aside0.mk hc0
 clear hr0 hc0
 have HB := Aside0.mk (Below.refl w.heap.size w)
 have H : ((minor_read.f k l0 8).bind fun bt288 => (if bt288.2 = true then (if (bt288.1.length : Int) < 2 then (some (([] : List Int), 2)) else (if a1 < 0 then (some (([] : List Int), 2)) else (if a1 ≥ (bt288.1.length : Int) then (some (([] : List Int), 2)) else ((minor_town_without.f k bt288.1 a1).bind fun t292 => (some (t292, 0)))))) else (some (([] : List Int), 2)))) = some (r1, r2) := h
 clear h
 replace H := Option.bind_eq_some_iff.mp H
 obtain ⟨⟨t288, t291⟩, A30, H⟩ := H
 replace H : (if t291 = true then (if (t288.length : Int) < 2 then (some (([] : List Int), 2)) else (if a1 < 0 then (some (([] : List Int), 2)) else (if a1 ≥ (t288.length : Int) then (some (([] : List Int), 2)) else ((minor_town_without.f k t288 a1).bind fun t292 => (some (t292, 0)))))) else (some (([] : List Int), 2))) = some (r1, r2) := H
 have A3 := Aside0.mk A30
 clear A30
 by_cases c4 : t291 = true
 ·subst c4
  have H1 : (if (t288.length : Int) < 2 then (some (([] : List Int), 2)) else (if a1 < 0 then (some (([] : List Int), 2)) else (if a1 ≥ (t288.length : Int) then (some (([] : List Int), 2)) else ((minor_town_without.f k t288 a1).bind fun t292 => (some (t292, 0)))))) = some (r1, r2) := by rw [if_pos rfl] at H; exact H
  clear H
  have H := H1
  clear H1
  by_cases c5 : (t288.length : Int) < 2
  ·rw [if_pos c5] at H
   have c5b0 : decide ((t288.length : Int) < 2) = true := decide_eq_true c5
   have c5b1 : decide (t288.length < 2) = true := decide_eq_true (by omega)
   clear c5
   simp only [Option.some.injEq, Prod.mk.injEq] at H
   obtain ⟨rfl, rfl⟩ := H
   go_enter Tryd.func35, Tryd.ntmps35
   go_wp2_with (first | ((with_reducible refine gate_callee (f := 63) rfl ?_); refine goesL_ (some 10) rfl rfl Tryd.func63 (by kernel_rfl) rfl #[.slice A0 l0.length c0, .int .i64 8] rfl (Qls) ?_; (with_reducible refine (minor_read.calls k (fun k_ => k_ < w.heap.size) _ _ l0 8 t288 true _ ?side1 A3.out).mono ?_); (case side1 => exact Kd.V_mk HC0.out (Kd.F_below (Kd.C_F (Kd.heap_int .i64) HR0.out) (Qaw))); rintro e w6 ⟨v289, rfl, ho0, hb⟩; refine ⟨_, rfl, ?_⟩; have n0_ := Aside0.mk (Kd.V_lower (Kd.V_mono (ok' := fun k_ => True) ho0 (fun k_ hk_ => trivial)) (below_size (Qaw))); have n1_ := Aside0.mk (below_step (Qaw) hb); clear HB; have HO290 := n0_; have HB := n1_; clear n0_ n1_; (try clear hb); (try clear hb2); (try clear hk); (try clear hi); (try clear ho0); obtain ⟨Ao7, co7, eo7⟩ := Kd.V_slice HO290.out; subst eo7))
   go_ret2
   exact ⟨_, by first | rfl | (simp [errW_none, errW_some] <;> rfl) | (simp [*, errW_none, errW_some] <;> rfl), by first | exact Kd.R_nil _ _ _ _ _ | exact Kd.N_nil _ _ _ _ _ | exact Kd.V_nil _ _ _ _ _ | exact Kd.Q_nil _ _ _ _ _ | exact Kd.S_nil _ _ _ _ _, by repeat (first | (with_reducible first | exact HB.out | apply below_alloc | apply pw_below_drewN | apply below_drew1) | exact HB.out)⟩
  ·rw [if_neg c5] at H
   have c5b0 : decide ((t288.length : Int) < 2) = false := decide_eq_false c5
   have c5b1 : decide (t288.length < 2) = false := decide_eq_false (by omega)
   clear c5
   by_cases c8 : a1 < 0
   ·rw [if_pos c8] at H
    have c8b0 : decide (a1 < 0) = true := decide_eq_true c8
    clear c8
    simp only [Option.some.injEq, Prod.mk.injEq] at H
    obtain ⟨rfl, rfl⟩ := H
    go_enter Tryd.func35, Tryd.ntmps35
    go_wp2_with (first | ((with_reducible refine gate_callee (f := 63) rfl ?_); refine goesL_ (some 10) rfl rfl Tryd.func63 (by kernel_rfl) rfl #[.slice A0 l0.length c0, .int .i64 8] rfl (Qls) ?_; (with_reducible refine (minor_read.calls k (fun k_ => k_ < w.heap.size) _ _ l0 8 t288 true _ ?side1 A3.out).mono ?_); (case side1 => exact Kd.V_mk HC0.out (Kd.F_below (Kd.C_F (Kd.heap_int .i64) HR0.out) (Qaw))); rintro e w9 ⟨v289, rfl, ho0, hb⟩; refine ⟨_, rfl, ?_⟩; have n0_ := Aside0.mk (Kd.V_lower (Kd.V_mono (ok' := fun k_ => True) ho0 (fun k_ hk_ => trivial)) (below_size (Qaw))); have n1_ := Aside0.mk (below_step (Qaw) hb); clear HB; have HO290 := n0_; have HB := n1_; clear n0_ n1_; (try clear hb); (try clear hb2); (try clear hk); (try clear hi); (try clear ho0); obtain ⟨Ao10, co10, eo10⟩ := Kd.V_slice HO290.out; subst eo10))
    go_ret2
    exact ⟨_, by first | rfl | (simp [errW_none, errW_some] <;> rfl) | (simp [*, errW_none, errW_some] <;> rfl), by first | exact Kd.R_nil _ _ _ _ _ | exact Kd.N_nil _ _ _ _ _ | exact Kd.V_nil _ _ _ _ _ | exact Kd.Q_nil _ _ _ _ _ | exact Kd.S_nil _ _ _ _ _, by repeat (first | (with_reducible first | exact HB.out | apply below_alloc | apply pw_below_drewN | apply below_drew1) | exact HB.out)⟩
   ·rw [if_neg c8] at H
    have c8b0 : decide (a1 < 0) = false := decide_eq_false c8
    clear c8
    by_cases c11 : a1 ≥ (t288.length : Int)
    ·rw [if_pos c11] at H
     have c11b0 : decide ((t288.length : Int) ≤ a1) = true := decide_eq_true c11
     clear c11
     simp only [Option.some.injEq, Prod.mk.injEq] at H
     obtain ⟨rfl, rfl⟩ := H
     go_enter Tryd.func35, Tryd.ntmps35
     go_wp2_with (first | ((with_reducible refine gate_callee (f := 63) rfl ?_); refine goesL_ (some 10) rfl rfl Tryd.func63 (by kernel_rfl) rfl #[.slice A0 l0.length c0, .int .i64 8] rfl (Qls) ?_; (with_reducible refine (minor_read.calls k (fun k_ => k_ < w.heap.size) _ _ l0 8 t288 true _ ?side1 A3.out).mono ?_); (case side1 => exact Kd.V_mk HC0.out (Kd.F_below (Kd.C_F (Kd.heap_int .i64) HR0.out) (Qaw))); rintro e w12 ⟨v289, rfl, ho0, hb⟩; refine ⟨_, rfl, ?_⟩; have n0_ := Aside0.mk (Kd.V_lower (Kd.V_mono (ok' := fun k_ => True) ho0 (fun k_ hk_ => trivial)) (below_size (Qaw))); have n1_ := Aside0.mk (below_step (Qaw) hb); clear HB; have HO290 := n0_; have HB := n1_; clear n0_ n1_; (try clear hb); (try clear hb2); (try clear hk); (try clear hi); (try clear ho0); obtain ⟨Ao13, co13, eo13⟩ := Kd.V_slice HO290.out; subst eo13))
     go_ret2
     exact ⟨_, by first | rfl | (simp [errW_none, errW_some] <;> rfl) | (simp [*, errW_none, errW_some] <;> rfl), by first | exact Kd.R_nil _ _ _ _ _ | exact Kd.N_nil _ _ _ _ _ | exact Kd.V_nil _ _ _ _ _ | exact Kd.Q_nil _ _ _ _ _ | exact Kd.S_nil _ _ _ _ _, by repeat (first | (with_reducible first | exact HB.out | apply below_alloc | apply pw_below_drewN | apply below_drew1) | exact HB.out)⟩
    ·rw [if_neg c11] at H
     have c11b0 : decide ((t288.length : Int) ≤ a1) = false := decide_eq_false c11
     clear c11
     replace H := Option.bind_eq_some_iff.mp H
     obtain ⟨t292, A140, H⟩ := H
     replace H : (some (t292, 0)) = some (r1, r2) := H
     have A14 := Aside0.mk A140
     clear A140
     simp only [Option.some.injEq, Prod.mk.injEq] at H
     obtain ⟨rfl, rfl⟩ := H
     go_enter Tryd.func35, Tryd.ntmps35
     go_wp2_with (first | ((with_reducible refine gate_callee (f := 63) rfl ?_); refine goesL_ (some 10) rfl rfl Tryd.func63 (by kernel_rfl) rfl #[.slice A0 l0.length c0, .int .i64 8] rfl (Qls) ?_; (with_reducible refine (minor_read.calls k (fun k_ => k_ < w.heap.size) _ _ l0 8 t288 true _ ?side1 A3.out).mono ?_); (case side1 => exact Kd.V_mk HC0.out (Kd.F_below (Kd.C_F (Kd.heap_int .i64) HR0.out) (Qaw))); rintro e w15 ⟨v289, rfl, ho0, hb⟩; refine ⟨_, rfl, ?_⟩; have n0_ := Aside0.mk (Kd.V_lower (Kd.V_mono (ok' := fun k_ => True) ho0 (fun k_ hk_ => trivial)) (below_size (Qaw))); have n1_ := Aside0.mk (below_step (Qaw) hb); clear HB; have HO290 := n0_; have HB := n1_; clear n0_ n1_; (try clear hb); (try clear hb2); (try clear hk); (try clear hi); (try clear ho0); obtain ⟨Ao16, co16, eo16⟩ := Kd.V_slice HO290.out; subst eo16) | ((with_reducible refine gate_callee (f := 76) rfl ?_); refine goesL_ (some 32) rfl rfl Tryd.func76 (by kernel_rfl) rfl #[.slice Ao16 t288.length co16, .int .i64 a1] rfl (Qls) ?_; (with_reducible refine (minor_town_without.calls k _ _ t288 a1 t292 _ ?side1 ?side2 A14.out).mono ?_); (case side1 => exact Qsc (Kd.V_reads' HO290.out).2.2); (case side2 => exact (Kd.V_reads' HO290.out).2.1); rintro e w17 ⟨v293, rfl, ho0, hb⟩; refine ⟨_, rfl, ?_⟩; have n0_ := Aside0.mk (Kd.V_elder' (by (with_reducible repeat (first | apply Kd.V_alloc | apply Kd.V_drewN | apply Kd.V_drew)); exact HO290.out) (Kd.R_base ho0) hb); have n1_ := Aside0.mk (Kd.R_lower ho0 (below_size (Qaw))); have n2_ := Aside0.mk (below_step (Qaw) hb); clear HO290; clear HB; have HO290 := n0_; have HO294 := n1_; have HB := n2_; clear n0_ n1_ n2_; (try clear hb); (try clear hb2); (try clear hk); (try clear hi); (try clear ho0)))
     go_ret2
     exact ⟨_, by first | rfl | (simp [errW_none, errW_some] <;> rfl) | (simp [*, errW_none, errW_some] <;> rfl), by (with_reducible repeat (first | apply Kd.R_alloc | apply Kd.R_drewN | apply Kd.R_drew)); exact HO294.out, by repeat (first | (with_reducible first | exact HB.out | apply below_alloc | apply pw_below_drewN | apply below_drew1) | exact HB.out)⟩
 ·replace c4 := Bool.eq_false_iff.mpr c4
  subst c4
  have H1 : (some (([] : List Int), 2)) = some (r1, r2) := by rw [if_neg (show ¬ (false = true) by decide)] at H; exact H
  clear H
  have H := H1
  clear H1
  simp only [Option.some.injEq, Prod.mk.injEq] at H
  obtain ⟨rfl, rfl⟩ := H
  go_enter Tryd.func35, Tryd.ntmps35
  go_wp2_with (first | ((with_reducible refine gate_callee (f := 63) rfl ?_); refine goesL_ (some 10) rfl rfl Tryd.func63 (by kernel_rfl) rfl #[.slice A0 l0.length c0, .int .i64 8] rfl (Qls) ?_; (with_reducible refine (minor_read.calls k (fun k_ => k_ < w.heap.size) _ _ l0 8 t288 false _ ?side1 A3.out).mono ?_); (case side1 => exact Kd.V_mk HC0.out (Kd.F_below (Kd.C_F (Kd.heap_int .i64) HR0.out) (Qaw))); rintro e w18 ⟨v289, rfl, ho0, hb⟩; refine ⟨_, rfl, ?_⟩; have n0_ := Aside0.mk (Kd.V_lower (Kd.V_mono (ok' := fun k_ => True) ho0 (fun k_ hk_ => trivial)) (below_size (Qaw))); have n1_ := Aside0.mk (below_step (Qaw) hb); clear HB; have HO290 := n0_; have HB := n1_; clear n0_ n1_; (try clear hb); (try clear hb2); (try clear hk); (try clear hi); (try clear ho0)))
  go_ret2
  exact ⟨_, by first | rfl | (simp [errW_none, errW_some] <;> rfl) | (simp [*, errW_none, errW_some] <;> rfl), by first | exact Kd.R_nil _ _ _ _ _ | exact Kd.N_nil _ _ _ _ _ | exact Kd.V_nil _ _ _ _ _ | exact Kd.Q_nil _ _ _ _ _ | exact Kd.S_nil _ _ _ _ _, by repeat (first | (with_reducible first | exact HB.out | apply below_alloc | apply pw_below_drewN | apply below_drew1) | exact HB.out)⟩
end Go.Proofs.YtjloppfdagfpmaaDoor.X
end
