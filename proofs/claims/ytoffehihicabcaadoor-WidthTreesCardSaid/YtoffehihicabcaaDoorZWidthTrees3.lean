/- Part 3 of what WidthTrees rests on: contracts of the functions that it reaches, and what they compute, in plain words. -/
import Derived.Test.YtoffehihicabcaaDoorZWidthTrees1
import Derived.Test.YtoffehihicabcaaDoorZWidthTrees2
import Derived.Test.YtoffehihicabcaaDoorZWidthTrees0
import Derived.Laws.EntriesVeiled
import Derived.WalkSpells
import Derived.Carry
set_option linter.unusedVariables false
set_option linter.unusedSimpArgs false
section
namespace Go.Proofs.YtoffehihicabcaaDoor.X
open Go.RowKit YtoffehihicabcaaDoorW.PrintWords YtoffehihicabcaaDoorW.PrintLast YtoffehihicabcaaDoorW.PrintMore YtoffehihicabcaaDoor.T
attribute [local go_sem] max2_int min2_int max_two min_two max_three min_three max_four min_four run_makeMap
theorem smallO {G : List Nat} (h : G.length ≤ 9) {x : Nat} (hx : x < 2 ^ G.length) : x < 512 := Nat.lt_of_lt_of_le hx (show 2 ^ G.length ≤ 2 ^ 9 from Nat.pow_le_pow_right (by omega) h)
theorem degree_callsO {G : List Nat} (hG : Gr 9 G) {gone v : Nat} (hg : gone < 2 ^ G.length) (hv : v < G.length) (Ag : Option Addr) (cg : Nat) (hcg : G.length ≤ cg) (w : World) (hGL : GL w) (h1 : Kd.C (Kd.int .i64) w Ag (gi G).length (gi G)) :
  Calls Tryd.prog 75 #[.slice Ag G.length cg, .int .i64 (v : Int), .int .i64 (gone : Int)] w fun e w' => e = .returned (.int .i64 ((dg G gone v : Nat) : Int)) ∧ Below w.heap.size w w' := by
 obtain ⟨K, hK⟩ := degree_ev G hG gone v hg hv
 have := width_town_degree.calls K Ag cg (gi G) (v : Int) (gone : Int) _ w hGL h1 (by rw [gi_length]; exact hcg) (hK K (Nat.le_refl _))
 rw [gi_length] at this
 exact this
theorem all_callsO {G : List Nat} (hG : Gr 9 G) (Ag : Option Addr) (cg : Nat) (hcg : G.length ≤ cg) (w : World) (h1 : Kd.C (Kd.int .i64) w Ag (gi G).length (gi G)) :
  Calls Tryd.prog 67 #[.slice Ag G.length cg] w fun e w' => e = .returned (.int .i64 ((2 ^ G.length - 1 : Nat) : Int)) ∧ Below w.heap.size w w' := by
 have := width_town_all.calls Ag cg (gi G) _ w h1 (by rw [gi_length]; exact hcg) (all_eq G hG.most)
 rw [gi_length] at this
 exact this.mono fun e w' h => ⟨h.1, h.2.below⟩
theorem nodes_callsO {x : Nat} (hx : x < 512) (mB : Nat) (w : World) (hmB : mB < w.heap.size) (hGL : GL w) :
  Calls Tryd.prog 98 #[.int .i64 (x : Int)] w fun e w' => ∃ A c, e = .returned (.slice A (els x 9).length c) ∧ (els x 9).length ≤ c ∧ (∀ V, w'.grownBy V (some mB) → Kd.C (Kd.int .i64) V A (els x 9).length (gi (els x 9))) ∧ Below w.heap.size w w' := by
 obtain ⟨K, hK⟩ := nodes_ev x hx
 refine (width_nodes.calls K (x : Int) _ w hGL (hK K (Nat.le_refl _))).mono ?_
 rintro e w' ⟨u, rfl, hu, hb⟩
 obtain ⟨A, c, eu, hc, hC⟩ := Kd.R_reads hu
 subst eu
 rw [gi_length] at hu
 refine ⟨A, c, by rw [gi_length], by rw [gi_length] at hc; exact hc, fun V hV => ?_, hb⟩
 have hs2 := hb.size
 have h3 := Kd.R_step (w1 := V) (Kd.R_bound hu) (fun k hk hk2 => hV.block k hk2 (fun e => by have := hk.2.1; have e2 := Option.some.inj e; omega))
 obtain ⟨A2, c2, e2, _, hC2⟩ := Kd.R_reads h3
 injection e2 with e3 e4 e5
 rw [gi_length] at hC2
 rw [e3]; exact hC2
section
variable (tB kB bB cB mB : Nat)
def canV : Value := .func (.func 97) #[] #[.pointer (some ⟨tB, 0, none⟩), .pointer (some ⟨kB, 0, none⟩), .pointer (some ⟨bB, 0, none⟩), .pointer (some ⟨cB, 0, none⟩)]
end
set_option maxHeartbeats 4000000 in
theorem index_can (tB gB bB cB mB N : Nat) (f : Nat → Bool) (W0 : World) (A : Option Addr) (c : Nat) (l : List Int) (p : Int → Bool) (w : World) (hk : KM W0 w mB N f) (hx : ∀ V, w.grownBy V (some mB) → Kd.C (Kd.int .i64) V A l.length l) (hl : l.length ≤ 1000)
  (hp : ∀ W, KM W0 W mB N f → w.grownBy W (some mB) → ∀ x ∈ l, Calls Tryd.prog 99 #[.int .i64 x, .pointer (some ⟨tB, 0, none⟩), .pointer (some ⟨gB, 0, none⟩), .pointer (some ⟨bB, 0, none⟩), .pointer (some ⟨cB, 0, none⟩)] W fun e w' => e = .returned (.bool (p x)) ∧ KM W0 w' mB N f ∧ W.grownBy w' (some mB)) :
  Calls Tryd.prog 84 #[.slice A l.length c, .func (.func 99) #[] #[.pointer (some ⟨tB, 0, none⟩), .pointer (some ⟨gB, 0, none⟩), .pointer (some ⟨bB, 0, none⟩), .pointer (some ⟨cB, 0, none⟩)]] w fun e w' => ∃ z, e = .returned (.int .i64 z) ∧ decide (z ≥ 0) = l.any p ∧ KM W0 w' mB N f ∧ w.grownBy w' (some mB) := by
 have HX := Aside0.mk hx
 have HP := Aside0.mk hp
 have HK := Aside0.mk hk
 clear hx hp hk
 go_enter Tryd.func84, Tryd.ntmps84
 go_wp2
 go_loopg [8] l.length (fun kq v8 w' => ∃ i : Nat, v8 = .int .i64 (i : Int) ∧ i + kq = l.length ∧ Aside0 ((l.drop i).any p = l.any p) ∧ Aside0 (KM W0 w' mB N f ∧ w.grownBy w' (some mB)))
 case atStart => exact ⟨0, rfl, by omega, ⟨rfl⟩, ⟨HK.out, World.grownBy.refl _ _⟩⟩
 case round =>
  obtain ⟨i, rfl, hi, HA, HB⟩ := hrel
  by_cases hil : i < l.length
  ·have hi1 : ((i : Int) < (l.length : Int)) = True := eq_true (by omega)
   have hi2 : decide ((i : Int) < (l.length : Int)) = true := decide_eq_true (by omega)
   cases gk with
   | zero => omega
   | succ gi' =>
   obtain ⟨ad, e1, hgx⟩ := Kd.at_int (HX.out _ HB.out.2) (i : Int) (by omega) (by omega)
   subst e1
   have hra : rd l (i : Int) = l[i] := by unfold rd; rw [Int.toNat_natCast, List.getD_eq_getElem?_getD, List.getElem?_eq_getElem hil]; rfl
   rw [hra, Int.toNat_natCast] at hgx
   have hm : l[i] ∈ l := List.getElem_mem hil
   have ha := HA.out
   rw [List.drop_eq_getElem_cons hil, List.any_cons] at ha
   have HC := Aside0.mk (HP.out wr HB.out.1 HB.out.2 _ hm)
   generalize l[i] = x at *
   clear hra HA
   cases hpx : p x
   ·rw [hpx] at HC ha
    have HA2 : Aside0 ((l.drop (i + 1)).any p = l.any p) := ⟨by simpa using ha⟩
    clear ha hpx hm
    go_wp2_with (go_at_call 99; refine HC.out.mono ?_; rintro e w3 ⟨rfl, hk3, hb3⟩; have HK3 := Aside0.mk hk3; have HB3 := Aside0.mk hb3; clear hk3 hb3)
    go_roundg gi'
    case measure => omega
    case rel => exact ⟨i + 1, by go_num, by omega, HA2, ⟨HK3.out, grown_then HB.out.2 HB3.out⟩⟩
   ·rw [hpx] at HC ha
    have HA2 : Aside0 (true = l.any p) := ⟨by simpa using ha⟩
    clear ha hpx hm
    go_wp2_with (go_at_call 99; refine HC.out.mono ?_; rintro e w3 ⟨rfl, hk3, hb3⟩; have HK3 := Aside0.mk hk3; have HB3 := Aside0.mk hb3; clear hk3 hb3)
    go_ret
    exact ⟨_, rfl, by rw [← HA2.out]; exact decide_eq_true (by omega), HK3.out, grown_then HB.out.2 HB3.out⟩
  ·have hi1 : ((i : Int) < (l.length : Int)) = False := eq_false (by omega)
   have hi2 : decide ((i : Int) < (l.length : Int)) = false := decide_eq_false (by omega)
   have ha := HA.out
   rw [List.drop_eq_nil_of_le (by omega)] at ha
   have HA2 : Aside0 (false = l.any p) := ⟨ha⟩
   clear ha HA
   go_wp2
   go_ret
   exact ⟨_, rfl, by rw [← HA2.out]; rfl, HB.out.1, HB.out.2⟩
theorem contains_can (tB gB bB cB mB N : Nat) (f : Nat → Bool) (W0 : World) (A : Option Addr) (c : Nat) (l : List Int) (p : Int → Bool) (w : World) (hk : KM W0 w mB N f) (hx : ∀ V, w.grownBy V (some mB) → Kd.C (Kd.int .i64) V A l.length l) (hl : l.length ≤ 1000)
  (hp : ∀ W, KM W0 W mB N f → w.grownBy W (some mB) → ∀ x ∈ l, Calls Tryd.prog 99 #[.int .i64 x, .pointer (some ⟨tB, 0, none⟩), .pointer (some ⟨gB, 0, none⟩), .pointer (some ⟨bB, 0, none⟩), .pointer (some ⟨cB, 0, none⟩)] W fun e w' => e = .returned (.bool (p x)) ∧ KM W0 w' mB N f ∧ W.grownBy w' (some mB)) :
  Calls Tryd.prog 54 #[.slice A l.length c, .func (.func 99) #[] #[.pointer (some ⟨tB, 0, none⟩), .pointer (some ⟨gB, 0, none⟩), .pointer (some ⟨bB, 0, none⟩), .pointer (some ⟨cB, 0, none⟩)]] w fun e w' => e = .returned (.bool (l.any p)) ∧ KM W0 w' mB N f ∧ w.grownBy w' (some mB) := by
 have HI := Aside0.mk (index_can tB gB bB cB mB N f W0 A c l p w hk hx hl hp)
 clear hx hl hp hk
 go_enter Tryd.func54, Tryd.ntmps54
 go_wp2_with (go_at_call 84; refine HI.out.mono ?_; rintro e w3 ⟨z, rfl, hz, hb⟩)
 go_ret
 exact ⟨by rw [← hz]; rfl, hb⟩
set_option maxHeartbeats 4000000 in
set_option maxRecDepth 100000 in
theorem can_inner (tB kB gB bB cB mB : Nat) (W0 : World) (Ag : Option Addr) (cg : Nat) (G : List Nat) (hG : Gr 9 G) (hcg : G.length ≤ cg) (bs : Nat)
  (hlow : ∀ W, W0.grownBy W (some mB) → GL W ∧ Kd.C (Kd.int .i64) W Ag (gi G).length (gi G) ∧ W.cell? ⟨tB, 0, none⟩ = some (.slice Ag G.length cg) ∧ W.cell? ⟨kB, 0, none⟩ = some (.map (some mB)) ∧ W.cell? ⟨bB, 0, none⟩ = some (.int .i64 (bs : Int)) ∧ W.cell? ⟨cB, 0, none⟩ = some (canV tB kB bB cB))
  (gone v : Nat) (hg : gone < 2 ^ G.length) (hv : v < G.length) (w : World) (hk : KM W0 w mB 512 (canB G bs)) (hc : w.cell? ⟨gB, 0, none⟩ = some (.int .i64 (gone : Int)))
  (rec : ∀ V, KM W0 V mB 512 (canB G bs) → Calls Tryd.prog 97 #[.int .i64 ((gone ||| 2 ^ v : Nat) : Int), .pointer (some ⟨tB, 0, none⟩), .pointer (some ⟨kB, 0, none⟩), .pointer (some ⟨bB, 0, none⟩), .pointer (some ⟨cB, 0, none⟩)] V fun e w' => e = .returned (.bool (canB G bs (gone ||| 2 ^ v))) ∧ KM W0 w' mB 512 (canB G bs) ∧ V.grownBy w' (some mB)) :
  Calls Tryd.prog 99 #[.int .i64 (v : Int), .pointer (some ⟨tB, 0, none⟩), .pointer (some ⟨gB, 0, none⟩), .pointer (some ⟨bB, 0, none⟩), .pointer (some ⟨cB, 0, none⟩)] w fun e w' => e = .returned (.bool (decide (dg G gone v ≤ bs) && canB G bs (gone ||| 2 ^ v))) ∧ KM W0 w' mB 512 (canB G bs) ∧ w.grownBy w' (some mB) := by
 have hn := hG.most
 obtain ⟨q1, q2, q3, q4, q5, q6⟩ := hlow w hk.grown
 have c0d : w.drew.cell? ⟨tB, 0, none⟩ = some (.slice Ag G.length cg) := q3
 have c1d : w.drew.cell? ⟨gB, 0, none⟩ = some (.int .i64 (gone : Int)) := hc
 have c2d : w.drew.cell? ⟨bB, 0, none⟩ = some (.int .i64 (bs : Int)) := q5
 have c3d : w.drew.cell? ⟨cB, 0, none⟩ = some (.func (.func 97) #[] #[.pointer (some ⟨tB, 0, none⟩), .pointer (some ⟨kB, 0, none⟩), .pointer (some ⟨bB, 0, none⟩), .pointer (some ⟨cB, 0, none⟩)]) := q6
 have c4d : Below w.heap.size w w.drew := below_drew (Below.refl _ _)
 have HK := Aside0.mk hk
 have hg512 : gone < 512 := smallO hn hg
 obtain ⟨N, ⟨hS1, hS2, hS3⟩, hNv⟩ := shK v (by omega)
 have h2v : 2 ^ v < 2 ^ G.length := Nat.pow_lt_pow_right (by omega) hv
 have hor : Go.bits .or .i64 (gone : Int) N = ((gone ||| 2 ^ v : Nat) : Int) := by
  rw [hNv, b_or _ _ (by omega) (by have := smallO hn h2v; omega)]
 have HDG : Aside0 (∀ W, (W.cell? ⟨tB, 0, none⟩ = some (.slice Ag G.length cg) ∧ W.cell? ⟨gB, 0, none⟩ = some (.int .i64 (gone : Int)) ∧ W.cell? ⟨bB, 0, none⟩ = some (.int .i64 (bs : Int)) ∧ W.cell? ⟨cB, 0, none⟩ = some (.func (.func 97) #[] #[.pointer (some ⟨tB, 0, none⟩), .pointer (some ⟨kB, 0, none⟩), .pointer (some ⟨bB, 0, none⟩), .pointer (some ⟨cB, 0, none⟩)]) ∧ Below w.heap.size w W) → Calls Tryd.prog 75 #[.slice Ag G.length cg, .int .i64 (v : Int), .int .i64 (gone : Int)] W fun e w' => e = .returned (.int .i64 ((dg G gone v : Nat) : Int)) ∧ w'.cell? ⟨tB, 0, none⟩ = some (.slice Ag G.length cg) ∧ w'.cell? ⟨gB, 0, none⟩ = some (.int .i64 (gone : Int)) ∧ w'.cell? ⟨bB, 0, none⟩ = some (.int .i64 (bs : Int)) ∧ w'.cell? ⟨cB, 0, none⟩ = some (.func (.func 97) #[] #[.pointer (some ⟨tB, 0, none⟩), .pointer (some ⟨kB, 0, none⟩), .pointer (some ⟨bB, 0, none⟩), .pointer (some ⟨cB, 0, none⟩)]) ∧ Below w.heap.size w w') := ⟨by
  rintro W ⟨s0, s1, s2, s3, s4⟩
  obtain ⟨p1, p2, _⟩ := hlow W ((hk.low (grown_of_below s4 none)).grown)
  refine (degree_callsO hG hg hv Ag cg hcg W p1 p2).mono ?_
  rintro e w' ⟨rfl, hb⟩
  exact ⟨rfl, (hb.cell (World.block_lt_of_cell? W _ s0)).trans s0, (hb.cell (World.block_lt_of_cell? W _ s1)).trans s1, (hb.cell (World.block_lt_of_cell? W _ s2)).trans s2, (hb.cell (World.block_lt_of_cell? W _ s3)).trans s3, below_step s4 hb⟩⟩
 have HREC := Aside0.mk rec
 generalize gone ||| 2 ^ v = gone' at *
 generalize canB G bs gone' = R at *
 generalize dg G gone v = dv at *
 clear hk q1 q2 q3 q4 q5 q6 rec hNv h2v hlow hg hc hG hn hv hg512
 by_cases hle : dv ≤ bs
 ·have hdec1 : ((dv : Int) ≤ (bs : Int)) = True := eq_true (by omega)
  have hdec2 : decide ((dv : Int) ≤ (bs : Int)) = true := decide_eq_true (by omega)
  rw [decide_eq_true hle, Bool.true_and]
  go_enter Tryd.func99, Tryd.ntmps99
  go_wp2
  refine start_ (n := 15) (S := fun w' => w'.cell? ⟨tB, 0, none⟩ = some (.slice Ag G.length cg) ∧ w'.cell? ⟨gB, 0, none⟩ = some (.int .i64 (gone : Int)) ∧ w'.cell? ⟨bB, 0, none⟩ = some (.int .i64 (bs : Int)) ∧ w'.cell? ⟨cB, 0, none⟩ = some (.func (.func 97) #[] #[.pointer (some ⟨tB, 0, none⟩), .pointer (some ⟨kB, 0, none⟩), .pointer (some ⟨bB, 0, none⟩), .pointer (some ⟨cB, 0, none⟩)]) ∧ Below w.heap.size w w') (ds := [12]) (Qbz 15 0) (by kernel_rfl) rfl rfl ⟨c0d, c1d, c2d, c3d, c4d⟩ (fun hHeld => ?_)
  refine pure_ (i := 1) (N := some 8) (v := ?_) (a' := ?_) (Qbz 15 2) rfl rfl (by kernel_rfl) (fun _ _ _ h => h) (Or.inl ⟨by rfl, ?_⟩) ?_ ?_
  rotate_left
  ·intro w'
   go_simp
   with_reducible rfl
  rotate_left
  ·simp only [Act.put, Qp1, Qp2, Qp3, i64_w, i32_w]
   rfl
  refine take_ (i := 0) (N := some 7) (v := ?_) (a' := ?_) (Qbz 15 3) rfl rfl (by kernel_rfl) (fun _ _ _ h => h) (Or.inl ⟨by rfl, ?_⟩) hHeld ?_ ?_
  rotate_left
  ·rintro w' ⟨s0, s1, s2, s3, s4⟩
   go_simp
   with_reducible rfl
  rotate_left
  ·simp only [Act.put, Qp1, Qp2, Qp3, i64_w, i32_w]
   rfl
  refine take_ (i := 2) (N := some 9) (v := ?_) (a' := ?_) (Qbz 15 7) rfl rfl (by kernel_rfl) (fun _ _ _ h => h) (Or.inl ⟨by rfl, ?_⟩) hHeld ?_ ?_
  rotate_left
  ·rintro w' ⟨s0, s1, s2, s3, s4⟩
   go_simp
   with_reducible rfl
  rotate_left
  ·simp only [Act.put, Qp1, Qp2, Qp3, i64_w, i32_w]
   rfl
  refine take_ (i := 4) (N := some 11) (v := ?_) (a' := ?_) (Qbz 15 23) rfl rfl (by kernel_rfl) (fun _ _ _ h => h) (Or.inl ⟨by rfl, ?_⟩) hHeld ?_ ?_
  rotate_left
  ·rintro w' ⟨s0, s1, s2, s3, s4⟩
   go_simp
   with_reducible rfl
  rotate_left
  ·simp only [Act.put, Qp1, Qp2, Qp3, i64_w, i32_w]
   rfl
  refine one_ (i := 3) (N := some 10) (Qbz 15 31) rfl rfl (by kernel_rfl) (by decide) (fun K hK => ?_)
  refine goes_ Tryd.func75 (by kernel_rfl) rfl #[.slice Ag G.length cg, .int .i64 (v : Int), .int .i64 (gone : Int)] (by rfl) rfl rfl (by simp only [List.map_toArray, List.map_cons, List.map_nil]; rfl) ?_
  with_reducible refine (HDG.out _ hHeld).mono ?_
  rintro e w9 ⟨rfl, k0, k1, k2, k3, kB9⟩
  refine ⟨_, rfl, ?_⟩
  refine hK.out _ _ ⟨k0, k1, k2, k3, kB9⟩ (fun hHeld => ?_)
  clear hK K
  refine norm_ (a' := ?_) ?_ ?_
  rotate_left
  ·show Act.put _ (some 10) _ = _
   simp only [Act.put, Qp1, Qp2, Qp3, i64_w, i32_w]
   rfl
  refine pure_ (i := 5) (N := some 12) (v := ?_) (a' := ?_) (Qbz 15 63) rfl rfl (by kernel_rfl) (fun _ _ _ h => h) (Or.inl ⟨by rfl, ?_⟩) ?_ ?_
  rotate_left
  ·intro w'
   go_simp
   with_reducible rfl
  rotate_left
  ·simp only [Act.put, Qp1, Qp2, Qp3, i64_w, i32_w]
   rfl
  refine pure_ (i := 6) (N := some 13) (v := ?_) (a' := ?_) (Qbz 15 127) rfl rfl (by kernel_rfl) (fun _ _ _ h => h) (Or.inl ⟨by rfl, ?_⟩) ?_ ?_
  rotate_left
  ·intro w'
   go_simp
   with_reducible rfl
  rotate_left
  ·simp only [Act.put, Qp1, Qp2, Qp3, i64_w, i32_w]
   rfl
  refine pure_ (i := 9) (N := some 16) (v := ?_) (a' := ?_) (Qbz 15 639) rfl rfl (by kernel_rfl) (fun _ _ _ h => h) (Or.inl ⟨by rfl, ?_⟩) ?_ ?_
  rotate_left
  ·intro w'
   go_simp
   with_reducible rfl
  rotate_left
  ·simp only [Act.put, Qp1, Qp2, Qp3, i64_w, i32_w]
   rfl
  refine pure_ (i := 10) (N := some 17) (v := ?_) (a' := ?_) (Qbz 15 1663) rfl rfl (by kernel_rfl) (fun _ _ _ h => h) (Or.inl ⟨by rfl, ?_⟩) ?_ ?_
  rotate_left
  ·intro w'
   go_simp
   with_reducible rfl
  rotate_left
  ·simp only [Act.put, Qp1, Qp2, Qp3, i64_w, i32_w]
   rfl
  refine take_ (i := 7) (N := some 14) (v := ?_) (a' := ?_) (Qbz 15 1791) rfl rfl (by kernel_rfl) (fun _ _ _ h => h) (Or.inl ⟨by rfl, ?_⟩) hHeld ?_ ?_
  rotate_left
  ·rintro w' ⟨s0, s1, s2, s3, s4⟩
   go_simp
   with_reducible rfl
  rotate_left
  ·simp only [Act.put, Qp1, Qp2, Qp3, i64_w, i32_w]
   rfl
  refine take_ (i := 8) (N := some 15) (v := ?_) (a' := ?_) (Qbz 15 2047) rfl rfl (by kernel_rfl) (fun _ _ _ h => h) (Or.inl ⟨by rfl, ?_⟩) hHeld ?_ ?_
  rotate_left
  ·rintro w' ⟨s0, s1, s2, s3, s4⟩
   go_simp
   with_reducible rfl
  rotate_left
  ·simp only [Act.put, Qp1, Qp2, Qp3, i64_w, i32_w]
   rfl
  refine pure_ (i := 11) (N := some 18) (v := ?_) (a' := ?_) (Qbz 15 4095) rfl rfl (by kernel_rfl) (fun _ _ _ h => h) (Or.inl ⟨by rfl, ?_⟩) ?_ ?_
  rotate_left
  ·intro w'
   go_simp
   with_reducible rfl
  rotate_left
  ·simp only [Act.put, Qp1, Qp2, Qp3, i64_w, i32_w]
   rfl
  refine last_ (i := 12) (N := some 19) (Qbz 15 8191) rfl rfl (by kernel_rfl) (by decide) (fun K hK => ?_)
  refine goesK_ Tryd.func97 (by kernel_rfl) rfl #[.int .i64 (gone' : Int)] #[.pointer (some ⟨tB, 0, none⟩), .pointer (some ⟨kB, 0, none⟩), .pointer (some ⟨bB, 0, none⟩), .pointer (some ⟨cB, 0, none⟩)] #[.int .i64 (gone' : Int), .pointer (some ⟨tB, 0, none⟩), .pointer (some ⟨kB, 0, none⟩), .pointer (some ⟨bB, 0, none⟩), .pointer (some ⟨cB, 0, none⟩)] (.tmp 14) (by rfl) rfl rfl (by rfl) (by simp only [List.map_toArray, List.map_cons, List.map_nil]; rfl) rfl ?_
  with_reducible refine (HREC.out _ (HK.out.low (grown_of_below hHeld.2.2.2.2 none))).mono ?_
  rintro e w10 ⟨rfl, hK10, hG10⟩
  have HK10 := Aside0.mk hK10
  have HG10 := Aside0.mk hG10
  have HB9 := Aside0.mk kB9
  clear hK10 hG10 kB9
  refine ⟨_, rfl, ?_⟩
  refine hK.out _ _ ?_
  clear hK K
  refine norm_ (a' := ?_) ?_ ?_
  rotate_left
  ·show Act.put _ (some 19) _ = _
   simp only [Act.put, Qp1, Qp2, Qp3, i64_w, i32_w]
   rfl
  refine pure_ (i := 13) (N := some 20) (v := ?_) (a' := ?_) (Qbz 15 16383) rfl rfl (by kernel_rfl) (fun _ _ _ h => h) (Or.inl ⟨by rfl, ?_⟩) ?_ ?_
  rotate_left
  ·intro w'
   go_simp
   with_reducible rfl
  rotate_left
  ·simp only [Act.put, Qp1, Qp2, Qp3, i64_w, i32_w]
   rfl
  refine pure_ (i := 14) (N := some 6) (v := ?_) (a' := ?_) (Qbz 15 32767) rfl rfl (by kernel_rfl) (fun _ _ _ h => h) (Or.inl ⟨by rfl, ?_⟩) ?_ ?_
  rotate_left
  ·intro w'
   go_simp
   with_reducible rfl
  rotate_left
  ·simp only [Act.put, Qp1, Qp2, Qp3, i64_w, i32_w]
   rfl
  refine done_ (by kernel_rfl) ?_
  go_wp2
  go_ret
  exact ⟨rfl, HK10.out, grown_then (grown_of_below HB9.out (some mB)) HG10.out⟩
 ·have hdec1 : ((dv : Int) ≤ (bs : Int)) = False := eq_false (by omega)
  have hdec2 : decide ((dv : Int) ≤ (bs : Int)) = false := decide_eq_false (by omega)
  rw [decide_eq_false hle, Bool.false_and]
  go_enter Tryd.func99, Tryd.ntmps99
  go_wp2
  refine start_ (n := 15) (S := fun w' => w'.cell? ⟨tB, 0, none⟩ = some (.slice Ag G.length cg) ∧ w'.cell? ⟨gB, 0, none⟩ = some (.int .i64 (gone : Int)) ∧ w'.cell? ⟨bB, 0, none⟩ = some (.int .i64 (bs : Int)) ∧ w'.cell? ⟨cB, 0, none⟩ = some (.func (.func 97) #[] #[.pointer (some ⟨tB, 0, none⟩), .pointer (some ⟨kB, 0, none⟩), .pointer (some ⟨bB, 0, none⟩), .pointer (some ⟨cB, 0, none⟩)]) ∧ Below w.heap.size w w') (ds := []) (Qbz 15 0) (by kernel_rfl) rfl rfl ⟨c0d, c1d, c2d, c3d, c4d⟩ (fun hHeld => ?_)
  refine pure_ (i := 1) (N := some 8) (v := ?_) (a' := ?_) (Qbz 15 2) rfl rfl (by kernel_rfl) (fun _ _ _ h => h) (Or.inl ⟨by rfl, ?_⟩) ?_ ?_
  rotate_left
  ·intro w'
   go_simp
   with_reducible rfl
  rotate_left
  ·simp only [Act.put, Qp1, Qp2, Qp3, i64_w, i32_w]
   rfl
  refine take_ (i := 0) (N := some 7) (v := ?_) (a' := ?_) (Qbz 15 3) rfl rfl (by kernel_rfl) (fun _ _ _ h => h) (Or.inl ⟨by rfl, ?_⟩) hHeld ?_ ?_
  rotate_left
  ·rintro w' ⟨s0, s1, s2, s3, s4⟩
   go_simp
   with_reducible rfl
  rotate_left
  ·simp only [Act.put, Qp1, Qp2, Qp3, i64_w, i32_w]
   rfl
  refine take_ (i := 2) (N := some 9) (v := ?_) (a' := ?_) (Qbz 15 7) rfl rfl (by kernel_rfl) (fun _ _ _ h => h) (Or.inl ⟨by rfl, ?_⟩) hHeld ?_ ?_
  rotate_left
  ·rintro w' ⟨s0, s1, s2, s3, s4⟩
   go_simp
   with_reducible rfl
  rotate_left
  ·simp only [Act.put, Qp1, Qp2, Qp3, i64_w, i32_w]
   rfl
  refine take_ (i := 4) (N := some 11) (v := ?_) (a' := ?_) (Qbz 15 23) rfl rfl (by kernel_rfl) (fun _ _ _ h => h) (Or.inl ⟨by rfl, ?_⟩) hHeld ?_ ?_
  rotate_left
  ·rintro w' ⟨s0, s1, s2, s3, s4⟩
   go_simp
   with_reducible rfl
  rotate_left
  ·simp only [Act.put, Qp1, Qp2, Qp3, i64_w, i32_w]
   rfl
  refine one_ (i := 3) (N := some 10) (Qbz 15 31) rfl rfl (by kernel_rfl) (by decide) (fun K hK => ?_)
  refine goes_ Tryd.func75 (by kernel_rfl) rfl #[.slice Ag G.length cg, .int .i64 (v : Int), .int .i64 (gone : Int)] (by rfl) rfl rfl (by simp only [List.map_toArray, List.map_cons, List.map_nil]; rfl) ?_
  with_reducible refine (HDG.out _ hHeld).mono ?_
  rintro e w9 ⟨rfl, k0, k1, k2, k3, kB9⟩
  refine ⟨_, rfl, ?_⟩
  refine hK.out _ _ ⟨k0, k1, k2, k3, kB9⟩ (fun hHeld => ?_)
  clear hK K
  refine norm_ (a' := ?_) ?_ ?_
  rotate_left
  ·show Act.put _ (some 10) _ = _
   simp only [Act.put, Qp1, Qp2, Qp3, i64_w, i32_w]
   rfl
  refine pure_ (i := 5) (N := some 12) (v := ?_) (a' := ?_) (Qbz 15 63) rfl rfl (by kernel_rfl) (fun _ _ _ h => h) (Or.inl ⟨by rfl, ?_⟩) ?_ ?_
  rotate_left
  ·intro w'
   go_simp
   with_reducible rfl
  rotate_left
  ·simp only [Act.put, Qp1, Qp2, Qp3, i64_w, i32_w]
   rfl
  refine pure_ (i := 6) (N := some 13) (v := ?_) (a' := ?_) (Qbz 15 127) rfl rfl (by kernel_rfl) (fun _ _ _ h => h) (Or.inl ⟨by rfl, ?_⟩) ?_ ?_
  rotate_left
  ·intro w'
   go_simp
   with_reducible rfl
  rotate_left
  ·simp only [Act.put, Qp1, Qp2, Qp3, i64_w, i32_w]
   rfl
  refine pure_ (i := 7) (N := some 14) (v := undef) (a' := ?_) (Qbz 15 255) rfl rfl (by kernel_rfl) (fun _ _ _ h => h) (Or.inr ⟨by rfl, rfl⟩) ?_ ?_
  rotate_left
  ·simp only [Act.put, Qp1, Qp2, Qp3, i64_w, i32_w]
   rfl
  refine pure_ (i := 8) (N := some 15) (v := undef) (a' := ?_) (Qbz 15 511) rfl rfl (by kernel_rfl) (fun _ _ _ h => h) (Or.inr ⟨by rfl, rfl⟩) ?_ ?_
  rotate_left
  ·simp only [Act.put, Qp1, Qp2, Qp3, i64_w, i32_w]
   rfl
  refine pure_ (i := 9) (N := some 16) (v := undef) (a' := ?_) (Qbz 15 1023) rfl rfl (by kernel_rfl) (fun _ _ _ h => h) (Or.inr ⟨by rfl, rfl⟩) ?_ ?_
  rotate_left
  ·simp only [Act.put, Qp1, Qp2, Qp3, i64_w, i32_w]
   rfl
  refine pure_ (i := 10) (N := some 17) (v := undef) (a' := ?_) (Qbz 15 2047) rfl rfl (by kernel_rfl) (fun _ _ _ h => h) (Or.inr ⟨by rfl, rfl⟩) ?_ ?_
  rotate_left
  ·simp only [Act.put, Qp1, Qp2, Qp3, i64_w, i32_w]
   rfl
  refine pure_ (i := 11) (N := some 18) (v := undef) (a' := ?_) (Qbz 15 4095) rfl rfl (by kernel_rfl) (fun _ _ _ h => h) (Or.inr ⟨by rfl, rfl⟩) ?_ ?_
  rotate_left
  ·simp only [Act.put, Qp1, Qp2, Qp3, i64_w, i32_w]
   rfl
  refine pure_ (i := 12) (N := some 19) (v := undef) (a' := ?_) (Qbz 15 8191) rfl rfl (by kernel_rfl) (fun _ _ _ h => h) (Or.inr ⟨by rfl, rfl⟩) ?_ ?_
  rotate_left
  ·simp only [Act.put, Qp1, Qp2, Qp3, i64_w, i32_w]
   rfl
  refine pure_ (i := 13) (N := some 20) (v := ?_) (a' := ?_) (Qbz 15 16383) rfl rfl (by kernel_rfl) (fun _ _ _ h => h) (Or.inl ⟨by rfl, ?_⟩) ?_ ?_
  rotate_left
  ·intro w'
   go_simp
   with_reducible rfl
  rotate_left
  ·simp only [Act.put, Qp1, Qp2, Qp3, i64_w, i32_w]
   rfl
  refine pure_ (i := 14) (N := some 6) (v := ?_) (a' := ?_) (Qbz 15 32767) rfl rfl (by kernel_rfl) (fun _ _ _ h => h) (Or.inl ⟨by rfl, ?_⟩) ?_ ?_
  rotate_left
  ·intro w'
   go_simp
   with_reducible rfl
  rotate_left
  ·simp only [Act.put, Qp1, Qp2, Qp3, i64_w, i32_w]
   rfl
  refine done_ (by kernel_rfl) ?_
  go_wp2
  go_ret
  exact ⟨rfl, HK.out.low (grown_of_below hHeld.2.2.2.2 none), grown_of_below hHeld.2.2.2.2 (some mB)⟩
set_option maxHeartbeats 8000000 in
set_option maxRecDepth 100000 in
theorem can_grow (tB kB bB cB mB : Nat) (W0 : World) (hmB : mB < W0.heap.size) (Ag : Option Addr) (cg : Nat) (G : List Nat) (hG : Gr 9 G) (hcg : G.length ≤ cg) (bs : Nat)
  (hlow : ∀ W, W0.grownBy W (some mB) → GL W ∧ Kd.C (Kd.int .i64) W Ag (gi G).length (gi G) ∧ W.cell? ⟨tB, 0, none⟩ = some (.slice Ag G.length cg) ∧ W.cell? ⟨kB, 0, none⟩ = some (.map (some mB)) ∧ W.cell? ⟨bB, 0, none⟩ = some (.int .i64 (bs : Int)) ∧ W.cell? ⟨cB, 0, none⟩ = some (canV tB kB bB cB)) :
  ∀ (d gone : Nat) (w : World), pc (lft G gone) 9 = d → gone < 2 ^ G.length → KM W0 w mB 512 (canB G bs) →
  Calls Tryd.prog 97 #[.int .i64 (gone : Int), .pointer (some ⟨tB, 0, none⟩), .pointer (some ⟨kB, 0, none⟩), .pointer (some ⟨bB, 0, none⟩), .pointer (some ⟨cB, 0, none⟩)] w fun e w' => e = .returned (.bool (canB G bs gone)) ∧ KM W0 w' mB 512 (canB G bs) ∧ w.grownBy w' (some mB) := by
 have hn := hG.most
 intro d
 induction d with
 | zero =>
  intro gone w hd hg hk
  have hall : gone = 2 ^ G.length - 1 := Classical.byContradiction fun h => pc_pos (smallO hn (lft_lt G gone)) (lft_ne hg h) hd
  have hcb : canB G bs gone = true := by rw [hall]; exact canB_all bs
  rw [hcb]
  obtain ⟨w1, hw1⟩ : ∃ W : World, W = w.alloc (.cells #[.int .i64 (gone : Int)] 3) := ⟨_, rfl⟩
  have hB1 : Below w.heap.size w w1 := by rw [hw1]; exact below_alloc (Below.refl _ _) _
  have hk1 := hk.low (grown_of_below hB1 none)
  obtain ⟨q1, q2, q3, q4, q5, q6⟩ := hlow w1 hk1.grown
  have hgc : w1.cell? ⟨w.heap.size, 0, none⟩ = some (.int .i64 (gone : Int)) := by rw [hw1]; exact (blk_cell (show (w.heap.push _)[w.heap.size]? = _ from Array.getElem?_push_size) 0).trans rfl
  have hsz1 : w1.heap.size = w.heap.size + 1 := by rw [hw1]; simp
  have c0d : w1.drew.cell? ⟨tB, 0, none⟩ = some (.slice Ag G.length cg) := q3
  have c1d : w1.drew.cell? ⟨w.heap.size, 0, none⟩ = some (.int .i64 (gone : Int)) := hgc
  have c2d : Below w1.heap.size w1 w1.drew := below_drew (Below.refl _ _)
  have HAL : Aside0 (∀ W, (W.cell? ⟨tB, 0, none⟩ = some (.slice Ag G.length cg) ∧ W.cell? ⟨w.heap.size, 0, none⟩ = some (.int .i64 (gone : Int)) ∧ Below w1.heap.size w1 W) → Calls Tryd.prog 67 #[.slice Ag G.length cg] W fun e w' => e = .returned (.int .i64 ((2 ^ G.length - 1 : Nat) : Int)) ∧ w'.cell? ⟨tB, 0, none⟩ = some (.slice Ag G.length cg) ∧ w'.cell? ⟨w.heap.size, 0, none⟩ = some (.int .i64 (gone : Int)) ∧ Below w1.heap.size w1 w') := ⟨by
   rintro W ⟨s0, s1, s2⟩
   obtain ⟨p1, p2, _⟩ := hlow W ((hk1.low (grown_of_below s2 none)).grown)
   refine (all_callsO hG Ag cg hcg W p2).mono ?_
   rintro e w' ⟨rfl, hb⟩
   exact ⟨rfl, (hb.cell (World.block_lt_of_cell? W _ s0)).trans s0, (hb.cell (World.block_lt_of_cell? W _ s1)).trans s1, below_step s2 hb⟩⟩
  have HK := Aside0.mk hk
  have HB1 := Aside0.mk hB1
  rw [← hall] at HAL
  clear hk hk1 q1 q2 q3 q4 q5 q6 hlow hg hG hn hall hd hcb hB1 hgc
  go_enter Tryd.func97, Tryd.ntmps97
  go_wp2
  rw [← hw1]
  clear hw1
  refine start_ (n := 4) (S := fun w' => w'.cell? ⟨tB, 0, none⟩ = some (.slice Ag G.length cg) ∧ w'.cell? ⟨w.heap.size, 0, none⟩ = some (.int .i64 (gone : Int)) ∧ Below w1.heap.size w1 w') (ds := []) #[false, false, false, false] (by kernel_rfl) rfl rfl ⟨c0d, c1d, c2d⟩ (fun hHeld => ?_)
  refine take_ (i := 0) (N := some 9) (v := ?_) (a' := ?_) #[true, false, false, false] rfl rfl (by kernel_rfl) (fun _ _ _ h => h) (Or.inl ⟨by rfl, ?_⟩) hHeld ?_ ?_
  rotate_left
  ·rintro w' ⟨s0, s1, s2⟩
   go_simp
   with_reducible rfl
  rotate_left
  ·simp only [Act.put, Qp1, Qp2, Qp3, i64_w, i32_w]
   rfl
  refine take_ (i := 1) (N := some 10) (v := ?_) (a' := ?_) #[true, true, false, false] rfl rfl (by kernel_rfl) (fun _ _ _ h => h) (Or.inl ⟨by rfl, ?_⟩) hHeld ?_ ?_
  rotate_left
  ·rintro w' ⟨s0, s1, s2⟩
   go_simp
   with_reducible rfl
  rotate_left
  ·simp only [Act.put, Qp1, Qp2, Qp3, i64_w, i32_w]
   rfl
  refine one_ (i := 2) (N := some 11) #[true, true, true, false] rfl rfl (by kernel_rfl) (by decide) (fun K hK => ?_)
  refine goes_ Tryd.func67 (by kernel_rfl) rfl #[.slice Ag G.length cg] (by rfl) rfl rfl (by simp only [List.map_toArray, List.map_cons, List.map_nil]; rfl) ?_
  with_reducible refine (HAL.out _ hHeld).mono ?_
  rintro e w2 ⟨rfl, k0, k1, kB2⟩
  refine ⟨_, rfl, ?_⟩
  refine hK.out _ _ ⟨k0, k1, kB2⟩ (fun hHeld => ?_)
  clear hK K
  refine norm_ (a' := ?_) ?_ ?_
  rotate_left
  ·show Act.put _ (some 11) _ = _
   simp only [Act.put, Qp1, Qp2, Qp3, i64_w, i32_w]
   rfl
  refine pure_ (i := 3) (N := some 12) (v := ?_) (a' := ?_) #[true, true, true, true] rfl rfl (by kernel_rfl) (fun _ _ _ h => h) (Or.inl ⟨by rfl, ?_⟩) ?_ ?_
  rotate_left
  ·intro w'
   go_simp
   with_reducible rfl
  rotate_left
  ·simp only [Act.put, Qp1, Qp2, Qp3, i64_w, i32_w]
   rfl
  refine done_ (by kernel_rfl) ?_
  go_wp2
  go_ret
  exact ⟨rfl, (HK.out.low (grown_of_below HB1.out none)).low (grown_of_below hHeld.2.2 none), grown_then (grown_of_below HB1.out (some mB)) (grown_of_below hHeld.2.2 (some mB))⟩
 | succ d ih =>
  intro gone w hd hg hk
  have hnall : gone ≠ 2 ^ G.length - 1 := fun h => by rw [h, lft_all] at hd; simp [pc] at hd
  have hg512 := smallO hn hg
  have hall512 : 2 ^ G.length - 1 < 512 := by
   have := smallO hn (lft_lt G 0)
   have h2 : 2 ^ G.length ≤ 2 ^ 9 := Nat.pow_le_pow_right (by omega) hn
   have h3 := Nat.two_pow_pos G.length
   omega
  have hand : Go.bits .andNot .i64 ((2 ^ G.length - 1 : Nat) : Int) (gone : Int) = ((lft G gone : Nat) : Int) := b_andNot _ _ (by omega) (by omega)
  have hcb := canB_step (k := bs) hn hg hnall
  obtain ⟨w1, hw1⟩ : ∃ W : World, W = w.alloc (.cells #[.int .i64 (gone : Int)] 3) := ⟨_, rfl⟩
  have hB1 : Below w.heap.size w w1 := by rw [hw1]; exact below_alloc (Below.refl _ _) _
  have hk1 := hk.low (grown_of_below hB1 none)
  obtain ⟨q1, q2, q3, q4, q5, q6⟩ := hlow w1 hk1.grown
  have hgc : w1.cell? ⟨w.heap.size, 0, none⟩ = some (.int .i64 (gone : Int)) := by rw [hw1]; exact (blk_cell (show (w.heap.push _)[w.heap.size]? = _ from Array.getElem?_push_size) 0).trans rfl
  have hsz1 : w1.heap.size = w.heap.size + 1 := by rw [hw1]; simp
  have c0d : w1.drew.cell? ⟨tB, 0, none⟩ = some (.slice Ag G.length cg) := q3
  have c1d : w1.drew.cell? ⟨w.heap.size, 0, none⟩ = some (.int .i64 (gone : Int)) := hgc
  have c2d : Below w1.heap.size w1 w1.drew := below_drew (Below.refl _ _)
  have HAL : Aside0 (∀ W, (W.cell? ⟨tB, 0, none⟩ = some (.slice Ag G.length cg) ∧ W.cell? ⟨w.heap.size, 0, none⟩ = some (.int .i64 (gone : Int)) ∧ Below w1.heap.size w1 W) → Calls Tryd.prog 67 #[.slice Ag G.length cg] W fun e w' => e = .returned (.int .i64 ((2 ^ G.length - 1 : Nat) : Int)) ∧ w'.cell? ⟨tB, 0, none⟩ = some (.slice Ag G.length cg) ∧ w'.cell? ⟨w.heap.size, 0, none⟩ = some (.int .i64 (gone : Int)) ∧ Below w1.heap.size w1 w') := ⟨by
   rintro W ⟨s0, s1, s2⟩
   obtain ⟨p1, p2, _⟩ := hlow W ((hk1.low (grown_of_below s2 none)).grown)
   refine (all_callsO hG Ag cg hcg W p2).mono ?_
   rintro e w' ⟨rfl, hb⟩
   exact ⟨rfl, (hb.cell (World.block_lt_of_cell? W _ s0)).trans s0, (hb.cell (World.block_lt_of_cell? W _ s1)).trans s1, below_step s2 hb⟩⟩
  obtain ⟨L, hL⟩ : ∃ L : List Nat, L = els (lft G gone) 9 := ⟨_, rfl⟩
  obtain ⟨P, hP⟩ : ∃ P : Int → Bool, P = fun x => decide (dg G gone x.toNat ≤ bs) && canB G bs (gone ||| 2 ^ x.toNat) := ⟨_, rfl⟩
  have hany : (gi L).any P = canB G bs gone := by
   rw [hcb, hL, hP]
   unfold gi
   rw [List.any_map]
   rfl
  have hLlen : L.length ≤ 9 := by rw [hL, els_length]; exact pc_le _ 9
  have HREC : Aside0 (∀ W, KM W0 W mB 512 (canB G bs) → W.cell? ⟨w.heap.size, 0, none⟩ = some (.int .i64 (gone : Int)) → ∀ x ∈ gi L, Calls Tryd.prog 99 #[.int .i64 x, .pointer (some ⟨tB, 0, none⟩), .pointer (some ⟨w.heap.size, 0, none⟩), .pointer (some ⟨bB, 0, none⟩), .pointer (some ⟨cB, 0, none⟩)] W fun e w' => e = .returned (.bool (P x)) ∧ KM W0 w' mB 512 (canB G bs) ∧ W.grownBy w' (some mB)) := ⟨fun W hKW hcW x hx => by
   unfold gi at hx
   obtain ⟨v, hv, rfl⟩ := List.mem_map.1 hx
   rw [hL] at hv
   have hvb := (mem_els.1 hv).2
   have hvn := ((lft_bit G gone v).1 hvb).1
   have hpc := pc_lft hn hvb
   rw [hP]
   exact can_inner tB kB w.heap.size bB cB mB W0 Ag cg G hG hcg bs hlow gone v hg hvn W hKW hcW fun V hV => ih (gone ||| 2 ^ v) V (by omega) (or_in hg hvb) hV⟩
  have hmBw : mB < w.heap.size := Nat.lt_of_lt_of_le hmB hk.grown.size
  have HND : Aside0 (∀ W, GL W → mB < W.heap.size → Calls Tryd.prog 98 #[.int .i64 ((lft G gone : Nat) : Int)] W fun e w' => ∃ A c, e = .returned (.slice A L.length c) ∧ L.length ≤ c ∧ (∀ V, w'.grownBy V (some mB) → Kd.C (Kd.int .i64) V A L.length (gi L)) ∧ Below W.heap.size W w') := ⟨fun W hGLW hW => by
   rw [hL]
   exact nodes_callsO (smallO hn (lft_lt G gone)) mB W hW hGLW⟩
  have hne : (((gone : Int)) == ((2 ^ G.length - 1 : Nat) : Int)) = false := beq_eq_false_iff_ne.2 (by omega)
  have HK := Aside0.mk hk
  have HB1 := Aside0.mk hB1
  have HLOW := Aside0.mk hlow
  have HANY := Aside0.mk hany
  have hg62 : gone < 2 ^ 62 := by omega
  generalize lft G gone = lf at *
  generalize canB G bs = F at *
  obtain ⟨z, hz⟩ : ∃ z : Nat, z = 2 ^ G.length - 1 := ⟨_, rfl⟩
  have HALG : Aside0 (∀ W, W0.grownBy W (some mB) → Calls Tryd.prog 67 #[.slice Ag G.length cg] W fun e w' => e = .returned (.int .i64 ((2 ^ G.length - 1 : Nat) : Int)) ∧ Below W.heap.size W w') := ⟨fun W hW => all_callsO hG Ag cg hcg W (HLOW.out W hW).2.1⟩
  have HBLK1 : Aside0 (w1.heap[w.heap.size]? = some (.cells #[.int .i64 (gone : Int)] 3 (0, 0))) := ⟨by rw [hw1]; exact Array.getElem?_push_size⟩
  rw [← hz] at hne hand HAL HALG
  clear hk hk1 q1 q2 q3 q4 q5 q6 hlow hg hG hn hd hcb hB1 hgc hz hP hL hany ih hnall hall512
  go_enter Tryd.func97, Tryd.ntmps97
  go_wp2
  rw [← hw1]
  clear hw1
  refine start_ (n := 4) (S := fun w' => w'.cell? ⟨tB, 0, none⟩ = some (.slice Ag G.length cg) ∧ w'.cell? ⟨w.heap.size, 0, none⟩ = some (.int .i64 (gone : Int)) ∧ Below w1.heap.size w1 w') (ds := []) #[false, false, false, false] (by kernel_rfl) rfl rfl ⟨c0d, c1d, c2d⟩ (fun hHeld => ?_)
  refine take_ (i := 0) (N := some 9) (v := ?_) (a' := ?_) #[true, false, false, false] rfl rfl (by kernel_rfl) (fun _ _ _ h => h) (Or.inl ⟨by rfl, ?_⟩) hHeld ?_ ?_
  rotate_left
  ·rintro w' ⟨s0, s1, s2⟩
   go_simp
   with_reducible rfl
  rotate_left
  ·simp only [Act.put, Qp1, Qp2, Qp3, i64_w, i32_w]
   rfl
  refine take_ (i := 1) (N := some 10) (v := ?_) (a' := ?_) #[true, true, false, false] rfl rfl (by kernel_rfl) (fun _ _ _ h => h) (Or.inl ⟨by rfl, ?_⟩) hHeld ?_ ?_
  rotate_left
  ·rintro w' ⟨s0, s1, s2⟩
   go_simp
   with_reducible rfl
  rotate_left
  ·simp only [Act.put, Qp1, Qp2, Qp3, i64_w, i32_w]
   rfl
  refine one_ (i := 2) (N := some 11) #[true, true, true, false] rfl rfl (by kernel_rfl) (by decide) (fun K hK => ?_)
  refine goes_ Tryd.func67 (by kernel_rfl) rfl #[.slice Ag G.length cg] (by rfl) rfl rfl (by simp only [List.map_toArray, List.map_cons, List.map_nil]; rfl) ?_
  with_reducible refine (HAL.out _ hHeld).mono ?_
  rintro e w2 ⟨rfl, k0, k1, kB2⟩
  refine ⟨_, rfl, ?_⟩
  refine hK.out _ _ ⟨k0, k1, kB2⟩ (fun hHeld => ?_)
  clear hK K
  refine norm_ (a' := ?_) ?_ ?_
  rotate_left
  ·show Act.put _ (some 11) _ = _
   simp only [Act.put, Qp1, Qp2, Qp3, i64_w, i32_w]
   rfl
  refine pure_ (i := 3) (N := some 12) (v := ?_) (a' := ?_) #[true, true, true, true] rfl rfl (by kernel_rfl) (fun _ _ _ h => h) (Or.inl ⟨by rfl, ?_⟩) ?_ ?_
  rotate_left
  ·intro w'
   go_simp
   with_reducible rfl
  rotate_left
  ·simp only [Act.put, Qp1, Qp2, Qp3, i64_w, i32_w]
   rfl
  refine done_ (by kernel_rfl) ?_
  obtain ⟨s0, s1, s2⟩ := hHeld
  have hk2 := (HK.out.low (grown_of_below HB1.out none)).low (grown_of_below s2 none)
  have HG2 : Aside0 (w.grownBy w2 (some mB)) := ⟨grown_then (grown_of_below HB1.out (some mB)) (grown_of_below s2 (some mB))⟩
  have HK2 := Aside0.mk hk2
  have HBLK2 : Aside0 (w2.heap[w.heap.size]? = some (.cells #[.int .i64 (gone : Int)] 3 (0, 0))) := ⟨blk_grown HBLK1.out (grown_of_below s2 none) (by simp)⟩
  clear HAL HBLK1
  obtain ⟨p1, p2, p3, p4, p5, p6⟩ := HLOW.out w2 hk2.grown
  obtain ⟨⟨D, hown, hkn⟩, hgr⟩ := hk2
  have HOWN := Aside0.mk hown
  have hkey := key3 gone hg62
  have S2 := Aside0.mk s2
  have c0e : w2.drew.cell? ⟨tB, 0, none⟩ = some (.slice Ag G.length cg) := s0
  have c1e : w2.drew.cell? ⟨w.heap.size, 0, none⟩ = some (.int .i64 (gone : Int)) := s1
  have c2e : Below w2.heap.size w2 w2.drew := below_drew (Below.refl _ _)
  cases hh : Maps.has D (.int .i64 (gone : Int))
  ·have hr : D.atKey (.int .i64 (gone : Int)) (.lit (.bool false)) = .lit (.bool false) := Maps.atKey_of_not_has hh _
   clear hkn hgr s2 p5 p6 hown
   go_wp2_with (at_lookup; refine wpList_known rfl _ _ rfl mB 512 D rfl HOWN.out _ _ rfl hkey false false hr hh ?_)
   have HAL2 : Aside0 (∀ W, (W.cell? ⟨tB, 0, none⟩ = some (.slice Ag G.length cg) ∧ W.cell? ⟨w.heap.size, 0, none⟩ = some (.int .i64 (gone : Int)) ∧ Below w2.heap.size w2 W) → Calls Tryd.prog 67 #[.slice Ag G.length cg] W fun e w' => e = .returned (.int .i64 (z : Int)) ∧ w'.cell? ⟨tB, 0, none⟩ = some (.slice Ag G.length cg) ∧ w'.cell? ⟨w.heap.size, 0, none⟩ = some (.int .i64 (gone : Int)) ∧ Below w2.heap.size w2 w') := ⟨by
    rintro W ⟨s0, s1, s2⟩
    refine (HALG.out W ((HK2.out.low (grown_of_below s2 none)).grown)).mono ?_
    rintro e w' ⟨rfl, hb⟩
    exact ⟨rfl, (hb.cell (World.block_lt_of_cell? W _ s0)).trans s0, (hb.cell (World.block_lt_of_cell? W _ s1)).trans s1, below_step s2 hb⟩⟩
   have HND2 : Aside0 (∀ W, (W.cell? ⟨tB, 0, none⟩ = some (.slice Ag G.length cg) ∧ W.cell? ⟨w.heap.size, 0, none⟩ = some (.int .i64 (gone : Int)) ∧ Below w2.heap.size w2 W) → Calls Tryd.prog 98 #[.int .i64 (lf : Int)] W fun e w' => ∃ A c, e = .returned (.slice A L.length c) ∧ (∀ V, w'.grownBy V (some mB) → Kd.C (Kd.int .i64) V A L.length (gi L)) ∧ w'.cell? ⟨tB, 0, none⟩ = some (.slice Ag G.length cg) ∧ w'.cell? ⟨w.heap.size, 0, none⟩ = some (.int .i64 (gone : Int)) ∧ Below w2.heap.size w2 w') := ⟨by
    rintro W ⟨s0, s1, s2⟩
    have hkW := HK2.out.low (grown_of_below s2 none)
    refine (HND.out W (HLOW.out W hkW.grown).1 (Nat.lt_of_lt_of_le hmB hkW.grown.size)).mono ?_
    rintro e w' ⟨A, c, rfl, hc, hC, hb⟩
    exact ⟨A, c, rfl, hC, (hb.cell (World.block_lt_of_cell? W _ s0)).trans s0, (hb.cell (World.block_lt_of_cell? W _ s1)).trans s1, below_step s2 hb⟩⟩
   have HCC : Aside0 (∀ W A c, Below w2.heap.size w2 W → (∀ V, W.grownBy V (some mB) → Kd.C (Kd.int .i64) V A L.length (gi L)) → Calls Tryd.prog 54 #[.slice A L.length c, .func (.func 99) #[] #[.pointer (some ⟨tB, 0, none⟩), .pointer (some ⟨w.heap.size, 0, none⟩), .pointer (some ⟨bB, 0, none⟩), .pointer (some ⟨cB, 0, none⟩)]] W fun e w' => e = .returned (.bool (F gone)) ∧ KM W0 w' mB 512 F ∧ W.grownBy w' (some mB)) := ⟨by
    intro W A c hb hC
    have hkW := HK2.out.low (grown_of_below hb none)
    have hblkW := blk_grown HBLK2.out (grown_of_below hb none) (by simp)
    have := contains_can tB w.heap.size bB cB mB 512 F W0 A c (gi L) P W hkW (fun V hV => by rw [gi_length]; exact hC V hV) (by rw [gi_length]; omega) (fun V hKV hV x hx => HREC.out V hKV ((blk_cell (blk_grown hblkW hV (fun e => by have := Option.some.inj e; omega)) 0).trans rfl) x hx)
    rw [gi_length, HANY.out] at this
    exact this⟩
   clear HND HALG HREC HANY
   refine start_ (n := 8) (S := fun w' => w'.cell? ⟨tB, 0, none⟩ = some (.slice Ag G.length cg) ∧ w'.cell? ⟨w.heap.size, 0, none⟩ = some (.int .i64 (gone : Int)) ∧ Below w2.heap.size w2 w') (ds := [6]) (Qbz 8 0) (by kernel_rfl) rfl rfl ⟨c0e, c1e, c2e⟩ (fun hHeld => ?_)
   refine pure_ (i := 5) (N := some 26) (v := ?_) (a' := ?_) (Qbz 8 32) rfl rfl (by kernel_rfl) (fun _ _ _ h => h) (Or.inl ⟨by rfl, ?_⟩) ?_ ?_
   rotate_left
   ·intro w'
    go_simp
    with_reducible rfl
   rotate_left
   ·simp only [Act.put, Qp1, Qp2, Qp3, i64_w, i32_w]
    rfl
   refine take_ (i := 0) (N := some 21) (v := ?_) (a' := ?_) (Qbz 8 33) rfl rfl (by kernel_rfl) (fun _ _ _ h => h) (Or.inl ⟨by rfl, ?_⟩) hHeld ?_ ?_
   rotate_left
   ·rintro w' ⟨s0, s1, s2⟩
    go_simp
    with_reducible rfl
   rotate_left
   ·simp only [Act.put, Qp1, Qp2, Qp3, i64_w, i32_w]
    rfl
   refine take_ (i := 2) (N := some 23) (v := ?_) (a' := ?_) (Qbz 8 37) rfl rfl (by kernel_rfl) (fun _ _ _ h => h) (Or.inl ⟨by rfl, ?_⟩) hHeld ?_ ?_
   rotate_left
   ·rintro w' ⟨s0, s1, s2⟩
    go_simp
    with_reducible rfl
   rotate_left
   ·simp only [Act.put, Qp1, Qp2, Qp3, i64_w, i32_w]
    rfl
   refine one_ (i := 1) (N := some 22) (Qbz 8 39) rfl rfl (by kernel_rfl) (by decide) (fun K hK => ?_)
   refine goes_ Tryd.func67 (by kernel_rfl) rfl #[.slice Ag G.length cg] (by rfl) rfl rfl (by simp only [List.map_toArray, List.map_cons, List.map_nil]; rfl) ?_
   with_reducible refine (HAL2.out _ hHeld).mono ?_
   rintro e w5 ⟨rfl, k0, k1, kB5⟩
   refine ⟨_, rfl, ?_⟩
   refine hK.out _ _ ⟨k0, k1, kB5⟩ (fun hHeld => ?_)
   clear hK K
   refine norm_ (a' := ?_) ?_ ?_
   rotate_left
   ·show Act.put _ (some 22) _ = _
    simp only [Act.put, Qp1, Qp2, Qp3, i64_w, i32_w]
    rfl
   refine pure_ (i := 3) (N := some 24) (v := ?_) (a' := ?_) (Qbz 8 47) rfl rfl (by kernel_rfl) (fun _ _ _ h => h) (Or.inl ⟨by rfl, ?_⟩) ?_ ?_
   rotate_left
   ·intro w'
    go_simp
    with_reducible rfl
   rotate_left
   ·simp only [Act.put, Qp1, Qp2, Qp3, i64_w, i32_w]
    rfl
   refine one_ (i := 4) (N := some 25) (Qbz 8 63) rfl rfl (by kernel_rfl) (by decide) (fun K hK => ?_)
   refine goes_ Tryd.func98 (by kernel_rfl) rfl #[.int .i64 (lf : Int)] (by rfl) rfl rfl (by simp only [List.map_toArray, List.map_cons, List.map_nil]; rfl) ?_
   with_reducible refine (HND2.out _ hHeld).mono ?_
   rintro e w6 ⟨A6, c6, rfl, hC6, k0, k1, kB6⟩
   refine ⟨_, rfl, ?_⟩
   have HC6 := Aside0.mk hC6
   clear hC6
   refine hK.out _ _ ⟨k0, k1, kB6⟩ (fun hHeld => ?_)
   clear hK K
   refine norm_ (a' := ?_) ?_ ?_
   rotate_left
   ·show Act.put _ (some 25) _ = _
    simp only [Act.put, Qp1, Qp2, Qp3, i64_w, i32_w]
    rfl
   refine last_ (i := 6) (N := some 27) (Qbz 8 127) rfl rfl (by kernel_rfl) (by decide) (fun K hK => ?_)
   refine goes_ Tryd.func54 (by kernel_rfl) rfl #[.slice A6 L.length c6, .func (.func 99) #[] #[.pointer (some ⟨tB, 0, none⟩), .pointer (some ⟨w.heap.size, 0, none⟩), .pointer (some ⟨bB, 0, none⟩), .pointer (some ⟨cB, 0, none⟩)]] (by rfl) rfl rfl (by simp only [List.map_toArray, List.map_cons, List.map_nil]; rfl) ?_
   with_reducible refine (HCC.out _ _ _ hHeld.2.2 HC6.out).mono ?_
   rintro e w7 ⟨rfl, hK7, hG7⟩
   have HK7 := Aside0.mk hK7
   have HG7 := Aside0.mk hG7
   have HB6 := Aside0.mk kB6
   clear hK7 hG7 kB6
   refine ⟨_, rfl, ?_⟩
   refine hK.out _ _ ?_
   clear hK K
   refine norm_ (a' := ?_) ?_ ?_
   rotate_left
   ·show Act.put _ (some 27) _ = _
    simp only [Act.put, Qp1, Qp2, Qp3, i64_w, i32_w]
    rfl
   refine pure_ (i := 7) (N := some 7) (v := ?_) (a' := ?_) (Qbz 8 255) rfl rfl (by kernel_rfl) (fun _ _ _ h => h) (Or.inl ⟨by rfl, ?_⟩) ?_ ?_
   rotate_left
   ·intro w'
    go_simp
    with_reducible rfl
   rotate_left
   ·simp only [Act.put, Qp1, Qp2, Qp3, i64_w, i32_w]
    rfl
   refine done_ (by kernel_rfl) ?_
   have hG27 := grown_then (grown_of_below HB6.out (some mB)) HG7.out
   obtain ⟨n1, n2, n3, n4, n5, n6⟩ := HLOW.out w7 HK7.out.grown
   have n7 : w7.cell? ⟨w.heap.size, 0, none⟩ = some (.int .i64 (gone : Int)) := (blk_cell (blk_grown HBLK2.out hG27 (fun e => by have := Option.some.inj e; omega)) 0).trans rfl
   obtain ⟨⟨D7, hown7, hkn7⟩, hgr7⟩ := HK7.out
   have HOWN7 := Aside0.mk hown7
   have HKN7 := Aside0.mk hkn7
   have HG27 := Aside0.mk hG27
   clear hown7 hkn7 hgr7 hG27 n1 n2 n3 n5 n6
   go_wp2_with (at_mapUpdate; refine wpList_mapUpdate_own _ rfl _ _ _ _ rfl 3 4 law3 undM (plainElem Tryd.prog 4) mB 512 D7 rfl HOWN7.out (by unfold maxLen; omega) _ _ _ rfl rfl hkey _ [] (plainElem_bool und4 (F gone)) ?_; intro w8 hown8 hgrow8; have HOWN8 := Aside0.mk hown8; have HG8 := Aside0.mk hgrow8; clear hown8 hgrow8)
   go_ret
   exact ⟨rfl, HK7.out.put HKN7.out hg512 (by omega) HOWN8.out HOWN7.out.isMap HG8.out, grown_then (grown_then HG2.out HG27.out) HG8.out⟩
  ·have hr := hkn.2 gone hg512 hh
   clear hkn hgr s2 p5 p6 hown HREC HANY HND HALG c0e c1e c2e
   go_wp2_with (at_lookup; refine wpList_known rfl _ _ rfl mB 512 D rfl HOWN.out _ _ rfl hkey (F gone) true hr hh ?_)
   go_ret
   exact ⟨rfl, HK2.out, HG2.out⟩
theorem undS : Tryd.prog.underlying 22 = some (.slice 3) := by kernel_rfl
theorem width_callsO {G : List Nat} (hG : Gr 9 G) {W : Nat} (hW : IsWidth G W) (Ag : Option Addr) (cg : Nat) (hcg : G.length ≤ cg) (w : World) (hGL : GL w) (h1 : Kd.C (Kd.int .i64) w Ag (gi G).length (gi G)) :
  Calls Tryd.prog 60 #[.slice Ag G.length cg] w fun e w' => e = .returned (.int .i64 (W : Int)) ∧ Below w.heap.size w w' := by
 obtain ⟨W', hW', hE⟩ := width_ev G hG
 rw [hW'.uniq hW] at hE
 obtain ⟨K, hK⟩ := hE
 have := width_town_width.calls K Ag cg (gi G) _ w hGL h1 (by rw [gi_length]; exact hcg) (hK K (Nat.le_refl _))
 rw [gi_length] at this
 exact this
set_option maxHeartbeats 1500000 in
set_option maxRecDepth 100000 in
theorem order_calls (Ag : Option Addr) (cg : Nat) (G : List Nat) (hG : Gr 9 G) (hcg : G.length ≤ cg) (bs : Nat) (hbs : IsWidth G bs) (w : World) (hGL : GL w) (hrg : Kd.C (Kd.int .i64) w Ag (gi G).length (gi G)) :
  Calls Tryd.prog 73 #[.slice Ag G.length cg] w fun e w' => ∃ v, e = .returned v ∧ Kd.R (Kd.int .i64) 3 w' w.heap.size (fun _ => True) v (gi (ordL G bs)) ∧ Below w.heap.size w w' := by
 have hn := hG.most
 obtain ⟨wt, hwt⟩ : ∃ W : World, W = w.alloc (.cells #[.slice Ag G.length cg] 73) := ⟨_, rfl⟩
 have hBt : Below w.heap.size w wt := by rw [hwt]; exact below_alloc (Below.refl _ _) _
 have htb : wt.heap[w.heap.size]? = some (.cells #[.slice Ag G.length cg] 73 (0, 0)) := by rw [hwt]; exact Array.getElem?_push_size
 have htc : wt.cell? ⟨w.heap.size, 0, none⟩ = some (.slice Ag G.length cg) := (blk_cell htb 0).trans rfl
 have hszt : wt.heap.size = w.heap.size + 1 := by rw [hwt]; simp
 have HWD : Aside0 (Calls Tryd.prog 60 #[.slice Ag G.length cg] wt fun e w' => e = .returned (.int .i64 (bs : Int)) ∧ Below wt.heap.size wt w') := ⟨width_callsO hG hbs Ag cg hcg wt (GL_below hGL hBt) (Kd.C_below hrg hBt)⟩
 have HBT := Aside0.mk hBt
 have HTB := Aside0.mk htb
 have HGL := Aside0.mk hGL
 have HRG := Aside0.mk hrg
 rw [hwt] at htc HWD
 clear hGL hrg hBt htb
 go_enter Tryd.func73, Tryd.ntmps73
 go_wp2_with (go_at_call 60; refine HWD.out.mono ?_; rintro e w1 ⟨rfl, hb1⟩; rw [← hwt] at hb1; have HB1 := Aside0.mk hb1; clear hb1)
 obtain ⟨W0, hW0⟩ : ∃ W0 : World, W0 = ((((w1.alloc (Obj.cells #[Value.int IntKind.i64 (bs : Int)] 3)).alloc (Obj.map #[] 0)).alloc (Obj.cells #[Value.map (some (w1.heap.size + 1))] 96)).alloc (Obj.cells #[.func (.func 97) #[] #[.pointer (some ⟨w.heap.size, 0, none⟩), .pointer (some ⟨w1.heap.size + 1 + 1, 0, none⟩), .pointer (some ⟨w1.heap.size, 0, none⟩), .pointer (some ⟨w1.heap.size + 1 + 1 + 1, 0, none⟩)]] 68)) := ⟨_, rfl⟩
 rw [← hW0]
 have hs1 : w.heap.size + 1 ≤ w1.heap.size := by have := HB1.out.size; omega
 have hsz : W0.heap.size = w1.heap.size + 4 := by rw [hW0]; simp
 have hBW : Below w1.heap.size w1 W0 := by rw [hW0]; exact below_alloc (below_alloc (below_alloc (below_alloc (Below.refl _ _) _) _) _) _
 have hbt : W0.heap[w.heap.size]? = some (.cells #[.slice Ag G.length cg] 73 (0, 0)) := blk_grown (blk_grown HTB.out (grown_of_below HB1.out none) (by simp)) (grown_of_below hBW none) (by simp)
 have hbb : W0.heap[w1.heap.size]? = some (.cells #[.int .i64 (bs : Int)] 3 (0, 0)) := by
  rw [hW0]
  exact blk_alloc (blk_alloc (blk_alloc (show (w1.heap.push _)[w1.heap.size]? = _ from Array.getElem?_push_size) _) _) _
 have hbk : W0.heap[w1.heap.size + 1 + 1]? = some (.cells #[.map (some (w1.heap.size + 1))] 96 (0, 0)) := by
  rw [hW0]
  refine blk_alloc ?_ _
  have : ((w1.alloc (Obj.cells #[Value.int IntKind.i64 (bs : Int)] 3)).alloc (Obj.map #[] 0)).heap.size = w1.heap.size + 1 + 1 := by simp
  rw [← this]
  exact (show (Array.push _ _)[_]? = _ from Array.getElem?_push_size)
 have hbc : W0.heap[w1.heap.size + 1 + 1 + 1]? = some (.cells #[.func (.func 97) #[] #[.pointer (some ⟨w.heap.size, 0, none⟩), .pointer (some ⟨w1.heap.size + 1 + 1, 0, none⟩), .pointer (some ⟨w1.heap.size, 0, none⟩), .pointer (some ⟨w1.heap.size + 1 + 1 + 1, 0, none⟩)]] 68 (0, 0)) := by
  rw [hW0]
  have : (((w1.alloc (Obj.cells #[Value.int IntKind.i64 (bs : Int)] 3)).alloc (Obj.map #[] 0)).alloc (Obj.cells #[Value.map (some (w1.heap.size + 1))] 96)).heap.size = w1.heap.size + 1 + 1 + 1 := by simp
  rw [← this]
  exact (show (Array.push _ _)[_]? = _ from Array.getElem?_push_size)
 have hmap : W0.ownsMap Tryd.prog 3 (plainElem Tryd.prog 4) (w1.heap.size + 1) 512 (.map [] : DataW Unit) := by
  rw [hW0]
  have := World.ownsMap_made (H := Unit) (w1.alloc (Obj.cells #[Value.int IntKind.i64 (bs : Int)] 3)) Tryd.prog 3 (plainElem Tryd.prog 4)
  rw [show (w1.alloc (Obj.cells #[Value.int IntKind.i64 (bs : Int)] 3)).heap.size = w1.heap.size + 1 by simp] at this
  exact ((this.alloc _).alloc _).mono (by omega)
 clear hW0
 have hKM0 : KM W0 W0 (w1.heap.size + 1) 512 (canB G bs) := ⟨⟨_, hmap, (by
  refine ⟨?_, ?_⟩
  ·intro kl h; cases h
  ·intro g _ h; cases h)⟩, World.grownBy.refl _ _⟩
 have hlow : ∀ W, W0.grownBy W (some (w1.heap.size + 1)) → GL W ∧ Kd.C (Kd.int .i64) W Ag (gi G).length (gi G) ∧ W.cell? ⟨w.heap.size, 0, none⟩ = some (.slice Ag G.length cg) ∧ W.cell? ⟨w1.heap.size + 1 + 1, 0, none⟩ = some (.map (some (w1.heap.size + 1))) ∧ W.cell? ⟨w1.heap.size, 0, none⟩ = some (.int .i64 (bs : Int)) ∧ W.cell? ⟨w1.heap.size + 1 + 1 + 1, 0, none⟩ = some (canV w.heap.size (w1.heap.size + 1 + 1) w1.heap.size (w1.heap.size + 1 + 1 + 1)) := fun W hW => by
  have hB01 := below_step HBT.out HB1.out
  have hB02 := below_step hB01 hBW
  have hB : Below w.heap.size w W := ⟨hW.os.trans hB02.os, hW.tape.trans hB02.tape, hW.output.trans hB02.output, Nat.le_trans hB02.size hW.size, fun k hk => (hW.block k (by omega) (fun e => by have := Option.some.inj e; omega)).trans (hB02.block k hk)⟩
  exact ⟨GL_below HGL.out hB, Kd.C_below HRG.out hB, (blk_cell (blk_grown hbt hW (fun e => by have := Option.some.inj e; omega)) 0).trans rfl, (blk_cell (blk_grown hbk hW (fun e => by have := Option.some.inj e; omega)) 0).trans rfl, (blk_cell (blk_grown hbb hW (fun e => by have := Option.some.inj e; omega)) 0).trans rfl, (blk_cell (blk_grown hbc hW (fun e => by have := Option.some.inj e; omega)) 0).trans rfl⟩
 have HFIN : Aside0 (∀ W, W0.grownBy W (some (w1.heap.size + 1)) → Below w.heap.size w W) := ⟨fun W hW => by
  have hB02 := below_step (below_step HBT.out HB1.out) hBW
  exact ⟨hW.os.trans hB02.os, hW.tape.trans hB02.tape, hW.output.trans hB02.output, Nat.le_trans hB02.size hW.size, fun k hk => (hW.block k (by omega) (fun e => by have := Option.some.inj e; omega)).trans (hB02.block k hk)⟩⟩
 have HLOW := Aside0.mk hlow
 have HALL : Aside0 (∀ W, W0.grownBy W (some (w1.heap.size + 1)) → Calls Tryd.prog 67 #[.slice Ag G.length cg] W fun e w' => e = .returned (.int .i64 ((2 ^ G.length - 1 : Nat) : Int)) ∧ Below W.heap.size W w') := ⟨fun W hW => all_callsO hG Ag cg hcg W (HLOW.out W hW).2.1⟩
 have HDEG : Aside0 (∀ (W : World) (gone v : Nat), gone < 2 ^ G.length → v < G.length → W0.grownBy W (some (w1.heap.size + 1)) → Calls Tryd.prog 75 #[.slice Ag G.length cg, .int .i64 (v : Int), .int .i64 (gone : Int)] W fun e w' => e = .returned (.int .i64 ((dg G gone v : Nat) : Int)) ∧ Below W.heap.size W w') := ⟨fun W gone v hg hv hW => degree_callsO hG hg hv Ag cg hcg W (HLOW.out W hW).1 (HLOW.out W hW).2.1⟩
 have HCAN : Aside0 (∀ (V : World) (gone : Nat), gone < 2 ^ G.length → KM W0 V (w1.heap.size + 1) 512 (canB G bs) → Calls Tryd.prog 97 #[.int .i64 (gone : Int), .pointer (some ⟨w.heap.size, 0, none⟩), .pointer (some ⟨w1.heap.size + 1 + 1, 0, none⟩), .pointer (some ⟨w1.heap.size, 0, none⟩), .pointer (some ⟨w1.heap.size + 1 + 1 + 1, 0, none⟩)] V fun e w' => e = .returned (.bool (canB G bs gone)) ∧ KM W0 w' (w1.heap.size + 1) 512 (canB G bs) ∧ V.grownBy w' (some (w1.heap.size + 1))) := ⟨fun V gone hg hV => can_grow w.heap.size (w1.heap.size + 1 + 1) w1.heap.size (w1.heap.size + 1 + 1 + 1) (w1.heap.size + 1) W0 (by omega) Ag cg G hG hcg bs hlow _ gone V rfl hg hV⟩
 have HKM0 := Aside0.mk hKM0
 have h2n := Nat.two_pow_pos G.length
 have hpc0 : pc (lft G 0) 9 = G.length := by
  have e : lft G 0 = 2 ^ G.length - 1 := eq_bits fun j => by rw [lft_bit, all_bit]; simp [bset]
  rw [e]
  have : ∀ i : Fin 10, pc (2 ^ i.val - 1) 9 = i.val := by decide
  exact this ⟨G.length, by omega⟩
 have hc0 : canB G bs 0 = true := (canB_zero hn hG).2 ((hbs bs).1 (Nat.le_refl _))
 have HC0 := Aside0.mk hc0
 have HBS := Aside0.mk hbs
 have HGR := Aside0.mk hG
 have H2N := Aside0.mk h2n
 have hmB : w1.heap.size + 1 < W0.heap.size := by omega
 clear hbt hbb hbk hbc hmap hlow hBW hKM0 hwt htc hszt hbs hG hc0 h2n
 go_loopg [6, 7] G.length (fun kq v6 v7 w' => ∃ (gone : Nat) (M : List Nat), v7 = .int .i64 (gone : Int) ∧ pc (lft G gone) 9 = kq ∧ M.length + kq = G.length ∧ Aside0 (gone < 2 ^ G.length) ∧ Aside0 (canB G bs gone = true) ∧ Aside0 (M ++ ordD G bs kq gone = ordL G bs) ∧ Aside0 (KM W0 w' (w1.heap.size + 1) 512 (canB G bs) ∧ w'.ownsRow W0.heap.size 3 1 v6 M.length ((gi M).map (Value.int .i64))))
 case atStart => exact ⟨0, [], rfl, hpc0, by simp, H2N, HC0, ⟨rfl⟩, ⟨HKM0.out, ⟨rfl, .inl ⟨rfl, rfl⟩⟩⟩⟩
 case round =>
  clear HC0 hpc0
  obtain ⟨gone, M, rfl, hpc, hMl, HG1, HC1, HM1, HX1⟩ := hrel
  obtain ⟨A6, c6, e6⟩ := ownsRow_form2 HX1.out.2
  subst e6
  have ht0 : wr.cell? ⟨w.heap.size, 0, none⟩ = some (.slice Ag G.length cg) := (HLOW.out wr HX1.out.1.grown).2.2.1
  have hg512 := smallO hn HG1.out
  have hall512 : 2 ^ G.length - 1 < 512 := by
   have h2 : 2 ^ G.length ≤ 2 ^ 9 := Nat.pow_le_pow_right (by omega) hn
   have h3 := H2N.out
   omega
  by_cases hall : gone = 2 ^ G.length - 1
  ·have hk0 : gk = 0 := by rw [← hpc, hall, lft_all]; rfl
   subst hk0
   have hne : (((gone : Int)) != ((2 ^ G.length - 1 : Nat) : Int)) = false := by rw [hall]; simp
   have HAL := Aside0.mk (HALL.out wr HX1.out.1.grown)
   rw [← hall] at HAL
   have HM2 : Aside0 (M = ordL G bs) := ⟨by have := HM1.out; simpa [ordD] using this⟩
   clear hall hall512 hne
   go_wp2_with (go_at_call 67; refine HAL.out.mono ?_; rintro e w3 ⟨rfl, hb3⟩; have HB3 := Aside0.mk hb3; clear hb3)
   go_ret
   refine ⟨_, rfl, ?_, HFIN.out _ ((HX1.out.1.low (grown_of_below HB3.out none)).grown)⟩
   have ho := own_kept HX1.out.2 (grown_of_below HB3.out none) (fun _ _ e => by cases e)
   rw [← HM2.out]
   rw [← gi_length M] at ho
   have hR := Kd.R_of_own (h1 := fun _ => rfl) (ok := fun _ => True) ho (fun _ _ => trivial)
   rw [gi_length] at hR
   have hR2 := Kd.R_lower hR (show w.heap.size ≤ W0.heap.size by omega)
   exact hR2
  ·have hne : (((gone : Int)) != ((2 ^ G.length - 1 : Nat) : Int)) = true := by
    have : (((gone : Int)) == ((2 ^ G.length - 1 : Nat) : Int)) = false := beq_eq_false_iff_ne.2 (by omega)
    rw [bne, this]; rfl
   have hne2 : (((gone : Int)) == ((2 ^ G.length - 1 : Nat) : Int)) = false := beq_eq_false_iff_ne.2 (by omega)
   cases gk with
   | zero => exact absurd hpc (pc_pos (smallO hn (lft_lt G gone)) (lft_ne HG1.out hall))
   | succ d =>
   have hand : Go.bits .andNot .i64 ((2 ^ G.length - 1 : Nat) : Int) (gone : Int) = ((lft G gone : Nat) : Int) := b_andNot _ _ (by omega) (by omega)
   obtain ⟨L, hL⟩ : ∃ L : List Nat, L = els (lft G gone) 9 := ⟨_, rfl⟩
   have hfind : ∃ x, L.find? (nextP G bs gone) = some x := by
    obtain ⟨v, h1, h2, h3⟩ := (canB_true hn HG1.out hall).1 HC1.out
    have hm : v ∈ L := by rw [hL]; exact mem_els.2 ⟨bit_lt (lft_small hn gone) h1, h1⟩
    cases hf : L.find? (nextP G bs gone) with
    | some x => exact ⟨x, rfl⟩
    | none =>
     have := List.find?_eq_none.1 hf v hm
     unfold nextP at this
     rw [h3, decide_eq_true h2] at this
     simp at this
   obtain ⟨x, hx⟩ := hfind
   have HM2 : Aside0 (M ++ x :: ordD G bs d (gone ||| 2 ^ x) = ordL G bs) := ⟨by
    have := HM1.out
    rw [ordD, ← hL, hx] at this
    exact this⟩
   have hxL : x ∈ L := List.mem_of_find?_eq_some hx
   have hxp : nextP G bs gone x = true := List.find?_some hx
   have hLb : ∀ u ∈ L, bset (lft G gone) u := fun u hu => by rw [hL] at hu; exact (mem_els.1 hu).2
   have hLlen : L.length ≤ 9 := by rw [hL, els_length]; exact pc_le _ 9
   have HND : Aside0 (∀ W, GL W → w1.heap.size + 1 < W.heap.size → Calls Tryd.prog 98 #[.int .i64 ((lft G gone : Nat) : Int)] W fun e w' => ∃ A c, e = .returned (.slice A L.length c) ∧ L.length ≤ c ∧ (∀ V, w'.grownBy V (some (w1.heap.size + 1)) → Kd.C (Kd.int .i64) V A L.length (gi L)) ∧ Below W.heap.size W w') := ⟨fun W hGLW hW => by
    rw [hL]
    exact nodes_callsO (smallO hn (lft_lt G gone)) (w1.heap.size + 1) W hW hGLW⟩
   have HLB := Aside0.mk hLb
   have HXB := Aside0.mk (hLb x hxL)
   have HXP := Aside0.mk hxp
   have HF0 : Aside0 ((L.drop 0).find? (nextP G bs gone) = some x) := ⟨hx⟩
   have HPC : Aside0 (pc (lft G (gone ||| 2 ^ x)) 9 = d) := ⟨by have := pc_lft hn (hLb x hxL); omega⟩
   have HAL := Aside0.mk (fun W hW => HALL.out W hW)
   obtain ⟨z, hz⟩ : ∃ z : Nat, z = 2 ^ G.length - 1 := ⟨_, rfl⟩
   rw [← hz] at hne hne2 hand HAL
   generalize hlf : lft G gone = lf at HND hand
   clear hL hx hxL hxp hLb hpc hall hall512 hz HM1 HALL
   go_wp2_with (first
    | (go_at_call 67; refine (HAL.out _ (by first | exact (HX1.out.1.low (grown_of_below HBA.out none)).grown | exact HX1.out.1.grown)).mono ?_; rintro e w3 ⟨rfl, hb3⟩; have HBA := Aside0.mk (by first | exact below_step HBA.out hb3 | exact hb3); have ht3 := (hb3.cell (World.block_lt_of_cell? _ _ (by assumption))).trans (by assumption); clear hb3)
    | (go_at_call 98; refine (HND.out _ (HLOW.out _ (HX1.out.1.low (grown_of_below HBA.out none)).grown).1 (Nat.lt_of_lt_of_le hmB (HX1.out.1.low (grown_of_below HBA.out none)).grown.size)).mono ?_; rintro e w5 ⟨An, cn, rfl, hcn, hCn, hb5⟩; have HCN := Aside0.mk hCn; have HB5 := Aside0.mk (below_step HBA.out hb5); clear hCn hb5))
   have HX5 : Aside0 (KM W0 w5 (w1.heap.size + 1) 512 (canB G bs) ∧ w5.ownsRow W0.heap.size 3 1 (.slice A6 M.length c6) M.length ((gi M).map (Value.int .i64))) := ⟨HX1.out.1.low (grown_of_below HB5.out none), own_kept HX1.out.2 (grown_of_below HB5.out none) (fun _ _ e => by cases e)⟩
   clear HX1 HND HAL hand hne hne2
   obtain ⟨wo, rfl⟩ : ∃ wo : World, wo = w5 := ⟨_, rfl⟩
   go_loopg [24, 6, 7] L.length (fun iq v24 v6 v7 w' => ∃ i : Nat, v24 = .int .i64 (i : Int) ∧ v6 = .slice A6 M.length c6 ∧ v7 = .int .i64 (gone : Int) ∧ i + iq = L.length ∧ Aside0 ((L.drop i).find? (nextP G bs gone) = some x) ∧ Aside0 (KM W0 w' (w1.heap.size + 1) 512 (canB G bs) ∧ wo.grownBy w' (some (w1.heap.size + 1))))
   case atStart => exact ⟨0, rfl, rfl, rfl, by omega, HF0, ⟨HX5.out.1, World.grownBy.refl _ _⟩⟩
   case round =>
    clear HF0
    obtain ⟨i, rfl, rfl, rfl, hi, HF, HW⟩ := hrel
    have hil : i < L.length := Nat.lt_of_not_le fun h => by
     have := HF.out
     rw [List.drop_eq_nil_of_le h] at this
     cases this
    have hi1 : ((i : Int) < (L.length : Int)) = True := eq_true (by omega)
    have hi2 : decide ((i : Int) < (L.length : Int)) = true := decide_eq_true (by omega)
    cases gk with
    | zero => omega
    | succ gi' =>
    obtain ⟨ad, e1, hgx⟩ := Kd.at_int (HCN.out wr HW.out.2) (i : Int) (by omega) (by omega)
    subst e1
    rw [rd_gi, Int.toNat_natCast] at hgx
    have hf := HF.out
    rw [List.drop_eq_getElem_cons hil, List.find?_cons] at hf
    have hum : L[i] ∈ L := List.getElem_mem hil
    have hue : L.getD i 0 = L[i] := by rw [List.getD_eq_getElem?_getD, List.getElem?_eq_getElem hil]; rfl
    rw [hue] at hgx
    generalize L[i] = u at *
    have hub := HLB.out u hum
    have hun : u < G.length := ((lft_bit G gone u).1 hub).1
    obtain ⟨q1, q2, q3, q4, q5, q6⟩ := HLOW.out wr HW.out.1.grown
    have c0d : wr.drew.cell? ⟨w.heap.size, 0, none⟩ = some (.slice Ag G.length cg) := q3
    have c1d : wr.drew.cell? ⟨w1.heap.size, 0, none⟩ = some (.int .i64 (bs : Int)) := q5
    have c2d : wr.drew.cell? ⟨w1.heap.size + 1 + 1 + 1, 0, none⟩ = some (.func (.func 97) #[] #[.pointer (some ⟨w.heap.size, 0, none⟩), .pointer (some ⟨w1.heap.size + 1 + 1, 0, none⟩), .pointer (some ⟨w1.heap.size, 0, none⟩), .pointer (some ⟨w1.heap.size + 1 + 1 + 1, 0, none⟩)]) := q6
    have c3d : Below wr.heap.size wr wr.drew := below_drew (Below.refl _ _)
    have HKR := Aside0.mk HW.out.1
    have HGR2 := Aside0.mk HW.out.2
    obtain ⟨N, ⟨hS1, hS2, hS3⟩, hNv⟩ := shK u (by omega)
    have h2u : 2 ^ u < 2 ^ G.length := Nat.pow_lt_pow_right (by omega) hun
    have hor : Go.bits .or .i64 (gone : Int) N = ((gone ||| 2 ^ u : Nat) : Int) := by
     rw [hNv, b_or _ _ (Nat.lt_of_lt_of_le hg512 (by decide)) (Nat.lt_of_lt_of_le (smallO hn h2u) (by decide))]
    have HDG : Aside0 (∀ W, (W.cell? ⟨w.heap.size, 0, none⟩ = some (.slice Ag G.length cg) ∧ W.cell? ⟨w1.heap.size, 0, none⟩ = some (.int .i64 (bs : Int)) ∧ W.cell? ⟨w1.heap.size + 1 + 1 + 1, 0, none⟩ = some (.func (.func 97) #[] #[.pointer (some ⟨w.heap.size, 0, none⟩), .pointer (some ⟨w1.heap.size + 1 + 1, 0, none⟩), .pointer (some ⟨w1.heap.size, 0, none⟩), .pointer (some ⟨w1.heap.size + 1 + 1 + 1, 0, none⟩)]) ∧ Below wr.heap.size wr W) → Calls Tryd.prog 75 #[.slice Ag G.length cg, .int .i64 (u : Int), .int .i64 (gone : Int)] W fun e w' => e = .returned (.int .i64 ((dg G gone u : Nat) : Int)) ∧ w'.cell? ⟨w.heap.size, 0, none⟩ = some (.slice Ag G.length cg) ∧ w'.cell? ⟨w1.heap.size, 0, none⟩ = some (.int .i64 (bs : Int)) ∧ w'.cell? ⟨w1.heap.size + 1 + 1 + 1, 0, none⟩ = some (.func (.func 97) #[] #[.pointer (some ⟨w.heap.size, 0, none⟩), .pointer (some ⟨w1.heap.size + 1 + 1, 0, none⟩), .pointer (some ⟨w1.heap.size, 0, none⟩), .pointer (some ⟨w1.heap.size + 1 + 1 + 1, 0, none⟩)]) ∧ Below wr.heap.size wr w') := ⟨by
     rintro W ⟨s0, s1, s2, s3⟩
     refine (HDEG.out W gone u HG1.out hun ((HKR.out.low (grown_of_below s3 none)).grown)).mono ?_
     rintro e w' ⟨rfl, hb⟩
     exact ⟨rfl, (hb.cell (World.block_lt_of_cell? W _ s0)).trans s0, (hb.cell (World.block_lt_of_cell? W _ s1)).trans s1, (hb.cell (World.block_lt_of_cell? W _ s2)).trans s2, below_step s3 hb⟩⟩
    have HREC : Aside0 (∀ V, KM W0 V (w1.heap.size + 1) 512 (canB G bs) → Calls Tryd.prog 97 #[.int .i64 ((gone ||| 2 ^ u : Nat) : Int), .pointer (some ⟨w.heap.size, 0, none⟩), .pointer (some ⟨w1.heap.size + 1 + 1, 0, none⟩), .pointer (some ⟨w1.heap.size, 0, none⟩), .pointer (some ⟨w1.heap.size + 1 + 1 + 1, 0, none⟩)] V fun e w' => e = .returned (.bool (canB G bs (gone ||| 2 ^ u))) ∧ KM W0 w' (w1.heap.size + 1) 512 (canB G bs) ∧ V.grownBy w' (some (w1.heap.size + 1))) := ⟨fun V hV => HCAN.out V _ (or_in HG1.out hub) hV⟩
    have HOR : Aside0 (gone ||| 2 ^ u < 2 ^ G.length) := ⟨or_in HG1.out hub⟩
    clear HF HW q1 q2 q3 q4 q5 q6 hNv h2u hum hue hub
    by_cases hp : nextP G bs gone u = true
    ·rw [hp] at hf
     obtain rfl : u = x := Option.some.inj hf
     have hp2 := hp
     unfold nextP at hp2
     rw [Bool.and_eq_true, decide_eq_true_eq] at hp2
     obtain ⟨hle, hcan⟩ := hp2
     rw [hcan] at HREC
     have HCANT := Aside0.mk hcan
     generalize gone ||| 2 ^ u = gone' at *
     generalize dg G gone u = dv at *
     have hdec1 : ((dv : Int) ≤ (bs : Int)) = True := eq_true (by omega)
     have hdec2 : decide ((dv : Int) ≤ (bs : Int)) = true := decide_eq_true (by omega)
     clear hf hp hcan HXP HXB HLB
     go_wp2
     refine start_ (n := 14) (S := fun w' => w'.cell? ⟨w.heap.size, 0, none⟩ = some (.slice Ag G.length cg) ∧ w'.cell? ⟨w1.heap.size, 0, none⟩ = some (.int .i64 (bs : Int)) ∧ w'.cell? ⟨w1.heap.size + 1 + 1 + 1, 0, none⟩ = some (.func (.func 97) #[] #[.pointer (some ⟨w.heap.size, 0, none⟩), .pointer (some ⟨w1.heap.size + 1 + 1, 0, none⟩), .pointer (some ⟨w1.heap.size, 0, none⟩), .pointer (some ⟨w1.heap.size + 1 + 1 + 1, 0, none⟩)]) ∧ Below wr.heap.size wr w') (ds := [12]) (Qbz 14 0) (by kernel_rfl) rfl rfl ⟨c0d, c1d, c2d, c3d⟩ (fun hHeld => ?_)
     refine pure_ (i := 1) (N := some 29) (v := ?_) (a' := ?_) (Qbz 14 2) rfl rfl (by kernel_rfl) (fun _ _ _ h => h) (Or.inl ⟨by rfl, ?_⟩) ?_ ?_
     rotate_left
     ·intro w'
      go_simp
      with_reducible rfl
     rotate_left
     ·simp only [Act.put, Qp1, Qp2, Qp3, i64_w, i32_w]
      rfl
     refine pure_ (i := 2) (N := some 30) (v := ?_) (a' := ?_) (Qbz 14 6) rfl rfl (by kernel_rfl) (fun _ _ _ h => h) (Or.inl ⟨by rfl, ?_⟩) ?_ ?_
     rotate_left
     ·intro w'
      go_simp
      with_reducible rfl
     rotate_left
     ·simp only [Act.put, Qp1, Qp2, Qp3, i64_w, i32_w]
      rfl
     refine take_ (i := 0) (N := some 28) (v := ?_) (a' := ?_) (Qbz 14 7) rfl rfl (by kernel_rfl) (fun _ _ _ h => h) (Or.inl ⟨by rfl, ?_⟩) hHeld ?_ ?_
     rotate_left
     ·rintro w' ⟨s0, s1, s2, s3⟩
      go_simp
      with_reducible rfl
     rotate_left
     ·simp only [Act.put, Qp1, Qp2, Qp3, i64_w, i32_w]
      rfl
     refine take_ (i := 4) (N := some 32) (v := ?_) (a' := ?_) (Qbz 14 23) rfl rfl (by kernel_rfl) (fun _ _ _ h => h) (Or.inl ⟨by rfl, ?_⟩) hHeld ?_ ?_
     rotate_left
     ·rintro w' ⟨s0, s1, s2, s3⟩
      go_simp
      with_reducible rfl
     rotate_left
     ·simp only [Act.put, Qp1, Qp2, Qp3, i64_w, i32_w]
      rfl
     refine one_ (i := 3) (N := some 31) (Qbz 14 31) rfl rfl (by kernel_rfl) (by decide) (fun K hK => ?_)
     refine goes_ Tryd.func75 (by kernel_rfl) rfl #[.slice Ag G.length cg, .int .i64 (u : Int), .int .i64 (gone : Int)] (by rfl) rfl rfl (by simp only [List.map_toArray, List.map_cons, List.map_nil]; rfl) ?_
     with_reducible refine (HDG.out _ hHeld).mono ?_
     rintro e w9 ⟨rfl, k0, k1, k2, kB9⟩
     refine ⟨_, rfl, ?_⟩
     refine hK.out _ _ ⟨k0, k1, k2, kB9⟩ (fun hHeld => ?_)
     clear hK K
     refine norm_ (a' := ?_) ?_ ?_
     rotate_left
     ·show Act.put _ (some 31) _ = _
      simp only [Act.put, Qp1, Qp2, Qp3, i64_w, i32_w]
      rfl
     refine pure_ (i := 5) (N := some 33) (v := ?_) (a' := ?_) (Qbz 14 63) rfl rfl (by kernel_rfl) (fun _ _ _ h => h) (Or.inl ⟨by rfl, ?_⟩) ?_ ?_
     rotate_left
     ·intro w'
      go_simp
      with_reducible rfl
     rotate_left
     ·simp only [Act.put, Qp1, Qp2, Qp3, i64_w, i32_w]
      rfl
     refine pure_ (i := 6) (N := some 34) (v := ?_) (a' := ?_) (Qbz 14 127) rfl rfl (by kernel_rfl) (fun _ _ _ h => h) (Or.inl ⟨by rfl, ?_⟩) ?_ ?_
     rotate_left
     ·intro w'
      go_simp
      with_reducible rfl
     rotate_left
     ·simp only [Act.put, Qp1, Qp2, Qp3, i64_w, i32_w]
      rfl
     refine pure_ (i := 8) (N := some 36) (v := ?_) (a' := ?_) (Qbz 14 383) rfl rfl (by kernel_rfl) (fun _ _ _ h => h) (Or.inl ⟨by rfl, ?_⟩) ?_ ?_
     rotate_left
     ·intro w'
      go_simp
      with_reducible rfl
     rotate_left
     ·simp only [Act.put, Qp1, Qp2, Qp3, i64_w, i32_w]
      rfl
     refine pure_ (i := 9) (N := some 37) (v := ?_) (a' := ?_) (Qbz 14 895) rfl rfl (by kernel_rfl) (fun _ _ _ h => h) (Or.inl ⟨by rfl, ?_⟩) ?_ ?_
     rotate_left
     ·intro w'
      go_simp
      with_reducible rfl
     rotate_left
     ·simp only [Act.put, Qp1, Qp2, Qp3, i64_w, i32_w]
      rfl
     refine pure_ (i := 10) (N := some 38) (v := ?_) (a' := ?_) (Qbz 14 1919) rfl rfl (by kernel_rfl) (fun _ _ _ h => h) (Or.inl ⟨by rfl, ?_⟩) ?_ ?_
     rotate_left
     ·intro w'
      go_simp
      with_reducible rfl
     rotate_left
     ·simp only [Act.put, Qp1, Qp2, Qp3, i64_w, i32_w]
      rfl
     refine pure_ (i := 11) (N := some 39) (v := ?_) (a' := ?_) (Qbz 14 3967) rfl rfl (by kernel_rfl) (fun _ _ _ h => h) (Or.inl ⟨by rfl, ?_⟩) ?_ ?_
     rotate_left
     ·intro w'
      go_simp
      with_reducible rfl
     rotate_left
     ·simp only [Act.put, Qp1, Qp2, Qp3, i64_w, i32_w]
      rfl
     refine take_ (i := 7) (N := some 35) (v := ?_) (a' := ?_) (Qbz 14 4095) rfl rfl (by kernel_rfl) (fun _ _ _ h => h) (Or.inl ⟨by rfl, ?_⟩) hHeld ?_ ?_
     rotate_left
     ·rintro w' ⟨s0, s1, s2, s3⟩
      go_simp
      with_reducible rfl
     rotate_left
     ·simp only [Act.put, Qp1, Qp2, Qp3, i64_w, i32_w]
      rfl
     refine last_ (i := 12) (N := some 40) (Qbz 14 8191) rfl rfl (by kernel_rfl) (by decide) (fun K hK => ?_)
     refine goesK_ Tryd.func97 (by kernel_rfl) rfl #[.int .i64 (gone' : Int)] #[.pointer (some ⟨w.heap.size, 0, none⟩), .pointer (some ⟨w1.heap.size + 1 + 1, 0, none⟩), .pointer (some ⟨w1.heap.size, 0, none⟩), .pointer (some ⟨w1.heap.size + 1 + 1 + 1, 0, none⟩)] #[.int .i64 (gone' : Int), .pointer (some ⟨w.heap.size, 0, none⟩), .pointer (some ⟨w1.heap.size + 1 + 1, 0, none⟩), .pointer (some ⟨w1.heap.size, 0, none⟩), .pointer (some ⟨w1.heap.size + 1 + 1 + 1, 0, none⟩)] (.tmp 35) (by rfl) rfl rfl (by rfl) (by simp only [List.map_toArray, List.map_cons, List.map_nil]; rfl) rfl ?_
     with_reducible refine (HREC.out _ (HKR.out.low (grown_of_below hHeld.2.2.2 none))).mono ?_
     rintro e w10 ⟨rfl, hK10, hG10⟩
     have HK10 := Aside0.mk hK10
     have HG10 := Aside0.mk hG10
     have HB9 := Aside0.mk kB9
     clear hK10 hG10 kB9
     refine ⟨_, rfl, ?_⟩
     refine hK.out _ _ ?_
     clear hK K
     refine norm_ (a' := ?_) ?_ ?_
     rotate_left
     ·show Act.put _ (some 40) _ = _
      simp only [Act.put, Qp1, Qp2, Qp3, i64_w, i32_w]
      rfl
     refine pure_ (i := 13) (N := some 41) (v := ?_) (a' := ?_) (Qbz 14 16383) rfl rfl (by kernel_rfl) (fun _ _ _ h => h) (Or.inl ⟨by rfl, ?_⟩) ?_ ?_
     rotate_left
     ·intro w'
      go_simp
      with_reducible rfl
     rotate_left
     ·simp only [Act.put, Qp1, Qp2, Qp3, i64_w, i32_w]
      rfl
     refine done_ (by kernel_rfl) ?_
     have hK10 := HK10.out
     have hG510 := grown_then HGR2.out (grown_then (grown_of_below HB9.out (some (w1.heap.size + 1))) HG10.out)
     have hO10 := own_kept HX5.out.2 hG510 (fun b hb e => by have := own_base2 HX5.out.2 b hb; have e2 := Option.some.inj e; omega)
     have HO10 := Aside0.mk hO10
     obtain ⟨i3, hi3, hq0, hq1, hq2⟩ := info_parts info3
     clear hO10 hG510 hK10
     go_wp2_with (at_builtin; refine wpList_append_own_at _ rfl _ _ 22 rfl W0.heap.size 3 i3 (.int .i64 0) 1 8 undS hi3 hq0 hq1 hq2 rfl (by decide) (.slice A6 M.length c6) M.length ((gi M).map (Value.int .i64)) rfl (HO10.out.alloc _) ⟨w10.heap.size, 0, none⟩ 1 1 [.int .i64 (u : Int)] rfl rfl (cell_one_new _ _ _) (by simp [Value.oneCell']) (by unfold maxLen; omega) (by omega) (by have := HK10.out.grown.size; simp; omega) ?_; intro v8 w8 hown8 hg8 _ hfb8; have HOWN8 := Aside0.mk hown8; have HG8 := Aside0.mk hg8; clear hown8 hg8 hfb8)
     go_roundg d
     case measure => omega
     case rel =>
      have hbase := fun j (e : (Value.slice A6 M.length c6).ownBlock = some j) => own_base2 HO10.out j e
      have k1 := HK10.out.low (World.grownBy_alloc w10 (.cells #[.int .i64 (u : Int)] 3) none)
      have k2 := k1.lowR hmB HG8.out (fun j e => hbase j e)
      refine ⟨gone', M ++ [u], rfl, HPC.out, by simp; omega, HOR, HCANT, ⟨by have := HM2.out; simpa using this⟩, ⟨k2, ?_⟩⟩
      have ho := HOWN8.out
      rw [show (M ++ [u]).length = M.length + 1 by simp, show (gi (M ++ [u])).map (Value.int .i64) = (gi M).map (Value.int .i64) ++ [.int .i64 (u : Int)] by simp [gi]]
      exact ho
    ·have hpf : nextP G bs gone u = false := by simpa using hp
     rw [hpf] at hf
     have HF2 : Aside0 ((L.drop (i + 1)).find? (nextP G bs gone) = some x) := ⟨hf⟩
     have hp2 := hpf
     unfold nextP at hp2
     clear hf hp hpf
     by_cases hle : dg G gone u ≤ bs
     ·rw [decide_eq_true hle, Bool.true_and] at hp2
      rw [hp2] at HREC
      generalize gone ||| 2 ^ u = gone' at *
      generalize dg G gone u = dv at *
      have hdec1 : ((dv : Int) ≤ (bs : Int)) = True := eq_true (by omega)
      have hdec2 : decide ((dv : Int) ≤ (bs : Int)) = true := decide_eq_true (by omega)
      clear hp2
      go_wp2
      refine start_ (n := 14) (S := fun w' => w'.cell? ⟨w.heap.size, 0, none⟩ = some (.slice Ag G.length cg) ∧ w'.cell? ⟨w1.heap.size, 0, none⟩ = some (.int .i64 (bs : Int)) ∧ w'.cell? ⟨w1.heap.size + 1 + 1 + 1, 0, none⟩ = some (.func (.func 97) #[] #[.pointer (some ⟨w.heap.size, 0, none⟩), .pointer (some ⟨w1.heap.size + 1 + 1, 0, none⟩), .pointer (some ⟨w1.heap.size, 0, none⟩), .pointer (some ⟨w1.heap.size + 1 + 1 + 1, 0, none⟩)]) ∧ Below wr.heap.size wr w') (ds := [12]) (Qbz 14 0) (by kernel_rfl) rfl rfl ⟨c0d, c1d, c2d, c3d⟩ (fun hHeld => ?_)
      refine pure_ (i := 1) (N := some 29) (v := ?_) (a' := ?_) (Qbz 14 2) rfl rfl (by kernel_rfl) (fun _ _ _ h => h) (Or.inl ⟨by rfl, ?_⟩) ?_ ?_
      rotate_left
      ·intro w'
       go_simp
       with_reducible rfl
      rotate_left
      ·simp only [Act.put, Qp1, Qp2, Qp3, i64_w, i32_w]
       rfl
      refine pure_ (i := 2) (N := some 30) (v := ?_) (a' := ?_) (Qbz 14 6) rfl rfl (by kernel_rfl) (fun _ _ _ h => h) (Or.inl ⟨by rfl, ?_⟩) ?_ ?_
      rotate_left
      ·intro w'
       go_simp
       with_reducible rfl
      rotate_left
      ·simp only [Act.put, Qp1, Qp2, Qp3, i64_w, i32_w]
       rfl
      refine take_ (i := 0) (N := some 28) (v := ?_) (a' := ?_) (Qbz 14 7) rfl rfl (by kernel_rfl) (fun _ _ _ h => h) (Or.inl ⟨by rfl, ?_⟩) hHeld ?_ ?_
      rotate_left
      ·rintro w' ⟨s0, s1, s2, s3⟩
       go_simp
       with_reducible rfl
      rotate_left
      ·simp only [Act.put, Qp1, Qp2, Qp3, i64_w, i32_w]
       rfl
      refine take_ (i := 4) (N := some 32) (v := ?_) (a' := ?_) (Qbz 14 23) rfl rfl (by kernel_rfl) (fun _ _ _ h => h) (Or.inl ⟨by rfl, ?_⟩) hHeld ?_ ?_
      rotate_left
      ·rintro w' ⟨s0, s1, s2, s3⟩
       go_simp
       with_reducible rfl
      rotate_left
      ·simp only [Act.put, Qp1, Qp2, Qp3, i64_w, i32_w]
       rfl
      refine one_ (i := 3) (N := some 31) (Qbz 14 31) rfl rfl (by kernel_rfl) (by decide) (fun K hK => ?_)
      refine goes_ Tryd.func75 (by kernel_rfl) rfl #[.slice Ag G.length cg, .int .i64 (u : Int), .int .i64 (gone : Int)] (by rfl) rfl rfl (by simp only [List.map_toArray, List.map_cons, List.map_nil]; rfl) ?_
      with_reducible refine (HDG.out _ hHeld).mono ?_
      rintro e w9 ⟨rfl, k0, k1, k2, kB9⟩
      refine ⟨_, rfl, ?_⟩
      refine hK.out _ _ ⟨k0, k1, k2, kB9⟩ (fun hHeld => ?_)
      clear hK K
      refine norm_ (a' := ?_) ?_ ?_
      rotate_left
      ·show Act.put _ (some 31) _ = _
       simp only [Act.put, Qp1, Qp2, Qp3, i64_w, i32_w]
       rfl
      refine pure_ (i := 5) (N := some 33) (v := ?_) (a' := ?_) (Qbz 14 63) rfl rfl (by kernel_rfl) (fun _ _ _ h => h) (Or.inl ⟨by rfl, ?_⟩) ?_ ?_
      rotate_left
      ·intro w'
       go_simp
       with_reducible rfl
      rotate_left
      ·simp only [Act.put, Qp1, Qp2, Qp3, i64_w, i32_w]
       rfl
      refine pure_ (i := 6) (N := some 34) (v := ?_) (a' := ?_) (Qbz 14 127) rfl rfl (by kernel_rfl) (fun _ _ _ h => h) (Or.inl ⟨by rfl, ?_⟩) ?_ ?_
      rotate_left
      ·intro w'
       go_simp
       with_reducible rfl
      rotate_left
      ·simp only [Act.put, Qp1, Qp2, Qp3, i64_w, i32_w]
       rfl
      refine pure_ (i := 8) (N := some 36) (v := ?_) (a' := ?_) (Qbz 14 383) rfl rfl (by kernel_rfl) (fun _ _ _ h => h) (Or.inl ⟨by rfl, ?_⟩) ?_ ?_
      rotate_left
      ·intro w'
       go_simp
       with_reducible rfl
      rotate_left
      ·simp only [Act.put, Qp1, Qp2, Qp3, i64_w, i32_w]
       rfl
      refine pure_ (i := 9) (N := some 37) (v := ?_) (a' := ?_) (Qbz 14 895) rfl rfl (by kernel_rfl) (fun _ _ _ h => h) (Or.inl ⟨by rfl, ?_⟩) ?_ ?_
      rotate_left
      ·intro w'
       go_simp
       with_reducible rfl
      rotate_left
      ·simp only [Act.put, Qp1, Qp2, Qp3, i64_w, i32_w]
       rfl
      refine pure_ (i := 10) (N := some 38) (v := ?_) (a' := ?_) (Qbz 14 1919) rfl rfl (by kernel_rfl) (fun _ _ _ h => h) (Or.inl ⟨by rfl, ?_⟩) ?_ ?_
      rotate_left
      ·intro w'
       go_simp
       with_reducible rfl
      rotate_left
      ·simp only [Act.put, Qp1, Qp2, Qp3, i64_w, i32_w]
       rfl
      refine pure_ (i := 11) (N := some 39) (v := ?_) (a' := ?_) (Qbz 14 3967) rfl rfl (by kernel_rfl) (fun _ _ _ h => h) (Or.inl ⟨by rfl, ?_⟩) ?_ ?_
      rotate_left
      ·intro w'
       go_simp
       with_reducible rfl
      rotate_left
      ·simp only [Act.put, Qp1, Qp2, Qp3, i64_w, i32_w]
       rfl
      refine take_ (i := 7) (N := some 35) (v := ?_) (a' := ?_) (Qbz 14 4095) rfl rfl (by kernel_rfl) (fun _ _ _ h => h) (Or.inl ⟨by rfl, ?_⟩) hHeld ?_ ?_
      rotate_left
      ·rintro w' ⟨s0, s1, s2, s3⟩
       go_simp
       with_reducible rfl
      rotate_left
      ·simp only [Act.put, Qp1, Qp2, Qp3, i64_w, i32_w]
       rfl
      refine last_ (i := 12) (N := some 40) (Qbz 14 8191) rfl rfl (by kernel_rfl) (by decide) (fun K hK => ?_)
      refine goesK_ Tryd.func97 (by kernel_rfl) rfl #[.int .i64 (gone' : Int)] #[.pointer (some ⟨w.heap.size, 0, none⟩), .pointer (some ⟨w1.heap.size + 1 + 1, 0, none⟩), .pointer (some ⟨w1.heap.size, 0, none⟩), .pointer (some ⟨w1.heap.size + 1 + 1 + 1, 0, none⟩)] #[.int .i64 (gone' : Int), .pointer (some ⟨w.heap.size, 0, none⟩), .pointer (some ⟨w1.heap.size + 1 + 1, 0, none⟩), .pointer (some ⟨w1.heap.size, 0, none⟩), .pointer (some ⟨w1.heap.size + 1 + 1 + 1, 0, none⟩)] (.tmp 35) (by rfl) rfl rfl (by rfl) (by simp only [List.map_toArray, List.map_cons, List.map_nil]; rfl) rfl ?_
      with_reducible refine (HREC.out _ (HKR.out.low (grown_of_below hHeld.2.2.2 none))).mono ?_
      rintro e w10 ⟨rfl, hK10, hG10⟩
      have HK10 := Aside0.mk hK10
      have HG10 := Aside0.mk hG10
      have HB9 := Aside0.mk kB9
      clear hK10 hG10 kB9
      refine ⟨_, rfl, ?_⟩
      refine hK.out _ _ ?_
      clear hK K
      refine norm_ (a' := ?_) ?_ ?_
      rotate_left
      ·show Act.put _ (some 40) _ = _
       simp only [Act.put, Qp1, Qp2, Qp3, i64_w, i32_w]
       rfl
      refine pure_ (i := 13) (N := some 41) (v := ?_) (a' := ?_) (Qbz 14 16383) rfl rfl (by kernel_rfl) (fun _ _ _ h => h) (Or.inl ⟨by rfl, ?_⟩) ?_ ?_
      rotate_left
      ·intro w'
       go_simp
       with_reducible rfl
      rotate_left
      ·simp only [Act.put, Qp1, Qp2, Qp3, i64_w, i32_w]
       rfl
      refine done_ (by kernel_rfl) ?_
      go_wp2
      go_roundg gi'
      case measure => omega
      case rel => exact ⟨i + 1, by go_num, rfl, rfl, by omega, HF2, ⟨HK10.out, grown_then HGR2.out (grown_then (grown_of_below HB9.out (some (w1.heap.size + 1))) HG10.out)⟩⟩
     ·generalize gone ||| 2 ^ u = gone' at *
      generalize dg G gone u = dv at *
      have hdec1 : ((dv : Int) ≤ (bs : Int)) = False := eq_false (by omega)
      have hdec2 : decide ((dv : Int) ≤ (bs : Int)) = false := decide_eq_false (by omega)
      clear hp2 HREC
      go_wp2
      refine start_ (n := 14) (S := fun w' => w'.cell? ⟨w.heap.size, 0, none⟩ = some (.slice Ag G.length cg) ∧ w'.cell? ⟨w1.heap.size, 0, none⟩ = some (.int .i64 (bs : Int)) ∧ w'.cell? ⟨w1.heap.size + 1 + 1 + 1, 0, none⟩ = some (.func (.func 97) #[] #[.pointer (some ⟨w.heap.size, 0, none⟩), .pointer (some ⟨w1.heap.size + 1 + 1, 0, none⟩), .pointer (some ⟨w1.heap.size, 0, none⟩), .pointer (some ⟨w1.heap.size + 1 + 1 + 1, 0, none⟩)]) ∧ Below wr.heap.size wr w') (ds := []) (Qbz 14 0) (by kernel_rfl) rfl rfl ⟨c0d, c1d, c2d, c3d⟩ (fun hHeld => ?_)
      refine pure_ (i := 1) (N := some 29) (v := ?_) (a' := ?_) (Qbz 14 2) rfl rfl (by kernel_rfl) (fun _ _ _ h => h) (Or.inl ⟨by rfl, ?_⟩) ?_ ?_
      rotate_left
      ·intro w'
       go_simp
       with_reducible rfl
      rotate_left
      ·simp only [Act.put, Qp1, Qp2, Qp3, i64_w, i32_w]
       rfl
      refine pure_ (i := 2) (N := some 30) (v := ?_) (a' := ?_) (Qbz 14 6) rfl rfl (by kernel_rfl) (fun _ _ _ h => h) (Or.inl ⟨by rfl, ?_⟩) ?_ ?_
      rotate_left
      ·intro w'
       go_simp
       with_reducible rfl
      rotate_left
      ·simp only [Act.put, Qp1, Qp2, Qp3, i64_w, i32_w]
       rfl
      refine take_ (i := 0) (N := some 28) (v := ?_) (a' := ?_) (Qbz 14 7) rfl rfl (by kernel_rfl) (fun _ _ _ h => h) (Or.inl ⟨by rfl, ?_⟩) hHeld ?_ ?_
      rotate_left
      ·rintro w' ⟨s0, s1, s2, s3⟩
       go_simp
       with_reducible rfl
      rotate_left
      ·simp only [Act.put, Qp1, Qp2, Qp3, i64_w, i32_w]
       rfl
      refine take_ (i := 4) (N := some 32) (v := ?_) (a' := ?_) (Qbz 14 23) rfl rfl (by kernel_rfl) (fun _ _ _ h => h) (Or.inl ⟨by rfl, ?_⟩) hHeld ?_ ?_
      rotate_left
      ·rintro w' ⟨s0, s1, s2, s3⟩
       go_simp
       with_reducible rfl
      rotate_left
      ·simp only [Act.put, Qp1, Qp2, Qp3, i64_w, i32_w]
       rfl
      refine one_ (i := 3) (N := some 31) (Qbz 14 31) rfl rfl (by kernel_rfl) (by decide) (fun K hK => ?_)
      refine goes_ Tryd.func75 (by kernel_rfl) rfl #[.slice Ag G.length cg, .int .i64 (u : Int), .int .i64 (gone : Int)] (by rfl) rfl rfl (by simp only [List.map_toArray, List.map_cons, List.map_nil]; rfl) ?_
      with_reducible refine (HDG.out _ hHeld).mono ?_
      rintro e w9 ⟨rfl, k0, k1, k2, kB9⟩
      refine ⟨_, rfl, ?_⟩
      refine hK.out _ _ ⟨k0, k1, k2, kB9⟩ (fun hHeld => ?_)
      clear hK K
      refine norm_ (a' := ?_) ?_ ?_
      rotate_left
      ·show Act.put _ (some 31) _ = _
       simp only [Act.put, Qp1, Qp2, Qp3, i64_w, i32_w]
       rfl
      refine pure_ (i := 5) (N := some 33) (v := ?_) (a' := ?_) (Qbz 14 63) rfl rfl (by kernel_rfl) (fun _ _ _ h => h) (Or.inl ⟨by rfl, ?_⟩) ?_ ?_
      rotate_left
      ·intro w'
       go_simp
       with_reducible rfl
      rotate_left
      ·simp only [Act.put, Qp1, Qp2, Qp3, i64_w, i32_w]
       rfl
      refine pure_ (i := 6) (N := some 34) (v := ?_) (a' := ?_) (Qbz 14 127) rfl rfl (by kernel_rfl) (fun _ _ _ h => h) (Or.inl ⟨by rfl, ?_⟩) ?_ ?_
      rotate_left
      ·intro w'
       go_simp
       with_reducible rfl
      rotate_left
      ·simp only [Act.put, Qp1, Qp2, Qp3, i64_w, i32_w]
       rfl
      refine pure_ (i := 7) (N := some 35) (v := undef) (a' := ?_) (Qbz 14 255) rfl rfl (by kernel_rfl) (fun _ _ _ h => h) (Or.inr ⟨by rfl, rfl⟩) ?_ ?_
      rotate_left
      ·simp only [Act.put, Qp1, Qp2, Qp3, i64_w, i32_w]
       rfl
      refine pure_ (i := 8) (N := some 36) (v := undef) (a' := ?_) (Qbz 14 511) rfl rfl (by kernel_rfl) (fun _ _ _ h => h) (Or.inr ⟨by rfl, rfl⟩) ?_ ?_
      rotate_left
      ·simp only [Act.put, Qp1, Qp2, Qp3, i64_w, i32_w]
       rfl
      refine pure_ (i := 9) (N := some 37) (v := undef) (a' := ?_) (Qbz 14 1023) rfl rfl (by kernel_rfl) (fun _ _ _ h => h) (Or.inr ⟨by rfl, rfl⟩) ?_ ?_
      rotate_left
      ·simp only [Act.put, Qp1, Qp2, Qp3, i64_w, i32_w]
       rfl
      refine pure_ (i := 10) (N := some 38) (v := undef) (a' := ?_) (Qbz 14 2047) rfl rfl (by kernel_rfl) (fun _ _ _ h => h) (Or.inr ⟨by rfl, rfl⟩) ?_ ?_
      rotate_left
      ·simp only [Act.put, Qp1, Qp2, Qp3, i64_w, i32_w]
       rfl
      refine pure_ (i := 11) (N := some 39) (v := undef) (a' := ?_) (Qbz 14 4095) rfl rfl (by kernel_rfl) (fun _ _ _ h => h) (Or.inr ⟨by rfl, rfl⟩) ?_ ?_
      rotate_left
      ·simp only [Act.put, Qp1, Qp2, Qp3, i64_w, i32_w]
       rfl
      refine pure_ (i := 12) (N := some 40) (v := undef) (a' := ?_) (Qbz 14 8191) rfl rfl (by kernel_rfl) (fun _ _ _ h => h) (Or.inr ⟨by rfl, rfl⟩) ?_ ?_
      rotate_left
      ·simp only [Act.put, Qp1, Qp2, Qp3, i64_w, i32_w]
       rfl
      refine pure_ (i := 13) (N := some 41) (v := ?_) (a' := ?_) (Qbz 14 16383) rfl rfl (by kernel_rfl) (fun _ _ _ h => h) (Or.inl ⟨by rfl, ?_⟩) ?_ ?_
      rotate_left
      ·intro w'
       go_simp
       with_reducible rfl
      rotate_left
      ·simp only [Act.put, Qp1, Qp2, Qp3, i64_w, i32_w]
       rfl
      refine done_ (by kernel_rfl) ?_
      go_wp2
      go_roundg gi'
      case measure => omega
      case rel => exact ⟨i + 1, by go_num, rfl, rfl, by omega, HF2, ⟨HKR.out.low (grown_of_below hHeld.2.2.2 none), grown_then HGR2.out (grown_of_below hHeld.2.2.2 (some (w1.heap.size + 1)))⟩⟩
theorem gi_toNatO (G : List Nat) : (gi G).map Int.toNat = G := by
 unfold gi
 rw [List.map_map]
 conv => rhs; rw [← List.map_id G]
 exact List.map_congr_left fun x _ => by simp
open Classical in
noncomputable def widthN (G : List Nat) : Nat := if h : ∃ W, IsWidth G W then Classical.choose h else 0
theorem widthN_is {m : Nat} {G : List Nat} (hG : Gr m G) : IsWidth G (widthN G) := by
 obtain ⟨W, hW, _⟩ := width_exists hG
 have h : ∃ W, IsWidth G W := ⟨W, hW⟩
 unfold widthN
 rw [dif_pos h]
 exact Classical.choose_spec h
noncomputable def width_town_order.f (g : List Int) : Option (List Int) :=
 if chk 9 g = true then some (gi (ordL (g.map Int.toNat) (widthN (g.map Int.toNat)))) else none
theorem width_town_order.calls (A0 : Option Addr) (c0 : Nat) (l0 : List Int) (r1 : List Int) (w : World) (hGL : GL w) (hr0 : Kd.C (Kd.int .i64) w A0 l0.length l0) (hc0 : l0.length ≤ c0) (h : width_town_order.f l0 = some r1) :
  Calls Tryd.prog 73 #[.slice A0 l0.length c0] w fun e w' => ∃ v, e = .returned v ∧ Kd.R (Kd.int .i64) 3 w' w.heap.size (fun _ => True) v r1 ∧ Below w.heap.size w w' := by
 unfold width_town_order.f at h
 by_cases hc : chk 9 l0 = true
 ·rw [if_pos hc] at h
  obtain ⟨G, rfl, hG⟩ := (chk_iff 9 (by omega) _).1 hc
  rw [gi_toNatO] at h
  have h := Option.some.inj h
  subst h
  have := order_calls A0 c0 G hG (by rw [gi_length] at hc0; exact hc0) (widthN G) (widthN_is hG) w hGL hr0
  rw [gi_length]
  exact this
 ·rw [if_neg hc] at h; cases h
end Go.Proofs.YtoffehihicabcaaDoor.X
end
section
namespace Go.Proofs.YtoffehihicabcaaDoor.X
open Go.RowKit YtoffehihicabcaaDoorW.PrintWords YtoffehihicabcaaDoorW.PrintLast YtoffehihicabcaaDoorW.PrintMore
attribute [local go_sem] max2_int min2_int max_two min_two max_three min_three max_four min_four
noncomputable section
mutual
def width_town_decompose.l0 : Nat → List Int → List Int → Int → List Int → Int → Int → List Int → List Int → Option (List Int × List Int)
 | 0, _, _, _, _, _, _, _, _ => none
 | k + 1, x0, x3, x5, x13, x14, x15, x530000, x530001 => if x15 < x14 then (if 0 ≤ x15 then (if x15 < (x13.length : Int) then (if 0 ≤ (rd x13 x15) then ((width_town_part.f k x0 (shl .i64 1 (rd x13 x15)) (Go.bits .or .i64 x5 (shl .i64 1 (rd x13 x15)))).bind fun t531 => ((width_town_around.f k x0 t531).bind fun t532 => (if x530000.length < 17592186044416 then (width_town_decompose.l1 k x0 x3 (Go.bits .or .i64 x5 (shl .i64 1 (rd x13 x15))) (Go.bits .andNot .i64 (Go.bits .andNot .i64 t532 x5) (shl .i64 1 (rd x13 x15))) (wrap64 (x15 + 1)) (wrap64 (x15 + 1)) x13 x14 x15 (x530000 ++ [Go.bits .or .i64 (Go.bits .andNot .i64 (Go.bits .andNot .i64 t532 x5) (shl .i64 1 (rd x13 x15))) (shl .i64 1 (rd x13 x15))]) x530001) else (none)))) else (none)) else (none)) else (none)) else (some (x530000, x530001))
def width_town_decompose.l1 : Nat → List Int → List Int → Int → Int → Int → Int → List Int → Int → Int → List Int → List Int → Option (List Int × List Int)
 | 0, _, _, _, _, _, _, _, _, _, _, _ => none
 | k + 1, x0, x3, x5, x8, x9, x10, x13, x14, x15, x530000, x530001 => if x10 < (x3.length : Int) then (if 0 ≤ x10 then (if 0 ≤ (rd x3 x10) then (if (Go.bits .and .i64 (shr .i64 x8 (rd x3 x10)) 1) = 1 then (if x10 = (x3.length : Int) then (if x530001.length < 17592186044416 then (width_town_decompose.l0 k x0 x3 x5 x13 x14 (wrap64 (x15 + 1)) x530000 (x530001 ++ [(-1)])) else (none)) else (if x530001.length < 17592186044416 then (width_town_decompose.l0 k x0 x3 x5 x13 x14 (wrap64 (x15 + 1)) x530000 (x530001 ++ [x10])) else (none))) else (width_town_decompose.l1 k x0 x3 x5 x8 x9 (wrap64 (x10 + 1)) x13 x14 x15 x530000 x530001)) else (none)) else (none)) else (if x9 = (x3.length : Int) then (if x530001.length < 17592186044416 then (width_town_decompose.l0 k x0 x3 x5 x13 x14 (wrap64 (x15 + 1)) x530000 (x530001 ++ [(-1)])) else (none)) else (if x530001.length < 17592186044416 then (width_town_decompose.l0 k x0 x3 x5 x13 x14 (wrap64 (x15 + 1)) x530000 (x530001 ++ [x9])) else (none)))
end
def width_town_decompose.f (k : Nat) (l0 : List Int) : Option (List Int × List Int) := (width_town_order.f l0).bind fun t526 => (width_town_decompose.l0 k l0 t526 0 t526 (t526.length : Int) 0 ([] : List Int) ([] : List Int))
def width_town_decompose.T7 : Bool × List (List Nat × List Nat) := (true, [([], []), ([], []), ([], []), ([2], [2]), ([], []), ([], []), ([5], [5]), ([4, 6], [4, 6]), ([1, 3, 7], [1, 3, 7]), ([0, 8, 8], [0, 8]), ([], []), ([9, 10], [9, 10]), ([], []), ([12], [12]), ([11, 13], [11, 13]), ([14, 9, 0, 1, 2, 3, 4, 5, 6, 7, 8, 9, 10, 11, 12, 13, 14], [14])])
def width_town_decompose.B7 : List Nat := [0, 0, 0, 4, 0, 0, 32, 112, 254, 511, 0, 2047, 0, 4096, 16383, 32767]
theorem width_town_decompose.tab7 : rtab .any (opsOf Tryd.f83 7) = width_town_decompose.T7 := by kernel_rfl
theorem width_town_decompose.bits7 : waitsOk width_town_decompose.T7.2 width_town_decompose.B7 = true := by kernel_rfl
def width_town_decompose.T9 : Bool × List (List Nat × List Nat) := (true, [([], []), ([0], [0]), ([], []), ([], []), ([3], [3]), ([2, 4], [2, 4]), ([5], [5]), ([1, 6], [1, 6]), ([0, 1, 2, 3, 4, 5, 6, 7], []), ([8, 7, 7, 0, 1, 2, 3, 4, 5, 6, 7], [7, 8])])
def width_town_decompose.B9 : List Nat := [0, 1, 0, 0, 8, 28, 60, 127, 255, 511]
theorem width_town_decompose.tab9 : rtab .any (opsOf Tryd.f83 9) = width_town_decompose.T9 := by kernel_rfl
theorem width_town_decompose.bits9 : waitsOk width_town_decompose.T9.2 width_town_decompose.B9 = true := by kernel_rfl
set_option maxHeartbeats 8000000 in
set_option maxRecDepth 100000 in
theorem width_town_decompose.calls (k : Nat) (A0 : Option Addr) (c0 : Nat) (l0 : List Int) (r1 : List Int) (r2 : List Int) (w : World) (hGL : GL w) (hr0 : Kd.C (Kd.int .i64) w A0 l0.length l0) (hc0 : l0.length ≤ c0) (h : width_town_decompose.f k l0 = some (r1, r2)) :
  Calls Tryd.prog 83 #[.slice A0 l0.length c0] w fun e w' => ∃ v0_ v1_ : Value, e = .returned (.agg #[v0_, v1_]) ∧ Kd.R (Kd.int .i64) 3 w' w.heap.size (fun k_ => some k_ ≠ (v1_ : Value).ownBlock) v0_ r1 ∧ Kd.R (Kd.int .i64) 3 w' w.heap.size (fun k_ => some k_ ≠ (v0_ : Value).ownBlock) v1_ r2 ∧ Below w.heap.size w w' := by
 have HGL := Aside0.mk hGL
 clear hGL
 have hu53 := Tryd.underlying53
 have HR0 := Aside0.mk hr0
 have HC0 := Aside0.mk hc0
 clear hr0 hc0
 have HB := Aside0.mk (Below.refl w.heap.size w)
 have H : ((width_town_order.f l0).bind fun t526 => (width_town_decompose.l0 k l0 t526 0 t526 (t526.length : Int) 0 ([] : List Int) ([] : List Int))) = some (r1, r2) := h
 clear h
 replace H := Option.bind_eq_some_iff.mp H
 obtain ⟨t526, A20, H⟩ := H
 replace H : (width_town_decompose.l0 k l0 t526 0 t526 (t526.length : Int) 0 ([] : List Int) ([] : List Int)) = some (r1, r2) := H
 have A2 := Aside0.mk A20
 clear A20
 have H' := Aside0.mk H
 clear H
 go_enter Tryd.func83, Tryd.ntmps83
 go_wp2_with (first | ((with_reducible refine gate_dst (N := 2) rfl ?_); refine box_event ?hg (N := 2) ?hd (cs := #[.slice none 0 0, .slice none 0 0]) (t := 53) ?hr ?_; (case hd => rfl); (case hg => rfl); (case hr => first | (go_simp; done) | (go_simp; rfl)); intro gb525 hg w3 hbox hb; have n0_ := Aside0.mk (below_step (Qaw) hb); have n1_ := Aside0.mk (hbox); have n2_ := Aside0.mk ((by rw [hg]; exact (below_size (Qaw)) : w.heap.size ≤ gb525)); have n3_ := Aside0.mk ((by rw [hg]; exact (below_size (Qaw)) : w.heap.size ≤ gb525)); clear HB; have HB := n0_; have BK525 := n1_; have GW525 := n2_; have GE525 := n3_; clear n0_ n1_ n2_ n3_; clear hb hbox hg) | ((with_reducible refine gate_callee (f := 73) rfl ?_); refine goesL_ (some 12) rfl rfl Tryd.func73 (by kernel_rfl) rfl #[.slice A0 l0.length c0] rfl (Qls) ?_; (with_reducible refine (width_town_order.calls (hGL := (Qlg)) _ _ l0 t526 _ ?side1 ?side2 A2.out).mono ?_); (case side1 => exact Qsc (Kd.C_below HR0.out HB.out)); (case side2 => exact HC0.out); rintro e w4 ⟨v527, rfl, ho0, hb⟩; refine ⟨_, rfl, ?_⟩; have n0_ := Aside0.mk (Kd.R_lower ho0 (below_size (Qag GE525.out))); have n1_ := Aside0.mk (blk_below (g := gb525) (o := .cells #[.slice none 0 0, .slice none 0 0] 53 (0, 0)) (Qbl BK525.out) hb); have n2_ := Aside0.mk (below_step (Qag GE525.out) hb); clear BK525; clear HB; have HO528 := n0_; have BK525 := n1_; have HB := n2_; clear n0_ n1_ n2_; (try clear hb); (try clear hb2); (try clear hk); (try clear hi); (try clear ho0)) | ((with_reducible refine gate_dst (N := 4) rfl ?_); refine box_event ?hg (N := 4) ?hd (cs := #[.slice none 0 0, .slice none 0 0]) (t := 53) ?hr ?_; (case hd => rfl); (case hg => rfl); (case hr => first | (go_simp; done) | (go_simp; rfl)); intro gb529 hg w5 hbox hb; have n0_ := Aside0.mk (Kd.R_below (Qro HO528.out) hb); have n1_ := Aside0.mk (blk_below (g := gb525) (o := .cells #[.slice none 0 0, .slice none 0 0] 53 (0, 0)) (Qbl BK525.out) hb); have n2_ := Aside0.mk (below_step (Qag GE525.out) hb); have n3_ := Aside0.mk (hbox); have n4_ := Aside0.mk ((by rw [hg]; exact (below_size (Qag GE525.out)) : w.heap.size ≤ gb529)); have n5_ := Aside0.mk ((by rw [hg]; exact (below_size (Qag GE525.out)) : w.heap.size ≤ gb529)); have n6_ := Aside0.mk ((by rw [hg]; exact Nat.ne_of_lt (blk_lt (g := gb525) (o := .cells #[.slice none 0 0, .slice none 0 0] 53 (0, 0)) (Qbl BK525.out)) : gb525 ≠ gb529)); have n7_ := Aside0.mk ((by rw [hg]; exact Nat.ne_of_gt (blk_lt (g := gb525) (o := .cells #[.slice none 0 0, .slice none 0 0] 53 (0, 0)) (Qbl BK525.out)) : gb529 ≠ gb525)); clear HO528; clear BK525; clear HB; have HO528 := n0_; have BK525 := n1_; have HB := n2_; have BK529 := n3_; have GW529 := n4_; have GE529 := n5_; have NB525_529 := n6_; have NB529_525 := n7_; clear n0_ n1_ n2_ n3_ n4_ n5_ n6_ n7_; clear hb hbox hg; obtain ⟨Ao6, co6, eo6⟩ := Kd.R_slice HO528.out; subst eo6))
 go_loopg [5, 15] k (fun kq v5 v15 w' => ∃ (x5_1 : Int) (x15_1 : Int) (x530000_1 : List Int) (x530001_1 : List Int) (u530000 : Value) (u530001 : Value), v5 = .int .i64 x5_1 ∧ v15 = .int .i64 x15_1 ∧ Aside0 (width_town_decompose.l0 kq l0 t526 x5_1 t526 (t526.length : Int) x15_1 x530000_1 x530001_1 = some (r1, r2)) ∧ Aside0 (kq ≤ k) ∧ Aside0 (Kd.R (Kd.int .i64) 3 w' w.heap.size (fun k_ => some k_ ≠ (u530000 : Value).ownBlock ∧ some k_ ≠ (u530001 : Value).ownBlock) (.slice Ao6 t526.length co6) t526) ∧ Aside0 (Kd.R (Kd.int .i64) 3 w' w.heap.size (fun k_ => some k_ ≠ (u530000 : Value).ownBlock ∧ some k_ ≠ (u530001 : Value).ownBlock) (.slice Ao6 t526.length co6) t526) ∧ Aside0 (Kd.R (Kd.int .i64) 3 w' w.heap.size (fun k_ => some k_ ≠ ((.slice Ao6 t526.length co6) : Value).ownBlock ∧ some k_ ≠ ((.slice Ao6 t526.length co6) : Value).ownBlock ∧ some k_ ≠ (u530001 : Value).ownBlock) u530000 x530000_1) ∧ Aside0 (Kd.R (Kd.int .i64) 3 w' w.heap.size (fun k_ => some k_ ≠ ((.slice Ao6 t526.length co6) : Value).ownBlock ∧ some k_ ≠ ((.slice Ao6 t526.length co6) : Value).ownBlock ∧ some k_ ≠ (u530000 : Value).ownBlock) u530001 x530001_1) ∧ Aside0 (w'.heap[gb525]? = some (.cells #[(.slice none 0 0), (.slice none 0 0)] 53 (0, 0))) ∧ Aside0 (w'.heap[gb529]? = some (.cells #[u530000, u530001] 53 (0, 0))) ∧ Aside0 (Below w.heap.size w w'))
 case atStart => exact ⟨(0), (0), (([] : List Int)), (([] : List Int)), (.slice none 0 0), (.slice none 0 0), (Qrs), (Qrs), H', ⟨Nat.le_refl _⟩, ⟨by (with_reducible repeat (first | apply Kd.R_alloc | apply Kd.R_drewN | apply Kd.R_drew)); exact Kd.R_mono HO528.out (fun _ hk => ⟨(by simp [Value.ownBlock]), (by simp [Value.ownBlock])⟩)⟩, ⟨by (with_reducible repeat (first | apply Kd.R_alloc | apply Kd.R_drewN | apply Kd.R_drew)); exact Kd.R_mono HO528.out (fun _ hk => ⟨(by simp [Value.ownBlock]), (by simp [Value.ownBlock])⟩)⟩, ⟨by first | exact Kd.R_nil _ _ _ _ _ | exact Kd.N_nil _ _ _ _ _ | exact Kd.V_nil _ _ _ _ _ | exact Kd.Q_nil _ _ _ _ _ | exact Kd.S_nil _ _ _ _ _⟩, ⟨by first | exact Kd.R_nil _ _ _ _ _ | exact Kd.N_nil _ _ _ _ _ | exact Kd.V_nil _ _ _ _ _ | exact Kd.Q_nil _ _ _ _ _ | exact Kd.S_nil _ _ _ _ _⟩, ⟨by (with_reducible repeat (first | refine blk_drewN ?_ _ | refine blk_drew ?_ | refine blk_alloc ?_ _)); exact BK525.out⟩, ⟨by (with_reducible repeat (first | refine blk_drewN ?_ _ | refine blk_drew ?_ | refine blk_alloc ?_ _)); exact BK529.out⟩, ⟨by repeat (first | (with_reducible first | exact HB.out | apply below_alloc | apply pw_below_drewN | apply below_drew1 | refine below_set ?_ GE525.out | refine below_set ?_ GE529.out) | exact HB.out)⟩⟩
 case round =>
  clear H'
  try clear p2
  obtain ⟨x5_1, x15_1, x530000_1, x530001_1, u530000, u530001, rfl, rfl, HA, HK1, HO_3, HO_13, HO_530000, HO_530001, BK525, BK529, HB⟩ := hrel
  cases gk with
  | zero => exact absurd HA.out (by simp [width_town_decompose.l0])
  | succ k1 =>
   have H := HA.out
   clear HA
   simp only [width_town_decompose.l0] at H
   by_cases c7 : x15_1 < (t526.length : Int)
   ·rw [if_pos c7] at H
    have c7b0 : decide (x15_1 < (t526.length : Int)) = true := decide_eq_true c7
    clear c7
    by_cases c8 : 0 ≤ x15_1
    ·rw [if_pos c8] at H
     have c8b0 : decide (0 ≤ x15_1) = true := decide_eq_true c8
     clear c8
     by_cases c9 : x15_1 < (t526.length : Int)
     ·rw [if_pos c9] at H
      have c9b0 : decide (x15_1 < (t526.length : Int)) = true := decide_eq_true c9
      clear c9
      by_cases c10 : 0 ≤ (rd t526 x15_1)
      ·rw [if_pos c10] at H
       have c10b0 := eq_true c10
       have c10b1 : decide (0 ≤ (rd t526 x15_1)) = true := decide_eq_true c10
       clear c10
       obtain ⟨ji11, hji11⟩ : ∃ j_ : Int, (shl .i64 1 (rd t526 x15_1)) = j_ := ⟨_, rfl⟩
       replace H : ((width_town_part.f k1 l0 (ji11) (Go.bits .or .i64 x5_1 (ji11))).bind fun t531 => ((width_town_around.f k1 l0 t531).bind fun t532 => (if x530000_1.length < 17592186044416 then (width_town_decompose.l1 k1 l0 t526 (Go.bits .or .i64 x5_1 (ji11)) (Go.bits .andNot .i64 (Go.bits .andNot .i64 t532 x5_1) (ji11)) (wrap64 (x15_1 + 1)) (wrap64 (x15_1 + 1)) t526 (t526.length : Int) x15_1 (x530000_1 ++ [Go.bits .or .i64 (Go.bits .andNot .i64 (Go.bits .andNot .i64 t532 x5_1) (ji11)) (ji11)]) x530001_1) else (none)))) = some (r1, r2) := by first | (rw [hji11] at H; exact H) | (simp only [hji11] at H ⊢; exact H)
       have hji11_ : (IntKind.i64.wrap (1 * 2 ^ min (rd t526 x15_1).toNat 64)) = ji11 := hji11
       have hji11z : (rd t526 x15_1) ≤ 64 → (IntKind.i64.wrap (1 * 2 ^ (rd t526 x15_1).toNat)) = ji11 := shl_small hji11
       have hji11u : (IntKind.i64.wrap (2 ^ min (rd t526 x15_1).toNat 64)) = ji11 := by have h_ := hji11_; rw [Int.one_mul] at h_; exact h_
       have hji11v : (rd t526 x15_1) ≤ 64 → (IntKind.i64.wrap (2 ^ (rd t526 x15_1).toNat)) = ji11 := fun hle_ => by have h_ := hji11z hle_; rw [Int.one_mul] at h_; exact h_
       have hji11y : (wrap64 (1 * 2 ^ min (rd t526 x15_1).toNat 64)) = ji11 := (i64_w _).symm.trans hji11_
       have hji11x : (rd t526 x15_1) ≤ 64 → (wrap64 (1 * 2 ^ (rd t526 x15_1).toNat)) = ji11 := fun h_ => (i64_w _).symm.trans (hji11z h_)
       have c12b0 := eq_true (of_decide_eq_true (Qas) : 0 ≤ (rd t526 x15_1))
       replace H := Option.bind_eq_some_iff.mp H
       obtain ⟨t531, A130, H⟩ := H
       replace H : ((width_town_around.f k1 l0 t531).bind fun t532 => (if x530000_1.length < 17592186044416 then (width_town_decompose.l1 k1 l0 t526 (Go.bits .or .i64 x5_1 (ji11)) (Go.bits .andNot .i64 (Go.bits .andNot .i64 t532 x5_1) (ji11)) (wrap64 (x15_1 + 1)) (wrap64 (x15_1 + 1)) t526 (t526.length : Int) x15_1 (x530000_1 ++ [Go.bits .or .i64 (Go.bits .andNot .i64 (Go.bits .andNot .i64 t532 x5_1) (ji11)) (ji11)]) x530001_1) else (none))) = some (r1, r2) := H
       have A13 := Aside0.mk A130
       clear A130
       replace H := Option.bind_eq_some_iff.mp H
       obtain ⟨t532, A140, H⟩ := H
       replace H : (if x530000_1.length < 17592186044416 then (width_town_decompose.l1 k1 l0 t526 (Go.bits .or .i64 x5_1 (ji11)) (Go.bits .andNot .i64 (Go.bits .andNot .i64 t532 x5_1) (ji11)) (wrap64 (x15_1 + 1)) (wrap64 (x15_1 + 1)) t526 (t526.length : Int) x15_1 (x530000_1 ++ [Go.bits .or .i64 (Go.bits .andNot .i64 (Go.bits .andNot .i64 t532 x5_1) (ji11)) (ji11)]) x530001_1) else (none)) = some (r1, r2) := H
       have A14 := Aside0.mk A140
       clear A140
       have c15b0 := eq_true (of_decide_eq_true (Qas) : 0 ≤ (rd t526 x15_1))
       have c16b0 := eq_true (of_decide_eq_true (Qas) : 0 ≤ (rd t526 x15_1))
       have c17b0 := eq_true (of_decide_eq_true (Qas) : 0 ≤ (rd t526 x15_1))
       by_cases c18 : x530000_1.length < 17592186044416
       ·rw [if_pos c18] at H
        have LMc18 := Aside0.mk c18
        clear c18
        obtain ⟨y533, hy533⟩ : ∃ y_ : List Int, y_ = (x530000_1 ++ [Go.bits .or .i64 (Go.bits .andNot .i64 (Go.bits .andNot .i64 t532 x5_1) (ji11)) (ji11)]) := ⟨_, rfl⟩
        replace H : (width_town_decompose.l1 k1 l0 t526 (Go.bits .or .i64 x5_1 (ji11)) (Go.bits .andNot .i64 (Go.bits .andNot .i64 t532 x5_1) (ji11)) (wrap64 (x15_1 + 1)) (wrap64 (x15_1 + 1)) t526 (t526.length : Int) x15_1 y533 x530001_1) = some (r1, r2) := by first | (rw [hy533]; with_reducible exact H) | (have H2_ := (Option.bind_some _ _).symm.trans H; rw [hy533]; with_reducible exact H2_) | (have H2_ := (Option.bind_some _ _).symm.trans H; with_reducible exact H2_) | with_reducible exact H | (rw [hy533]; exact H) | exact H
        have Ny533 := Aside0.mk hy533
        clear hy533
        have H' := Aside0.mk H
        clear H
        have p530 : 0 ≤ (x15_1 : Int) := of_decide_eq_true (Qas)
        have q530 : x15_1 < (t526.length : Int) := of_decide_eq_true (Qas)
        obtain ⟨ad530, e530, hx530_0⟩ := Kd.at_int (Kd.R_reads' HO_13.out).2.2 x15_1 p530 q530
        cases e530
        replace p530 := eq_true p530
        replace q530 := eq_true q530
        try go_wp2
        have n0_ := Aside0.mk (Kd.R_drew HO_3.out)
        have n1_ := Aside0.mk (Kd.R_drew HO_13.out)
        have n2_ := Aside0.mk (Kd.R_drew HO_530000.out)
        have n3_ := Aside0.mk (Kd.R_drew HO_530001.out)
        have n4_ := Aside0.mk (blk_drew BK525.out)
        have n5_ := Aside0.mk (blk_drew BK529.out)
        have n6_ := Aside0.mk (below_drew1 HB.out)
        clear HO_3
        clear HO_13
        clear HO_530000
        clear HO_530001
        clear BK525
        clear BK529
        clear HB
        have HO_3 := n0_
        have HO_13 := n1_
        have HO_530000 := n2_
        have HO_530001 := n3_
        have BK525 := n4_
        have BK529 := n5_
        have HB := n6_
        clear n0_ n1_ n2_ n3_ n4_ n5_ n6_
        refine start_ (n := 16) (S := fun w' => True) (ds := []) (Qbz 16 0) (by kernel_rfl) rfl rfl trivial (fun hHeld => ?_); refine with_tabW width_town_decompose.tab7 width_town_decompose.bits7 (fun HT_ HW_ => ?_)
        generalize wr.drew = w19 at HO_3 HO_13 HO_530000 HO_530001 BK525 BK529 HB hHeld ⊢
        refine pure_ (i := 0) (N := some 20) (v := ?_) (a' := ?_) (Qbz 16 1) rfl rfl (Qao) (fun _ _ _ h => h) (Or.inl ⟨by rfl, ?_⟩) ?_ ?_
        rotate_left
        ·intro w'
         go_simp
         with_reducible rfl
        rotate_left
        ·simp only [Act.put, Qp1, Qp2, Qp3, i64_w, i32_w]
         rfl
        refine pure_ (i := 1) (N := some 21) (v := ?_) (a' := ?_) (Qbz 16 3) rfl rfl (Qao) (fun _ _ _ h => h) (Or.inl ⟨by rfl, ?_⟩) ?_ ?_
        rotate_left
        ·intro w'
         go_simp
         with_reducible rfl
        rotate_left
        ·simp only [Act.put, Qp1, Qp2, Qp3, i64_w, i32_w]
         rfl
        refine pure_ (i := 2) (N := some 22) (v := ?_) (a' := ?_) (Qbz 16 7) rfl rfl (Qao) (fun _ _ _ h => h) (Or.inl ⟨by rfl, ?_⟩) ?_ ?_
        rotate_left
        ·intro w'
         go_simp
         with_reducible rfl
        rotate_left
        ·simp only [Act.put, Qp1, Qp2, Qp3, i64_w, i32_w]
         rfl
        refine pure_ (i := 3) (N := some 23) (v := ?_) (a' := ?_) (Qbz 16 15) rfl rfl (Qao) (fun _ _ _ h => h) (Or.inl ⟨by rfl, ?_⟩) ?_ ?_
        rotate_left
        ·intro w'
         go_simp
         with_reducible rfl
        rotate_left
        ·simp only [Act.put, Qp1, Qp2, Qp3, i64_w, i32_w]
         rfl
        refine pure_ (i := 4) (N := some 24) (v := ?_) (a' := ?_) (Qbz 16 31) rfl rfl (Qao) (fun _ _ _ h => h) (Or.inl ⟨by rfl, ?_⟩) ?_ ?_
        rotate_left
        ·intro w'
         go_simp
         with_reducible rfl
        rotate_left
        ·simp only [Act.put, Qp1, Qp2, Qp3, i64_w, i32_w]
         rfl
        refine pure_ (i := 5) (N := some 25) (v := ?_) (a' := ?_) (Qbz 16 63) rfl rfl (Qao) (fun _ _ _ h => h) (Or.inl ⟨by rfl, ?_⟩) ?_ ?_
        rotate_left
        ·intro w'
         go_simp
         with_reducible rfl
        rotate_left
        ·simp only [Act.put, Qp1, Qp2, Qp3, i64_w, i32_w]
         rfl
        refine pure_ (i := 6) (N := some 26) (v := ?_) (a' := ?_) (Qbz 16 127) rfl rfl (Qao) (fun _ _ _ h => h) (Or.inl ⟨by rfl, ?_⟩) ?_ ?_
        rotate_left
        ·intro w'
         go_simp
         with_reducible rfl
        rotate_left
        ·simp only [Act.put, Qp1, Qp2, Qp3, i64_w, i32_w]
         rfl
        refine pure_ (i := 7) (N := some 27) (v := ?_) (a' := ?_) (Qbz 16 255) rfl rfl (Qao) (fun _ _ _ h => h) (Or.inl ⟨by rfl, ?_⟩) ?_ ?_
        rotate_left
        ·intro w'
         go_simp
         with_reducible rfl
        rotate_left
        ·simp only [Act.put, Qp1, Qp2, Qp3, i64_w, i32_w]
         rfl
        refine pure_ (i := 10) (N := some 30) (v := ?_) (a' := ?_) (Qbz 16 1279) rfl rfl (Qao) (fun _ _ _ h => h) (Or.inl ⟨by rfl, ?_⟩) ?_ ?_
        rotate_left
        ·intro w'
         go_simp
         with_reducible rfl
        rotate_left
        ·simp only [Act.put, Qp1, Qp2, Qp3, i64_w, i32_w]
         rfl
        refine pure_ (i := 12) (N := some 32) (v := ?_) (a' := ?_) (Qbz 16 5375) rfl rfl (Qao) (fun _ _ _ h => h) (Or.inl ⟨by rfl, ?_⟩) ?_ ?_
        rotate_left
        ·intro w'
         go_simp
         with_reducible rfl
        rotate_left
        ·simp only [Act.put, Qp1, Qp2, Qp3, i64_w, i32_w]
         rfl
        refine pure_ (i := 13) (N := some 33) (v := ?_) (a' := ?_) (Qbz 16 13567) rfl rfl (Qao) (fun _ _ _ h => h) (Or.inl ⟨by rfl, ?_⟩) ?_ ?_
        rotate_left
        ·intro w'
         go_simp
         with_reducible rfl
        rotate_left
        ·simp only [Act.put, Qp1, Qp2, Qp3, i64_w, i32_w]
         rfl
        refine one_ (i := 8) (N := some 28) (Qbz 16 13823) rfl rfl (one_of HT_.out (by kernel_rfl)) (by decide) (fun K hK => ?_)
        refine goes_ Tryd.func92 (by kernel_rfl) rfl #[.slice A0 l0.length c0, .int .i64 ji11, .int .i64 (Go.bits .or .i64 x5_1 (ji11))] (by rfl) rfl rfl (by (try simp only [List.map_toArray, List.map_cons, List.map_nil]); first | done | (simp only [hji11]; rfl) | rfl | (simp only [List.length_drop, List.length_take]; rfl)) ?_
        with_reducible refine (width_town_part.calls (hGL := (Qlg)) k1 _ _ l0 ji11 (Go.bits .or .i64 x5_1 (ji11)) t531 _ ?side1 ?side2 A13.out).mono ?_
        (case side1 => exact Qsc (Kd.C_below HR0.out HB.out))
        (case side2 => exact HC0.out)
        rintro e w20 ⟨rfl, hb⟩
        refine ⟨_, rfl, ?_⟩
        have n0_ := Aside0.mk (Kd.R_below (Qro HO_3.out) hb)
        have n1_ := Aside0.mk (Kd.R_below (Qro HO_13.out) hb)
        have n2_ := Aside0.mk (Kd.R_below (Qro HO_530000.out) hb)
        have n3_ := Aside0.mk (Kd.R_below (Qro HO_530001.out) hb)
        have n4_ := Aside0.mk (blk_below (g := gb525) (o := .cells #[.slice none 0 0, .slice none 0 0] 53 (0, 0)) (Qbl BK525.out) hb)
        have n5_ := Aside0.mk (blk_below (g := gb529) (o := .cells #[u530000, u530001] 53 (0, 0)) (Qbl BK529.out) hb)
        have n6_ := Aside0.mk (below_step (Qah GE525.out GE529.out) hb)
        clear HO_3
        clear HO_13
        clear HO_530000
        clear HO_530001
        clear BK525
        clear BK529
        clear HB
        have HO_3 := n0_
        have HO_13 := n1_
        have HO_530000 := n2_
        have HO_530001 := n3_
        have BK525 := n4_
        have BK529 := n5_
        have HB := n6_
        clear n0_ n1_ n2_ n3_ n4_ n5_ n6_
        (try clear hb)
        (try clear hb2)
        (try clear hk)
        (try clear hi)
        refine hK.out _ _ trivial (fun hHeld => ?_)
        clear hK K
        refine norm_ (a' := ?_) ?_ ?_
        rotate_left
        ·show Act.put _ (some 28) _ = _
         simp only [Act.put, Qp1, Qp2, Qp3, i64_w, i32_w]
         rfl
        refine one_ (i := 9) (N := some 29) (Qbz 16 14335) rfl rfl (one_of HT_.out (by kernel_rfl)) (by decide) (fun K hK => ?_)
        refine goes_ Tryd.func93 (by kernel_rfl) rfl #[.slice A0 l0.length c0, .int .i64 t531] (by rfl) rfl rfl (Qls) ?_
        with_reducible refine (width_town_around.calls (hGL := (Qlg)) k1 _ _ l0 t531 t532 _ ?side1 ?side2 A14.out).mono ?_
        (case side1 => exact Qsc (Kd.C_below HR0.out HB.out))
        (case side2 => exact HC0.out)
        rintro e w21 ⟨rfl, hb⟩
        refine ⟨_, rfl, ?_⟩
        have n0_ := Aside0.mk (Kd.R_below (Qro HO_3.out) hb)
        have n1_ := Aside0.mk (Kd.R_below (Qro HO_13.out) hb)
        have n2_ := Aside0.mk (Kd.R_below (Qro HO_530000.out) hb)
        have n3_ := Aside0.mk (Kd.R_below (Qro HO_530001.out) hb)
        have n4_ := Aside0.mk (blk_below (g := gb525) (o := .cells #[.slice none 0 0, .slice none 0 0] 53 (0, 0)) (Qbl BK525.out) hb)
        have n5_ := Aside0.mk (blk_below (g := gb529) (o := .cells #[u530000, u530001] 53 (0, 0)) (Qbl BK529.out) hb)
        have n6_ := Aside0.mk (below_step (Qah GE525.out GE529.out) hb)
        clear HO_3
        clear HO_13
        clear HO_530000
        clear HO_530001
        clear BK525
        clear BK529
        clear HB
        have HO_3 := n0_
        have HO_13 := n1_
        have HO_530000 := n2_
        have HO_530001 := n3_
        have BK525 := n4_
        have BK529 := n5_
        have HB := n6_
        clear n0_ n1_ n2_ n3_ n4_ n5_ n6_
        (try clear hb)
        (try clear hb2)
        (try clear hk)
        (try clear hi)
        refine hK.out _ _ trivial (fun hHeld => ?_)
        clear hK K
        refine norm_ (a' := ?_) ?_ ?_
        rotate_left
        ·show Act.put _ (some 29) _ = _
         simp only [Act.put, Qp1, Qp2, Qp3, i64_w, i32_w]
         rfl
        refine pure_ (i := 11) (N := some 31) (v := ?_) (a' := ?_) (Qbz 16 16383) rfl rfl (Qao) (fun _ _ _ h => h) (Or.inl ⟨by rfl, ?_⟩) ?_ ?_
        rotate_left
        ·intro w'
         go_simp
         with_reducible rfl
        rotate_left
        ·simp only [Act.put, Qp1, Qp2, Qp3, i64_w, i32_w]
         rfl
        refine pure_ (i := 14) (N := some 34) (v := ?_) (a' := ?_) (Qbz 16 32767) rfl rfl (Qao) (fun _ _ _ h => h) (Or.inl ⟨by rfl, ?_⟩) ?_ ?_
        rotate_left
        ·intro w'
         go_simp
         with_reducible rfl
        rotate_left
        ·simp only [Act.put, Qp1, Qp2, Qp3, i64_w, i32_w]
         rfl
        refine pure_ (i := 15) (N := some 8) (v := ?_) (a' := ?_) (Qbz 16 65535) rfl rfl (Qao) (fun _ _ _ h => h) (Or.inl ⟨by rfl, ?_⟩) ?_ ?_
        rotate_left
        ·intro w'
         go_simp
         with_reducible rfl
        rotate_left
        ·simp only [Act.put, Qp1, Qp2, Qp3, i64_w, i32_w]
         rfl
        refine done_ (done_of HT_.out (by kernel_rfl)) ?_
        try go_wp2
        have n0_ := Aside0.mk (Kd.R_drew HO_3.out)
        have n1_ := Aside0.mk (Kd.R_drew HO_13.out)
        have n2_ := Aside0.mk (Kd.R_drew HO_530000.out)
        have n3_ := Aside0.mk (Kd.R_drew HO_530001.out)
        have n4_ := Aside0.mk (blk_drew BK525.out)
        have n5_ := Aside0.mk (blk_drew BK529.out)
        have n6_ := Aside0.mk (below_drew1 HB.out)
        clear HO_3
        clear HO_13
        clear HO_530000
        clear HO_530001
        clear BK525
        clear BK529
        clear HB
        have HO_3 := n0_
        have HO_13 := n1_
        have HO_530000 := n2_
        have HO_530001 := n3_
        have BK525 := n4_
        have BK529 := n5_
        have HB := n6_
        clear n0_ n1_ n2_ n3_ n4_ n5_ n6_
        refine start_ (n := 10) (S := fun w' => w'.cell? ⟨gb529, 0, none⟩ = some (u530000) ∧ w'.cell? ⟨gb529, 1, none⟩ = some (u530001)) (ds := [9]) (Qbz 10 0) (by kernel_rfl) rfl rfl ⟨(blk_cell BK529.out 0).trans rfl, (blk_cell BK529.out 1).trans rfl⟩ (fun hHeld => ?_); refine with_tabW width_town_decompose.tab9 width_town_decompose.bits9 (fun HT_ HW_ => ?_)
        generalize w21.drew = w22 at HO_3 HO_13 HO_530000 HO_530001 BK525 BK529 HB hHeld ⊢
        refine pure_ (i := 0) (N := some 39) (v := ?_) (a' := ?_) (Qbz 10 1) rfl rfl (Qao) (fun _ _ _ h => h) (Or.inl ⟨by rfl, ?_⟩) ?_ ?_
        rotate_left
        ·intro w'
         go_simp
         with_reducible rfl
        rotate_left
        ·simp only [Act.put, Qp1, Qp2, Qp3, i64_w, i32_w]
         rfl
        refine pure_ (i := 2) (N := some 41) (v := ?_) (a' := ?_) (Qbz 10 5) rfl rfl (Qao) (fun _ _ _ h => h) (Or.inl ⟨by rfl, ?_⟩) ?_ ?_
        rotate_left
        ·intro w'
         go_simp
         with_reducible rfl
        rotate_left
        ·simp only [Act.put, Qp1, Qp2, Qp3, i64_w, i32_w]
         rfl
        refine pure_ (i := 3) (N := some 42) (v := ?_) (a' := ?_) (Qbz 10 13) rfl rfl (Qao) (fun _ _ _ h => h) (Or.inl ⟨by rfl, ?_⟩) ?_ ?_
        rotate_left
        ·intro w'
         go_simp
         with_reducible rfl
        rotate_left
        ·simp only [Act.put, Qp1, Qp2, Qp3, i64_w, i32_w]
         rfl
        refine pure_ (i := 4) (N := some 43) (v := ?_) (a' := ?_) (Qbz 10 29) rfl rfl (Qao) (fun _ _ _ h => h) (Or.inl ⟨by rfl, ?_⟩) ?_ ?_
        rotate_left
        ·intro w'
         go_simp
         with_reducible rfl
        rotate_left
        ·simp only [Act.put, Qp1, Qp2, Qp3, i64_w, i32_w]
         rfl
        refine pure_ (i := 5) (N := some 44) (v := ?_) (a' := ?_) (Qbz 10 61) rfl rfl (Qao) (fun _ _ _ h => h) (Or.inl ⟨by rfl, ?_⟩) ?_ ?_
        rotate_left
        ·intro w'
         go_simp
         with_reducible rfl
        rotate_left
        ·simp only [Act.put, Qp1, Qp2, Qp3, i64_w, i32_w]
         rfl
        refine take_ (i := 1) (N := some 40) (v := ?_) (a' := ?_) (Qbz 10 63) rfl rfl (take_ofW HT_.out HW_.out (by kernel_rfl)) (fun _ _ _ h => h) (Or.inl ⟨by rfl, ?_⟩) hHeld ?_ ?_
        rotate_left
        ·rintro w' ⟨s0, s1⟩
         go_simp
         with_reducible rfl
        rotate_left
        ·simp only [Act.put, Qp1, Qp2, Qp3, i64_w, i32_w]
         rfl
        refine one_ (i := 6) (N := some 45) (Qbz 10 127) rfl rfl (one_of HT_.out (by kernel_rfl)) (by decide) (fun K hK => ?_)
        refine value_ (w1 := ?_) (v := ?_) (by rfl) rfl ?_ ?_
        rotate_left 2
        ·go_simp
         constructor
         ·rfl
         ·rfl
        refine hK.out _ _ ⟨(blk_cell (blk_alloc BK529.out _) 0).trans rfl, (blk_cell (blk_alloc BK529.out _) 1).trans rfl⟩ (fun hHeld => ?_)
        clear hK K
        refine norm_ (a' := ?_) ?_ ?_
        rotate_left
        ·show Act.put _ (some 45) _ = _
         simp only [Act.put, Qp1, Qp2, Qp3, i64_w, i32_w]
         rfl
        refine one_ (i := 7) (N := some 46) (Qbz 10 255) rfl rfl (one_of HT_.out (by kernel_rfl)) (by decide) (fun K hK => ?_)
        refine Kd.R_append_step (Kd.int .i64) (w0 := w) w.heap.size (by rfl) (.tmp 40) (.tmp 45) 22 3 (.int .i64 0) 8 rfl Tryd.underlying22 info3 rfl (by decide) (by omega) u530000 x530000_1 (Go.bits .or .i64 (Go.bits .andNot .i64 (Go.bits .andNot .i64 t532 x5_1) (ji11)) (ji11)) [.int .i64 (Go.bits .or .i64 (Go.bits .andNot .i64 (Go.bits .andNot .i64 t532 x5_1) (ji11)) (ji11))] (fun k_ => some k_ ≠ (.slice (some ad530) t526.length co6 : Value).ownBlock ∧ some k_ ≠ (.slice (some ad530) t526.length co6 : Value).ownBlock ∧ some k_ ≠ (u530001 : Value).ownBlock) (fun _ => False) rfl rfl ?aP (fun _ hk => hk.elim) ?aF ?aO ?aB ?aS ?aL ?_
        (case aP => exact rfl)
        (case aB => exact (Qah GE525.out GE529.out))
        (case aF => exact (fun k_ hk => ⟨Kd.fresh' (Kd.R_lt (Qro HO_3.out)) k_ hk, Kd.fresh' (Kd.R_lt (Qro HO_13.out)) k_ hk, Kd.fresh' (Kd.R_lt (Qro HO_530001.out)) k_ hk⟩))
        (case aO => exact (Qro HO_530000.out))
        (case aS => exact (below_size (Qah GE525.out GE529.out)))
        (case aL => have := LMc18.out; omega)
        intro v534 w23 ho hb hg hat
        rw [← Ny533.out] at ho
        have n0_ := Aside0.mk (Kd.R_after (ok := (fun k_ => some k_ ≠ (u530001 : Value).ownBlock)) (by (with_reducible repeat (first | apply Kd.R_alloc | apply Kd.R_drewN | apply Kd.R_drew)); exact Kd.R_mono HO_3.out (fun _ hk => ⟨hk.2, hk.1⟩)) hg hat)
        have n1_ := Aside0.mk (Kd.R_after (ok := (fun k_ => some k_ ≠ (u530001 : Value).ownBlock)) (by (with_reducible repeat (first | apply Kd.R_alloc | apply Kd.R_drewN | apply Kd.R_drew)); exact Kd.R_mono HO_13.out (fun _ hk => ⟨hk.2, hk.1⟩)) hg hat)
        have n2_ := Aside0.mk (Kd.R_after (ok := (fun k_ => some k_ ≠ (.slice (some ad530) t526.length co6 : Value).ownBlock ∧ some k_ ≠ (.slice (some ad530) t526.length co6 : Value).ownBlock)) (by (with_reducible repeat (first | apply Kd.R_alloc | apply Kd.R_drewN | apply Kd.R_drew)); exact Kd.R_mono HO_530001.out (fun _ hk => ⟨⟨hk.1, hk.2.1⟩, hk.2.2⟩)) hg hat)
        have n3_ := Aside0.mk (blk_grown (g := gb525) (o := .cells #[.slice none 0 0, .slice none 0 0] 53 (0, 0)) (Qbl BK525.out) hg (Kd.R_ne HO_530000.out BK525.out (by decide)))
        have n4_ := Aside0.mk (blk_grown (g := gb529) (o := .cells #[u530000, u530001] 53 (0, 0)) (Qbl BK529.out) hg (Kd.R_ne HO_530000.out BK529.out (by decide)))
        have n5_ := Aside0.mk (hb)
        have n6_ := Aside0.mk (ho)
        clear HO_3
        clear HO_13
        clear HO_530001
        clear BK525
        clear BK529
        clear HB
        clear HO_530000
        have HO_3 := n0_
        have HO_13 := n1_
        have HO_530001 := n2_
        have BK525 := n3_
        have BK529 := n4_
        have HB := n5_
        have HO535 := n6_
        clear n0_ n1_ n2_ n3_ n4_ n5_ n6_
        clear ho hb hg hat
        obtain ⟨Ao24, co24, eo24⟩ := Kd.R_slice HO535.out
        (first | subst eo24 | (injection eo24 with f1_ f2_ f3_; have f4_ := f1_.symm; have f5_ := f3_.symm; clear f1_ f2_ f3_; subst f4_; subst f5_))
        refine hK.out _ _ ⟨(blk_cell BK529.out 0).trans rfl, (blk_cell BK529.out 1).trans rfl⟩ (fun hHeld => ?_)
        clear hK K
        refine norm_ (a' := ?_) ?_ ?_
        rotate_left
        ·show Act.put _ (some 46) _ = _
         simp only [Act.put, Qp1, Qp2, Qp3, i64_w, i32_w]
         rfl
        refine pure_ (i := 8) (N := some 47) (v := ?_) (a' := ?_) (Qbz 10 511) rfl rfl (Qao) (fun _ _ _ h => h) (Or.inl ⟨by rfl, ?_⟩) ?_ ?_
        rotate_left
        ·intro w'
         go_simp
         with_reducible rfl
        rotate_left
        ·simp only [Act.put, Qp1, Qp2, Qp3, i64_w, i32_w]
         rfl
        refine last_ (i := 9) (N := none) (Qbz 10 1023) rfl rfl (one_of HT_.out (by kernel_rfl)) (by decide) (fun K hK => ?_)
        have hs25 : w23.cell? ⟨gb529, 0, none⟩ = some (u530000) := (blk_cell BK529.out 0).trans rfl
        have hfs25 := blk_frozen BK529.out 0
        have hns25_0 := NB525_529.out
        have hms25_0 := NB529_525.out
        refine skip_ (w1 := ?_) (by rfl) rfl ?_ ?_
        rotate_left
        ·go_simp
         rfl
        refine hK.out _ _ ?_
        clear hK K
        refine done_ (done_of HT_.out (by kernel_rfl)) ?_
        try go_wp2
        go_loopg [9, 10] k1 (fun kq v9 v10 w' => ∃ (x9_2 : Int) (x10_2 : Int), v9 = .int .i64 x9_2 ∧ v10 = .int .i64 x10_2 ∧ Aside0 (width_town_decompose.l1 kq l0 t526 (Go.bits .or .i64 x5_1 (ji11)) (Go.bits .andNot .i64 (Go.bits .andNot .i64 t532 x5_1) (ji11)) x9_2 x10_2 t526 (t526.length : Int) x15_1 y533 x530001_1 = some (r1, r2)) ∧ Aside0 (kq ≤ k1) ∧ Aside0 (Kd.R (Kd.int .i64) 3 w' w.heap.size (fun k_ => some k_ ≠ ((.slice Ao24 y533.length co24) : Value).ownBlock ∧ some k_ ≠ (u530001 : Value).ownBlock) (.slice (some ad530) t526.length co6) t526) ∧ Aside0 (Kd.R (Kd.int .i64) 3 w' w.heap.size (fun k_ => some k_ ≠ ((.slice Ao24 y533.length co24) : Value).ownBlock ∧ some k_ ≠ (u530001 : Value).ownBlock) (.slice (some ad530) t526.length co6) t526) ∧ Aside0 (Kd.R (Kd.int .i64) 3 w' w.heap.size (fun k_ => some k_ ≠ ((.slice (some ad530) t526.length co6) : Value).ownBlock ∧ some k_ ≠ ((.slice (some ad530) t526.length co6) : Value).ownBlock ∧ some k_ ≠ (u530001 : Value).ownBlock) (.slice Ao24 y533.length co24) y533) ∧ Aside0 (Kd.R (Kd.int .i64) 3 w' w.heap.size (fun k_ => some k_ ≠ ((.slice (some ad530) t526.length co6) : Value).ownBlock ∧ some k_ ≠ ((.slice (some ad530) t526.length co6) : Value).ownBlock ∧ some k_ ≠ ((.slice Ao24 y533.length co24) : Value).ownBlock) u530001 x530001_1) ∧ Aside0 (w'.heap[gb525]? = some (.cells #[(.slice none 0 0), (.slice none 0 0)] 53 (0, 0))) ∧ Aside0 (w'.heap[gb529]? = some (.cells #[(.slice Ao24 y533.length co24), u530001] 53 (0, 0))) ∧ Aside0 (Below w.heap.size w w'))
        case atStart => exact ⟨(wrap64 (x15_1 + 1)), (wrap64 (x15_1 + 1)), (Qrs), (Qrs), H', ⟨Nat.le_refl _⟩, ⟨by (with_reducible repeat (first | apply Kd.R_alloc | apply Kd.R_drewN | apply Kd.R_drew)); exact Kd.R_mono (Kd.R_far (p := ⟨gb529, 0, none⟩) (Kd.R_types HO_3.out BK529.out (by decide)) (fun _ hk => hk.2) (.slice Ao24 y533.length co24)) (fun _ hk => ⟨hk.1.2, hk.1.1⟩)⟩, ⟨by (with_reducible repeat (first | apply Kd.R_alloc | apply Kd.R_drewN | apply Kd.R_drew)); exact Kd.R_mono (Kd.R_far (p := ⟨gb529, 0, none⟩) (Kd.R_types HO_13.out BK529.out (by decide)) (fun _ hk => hk.2) (.slice Ao24 y533.length co24)) (fun _ hk => ⟨hk.1.2, hk.1.1⟩)⟩, ⟨by (with_reducible repeat (first | apply Kd.R_alloc | apply Kd.R_drewN | apply Kd.R_drew)); exact Kd.R_mono (Kd.R_far (p := ⟨gb529, 0, none⟩) (Kd.R_types HO535.out BK529.out (by decide)) (fun _ hk => hk.2) (.slice Ao24 y533.length co24)) (fun _ hk => ⟨hk.1.1, ⟨hk.1.2.1, hk.1.2.2⟩⟩)⟩, ⟨by (with_reducible repeat (first | apply Kd.R_alloc | apply Kd.R_drewN | apply Kd.R_drew)); exact Kd.R_mono (Kd.R_far (p := ⟨gb529, 0, none⟩) (Kd.R_types HO_530001.out BK529.out (by decide)) (fun _ hk => hk.2) (.slice Ao24 y533.length co24)) (fun _ hk => ⟨hk.1.1.1, ⟨hk.1.1.2, hk.1.2⟩⟩)⟩, ⟨by (with_reducible repeat (first | refine blk_drewN ?_ _ | refine blk_drew ?_ | refine blk_alloc ?_ _)); refine blk_far ?_ NB525_529.out _; (with_reducible repeat (first | refine blk_drewN ?_ _ | refine blk_drew ?_ | refine blk_alloc ?_ _)); exact BK525.out⟩, ⟨by (with_reducible repeat (first | refine blk_drewN ?_ _ | refine blk_drew ?_ | refine blk_alloc ?_ _)); refine blk_put (cs := #[u530000, u530001]) ?_ 0 _ rfl; (with_reducible repeat (first | refine blk_drewN ?_ _ | refine blk_drew ?_ | refine blk_alloc ?_ _)); exact BK529.out⟩, ⟨by repeat (first | (with_reducible first | exact HB.out | apply below_alloc | apply pw_below_drewN | apply below_drew1 | refine below_set ?_ GE525.out | refine below_set ?_ GE529.out) | exact HB.out)⟩⟩
        case round =>
         clear H'
         try clear c1
         try clear p2
         try clear p5
         try clear q5
         try clear hx5
         try clear p6
         try clear c7
         try clear c7b0
         try clear c8
         try clear c8b0
         try clear c9
         try clear c9b0
         try clear c10
         try clear c10b0
         try clear c10b1
         try clear c12
         try clear c12b0
         try clear c15
         try clear c15b0
         try clear c16
         try clear c16b0
         try clear c17
         try clear c17b0
         try clear c18
         try clear hx530_0
         try clear p2
         try clear p530
         try clear q530
         obtain ⟨x9_2, x10_2, rfl, rfl, HA, HK2, HO_3, HO_13, HO_530000, HO_530001, BK525, BK529, HB⟩ := hrel
         cases gk with
         | zero => exact absurd HA.out (by simp [width_town_decompose.l1])
         | succ k2 =>
          have H := HA.out
          clear HA
          simp only [width_town_decompose.l1] at H
          by_cases c26 : x10_2 < (t526.length : Int)
          ·rw [if_pos c26] at H
           have c26b0 : decide (x10_2 < (t526.length : Int)) = true := decide_eq_true c26
           clear c26
           by_cases c27 : 0 ≤ x10_2
           ·rw [if_pos c27] at H
            have c27b0 : decide (0 ≤ x10_2) = true := decide_eq_true c27
            clear c27
            by_cases c28 : 0 ≤ (rd t526 x10_2)
            ·rw [if_pos c28] at H
             have c28b0 := eq_true c28
             have c28b1 : decide (0 ≤ (rd t526 x10_2)) = true := decide_eq_true c28
             clear c28
             obtain ⟨ji29, hji29⟩ : ∃ j_ : Int, (shr .i64 (Go.bits .andNot .i64 (Go.bits .andNot .i64 t532 x5_1) (ji11)) (rd t526 x10_2)) = j_ := ⟨_, rfl⟩
             replace H : (if (Go.bits .and .i64 (ji29) 1) = 1 then (if x10_2 = (t526.length : Int) then (if x530001_1.length < 17592186044416 then (width_town_decompose.l0 k2 l0 t526 (Go.bits .or .i64 x5_1 (ji11)) t526 (t526.length : Int) (wrap64 (x15_1 + 1)) y533 (x530001_1 ++ [(-1)])) else (none)) else (if x530001_1.length < 17592186044416 then (width_town_decompose.l0 k2 l0 t526 (Go.bits .or .i64 x5_1 (ji11)) t526 (t526.length : Int) (wrap64 (x15_1 + 1)) y533 (x530001_1 ++ [x10_2])) else (none))) else (width_town_decompose.l1 k2 l0 t526 (Go.bits .or .i64 x5_1 (ji11)) (Go.bits .andNot .i64 (Go.bits .andNot .i64 t532 x5_1) (ji11)) x9_2 (wrap64 (x10_2 + 1)) t526 (t526.length : Int) x15_1 y533 x530001_1)) = some (r1, r2) := by first | (rw [hji29] at H; exact H) | (simp only [hji29] at H ⊢; exact H)
             have hji29_ : ((Go.bits .andNot .i64 (Go.bits .andNot .i64 t532 x5_1) (ji11)) / 2 ^ min (rd t526 x10_2).toNat 64) = ji29 := hji29
             have hji29z : (rd t526 x10_2) ≤ 64 → ((Go.bits .andNot .i64 (Go.bits .andNot .i64 t532 x5_1) (ji11)) / 2 ^ (rd t526 x10_2).toNat) = ji29 := shr_small hji29
             by_cases c30 : (Go.bits .and .i64 (ji29) 1) = 1
             ·rw [if_pos c30] at H
              have c30b0 : ((Go.bits .and .i64 (ji29) 1) == 1) = true := beq_iff_eq.mpr c30
              have c30b1 : ((Go.bits .and .i64 (ji29) 1) != 1) = false := bne_eq_false_iff_eq.mpr c30
              clear c30
              by_cases c31 : x10_2 = (t526.length : Int)
              ·rw [if_pos c31] at H
               have c31b0 : (x10_2 == (t526.length : Int)) = true := beq_iff_eq.mpr c31
               have c31b1 : (x10_2 != (t526.length : Int)) = false := bne_eq_false_iff_eq.mpr c31
               clear c31
               by_cases c32 : x530001_1.length < 17592186044416
               ·rw [if_pos c32] at H
                have LMc32 := Aside0.mk c32
                clear c32
                obtain ⟨y537, hy537⟩ : ∃ y_ : List Int, y_ = (x530001_1 ++ [(-1)]) := ⟨_, rfl⟩
                replace H : (width_town_decompose.l0 k2 l0 t526 (Go.bits .or .i64 x5_1 (ji11)) t526 (t526.length : Int) (wrap64 (x15_1 + 1)) y533 y537) = some (r1, r2) := by first | (rw [hy537]; with_reducible exact H) | (have H2_ := (Option.bind_some _ _).symm.trans H; rw [hy537]; with_reducible exact H2_) | (have H2_ := (Option.bind_some _ _).symm.trans H; with_reducible exact H2_) | with_reducible exact H | (rw [hy537]; exact H) | exact H
                have Ny537 := Aside0.mk hy537
                clear hy537
                have H' := Aside0.mk H
                clear H
                have p536 : 0 ≤ (x10_2 : Int) := of_decide_eq_true (Qas)
                have q536 : x10_2 < (t526.length : Int) := of_decide_eq_true (Qas)
                obtain ⟨ad536, e536, hx536_0⟩ := Kd.at_int (Kd.R_reads' HO_3.out).2.2 x10_2 p536 q536
                obtain rfl : ad530 = ad536 := (by injection e536)
                replace p536 := eq_true p536
                replace q536 := eq_true q536
                have hnb33 := NB529_525.out
                have hnc33 := NB525_529.out
                have hcz34_0 : wr.cell? ⟨gb529, 0, none⟩ = some (.slice Ao24 y533.length co24) := (blk_cell BK529.out 0).trans rfl
                have hcz34_1 : wr.cell? ⟨gb529, 1, none⟩ = some (u530001) := (blk_cell BK529.out 1).trans rfl
                have hfz34_0 := blk_frozen BK529.out 0
                have hfz34_1 := blk_frozen BK529.out 1
                go_wp2_with (first | ((with_reducible refine gate_builtin (b := .append) (xs := #[.tmp 72, .tmp 74]) rfl ?_); at_builtin; refine Kd.R_append (Kd.int .i64) (w0 := w) w.heap.size rfl (.tmp 72) (.tmp 74) 22 3 (.int .i64 0) 8 rfl Tryd.underlying22 info3 rfl (by decide) (by omega) u530001 x530001_1 (-1) [.int .i64 (-1)] (fun k_ => some k_ ≠ (.slice (some ad530) t526.length co6 : Value).ownBlock ∧ some k_ ≠ (.slice (some ad530) t526.length co6 : Value).ownBlock ∧ some k_ ≠ (.slice Ao24 y533.length co24 : Value).ownBlock) (fun _ => False) rfl rfl ?aP (fun _ hk => hk.elim) ?aF ?aO ?aB ?aS ?aL ?_; (case aP => exact rfl); (case aB => exact (Qah GE525.out GE529.out)); (case aF => exact (fun k_ hk => ⟨Kd.fresh' (Kd.R_lt (Qro HO_3.out)) k_ hk, Kd.fresh' (Kd.R_lt (Qro HO_13.out)) k_ hk, Kd.fresh' (Kd.R_lt (Qro HO_530000.out)) k_ hk⟩)); (case aO => exact (Qro HO_530001.out)); (case aS => exact (below_size (Qah GE525.out GE529.out))); (case aL => have := LMc32.out; omega); intro v538 w35 ho hb hg hat; rw [← Ny537.out] at ho; have n0_ := Aside0.mk (Kd.R_after (ok := (fun k_ => some k_ ≠ (.slice Ao24 y533.length co24 : Value).ownBlock)) (Qro HO_3.out) hg hat); have n1_ := Aside0.mk (Kd.R_after (ok := (fun k_ => some k_ ≠ (.slice Ao24 y533.length co24 : Value).ownBlock)) (Qro HO_13.out) hg hat); have n2_ := Aside0.mk (Kd.R_after (ok := (fun k_ => some k_ ≠ (.slice (some ad530) t526.length co6 : Value).ownBlock ∧ some k_ ≠ (.slice (some ad530) t526.length co6 : Value).ownBlock)) (by (with_reducible repeat (first | apply Kd.R_alloc | apply Kd.R_drewN | apply Kd.R_drew)); exact Kd.R_mono HO_530000.out (fun _ hk => ⟨⟨hk.1, hk.2.1⟩, hk.2.2⟩)) hg hat); have n3_ := Aside0.mk (blk_grown (g := gb525) (o := .cells #[.slice none 0 0, .slice none 0 0] 53 (0, 0)) (Qbl BK525.out) hg (Kd.R_ne HO_530001.out BK525.out (by decide))); have n4_ := Aside0.mk (blk_grown (g := gb529) (o := .cells #[.slice Ao24 y533.length co24, u530001] 53 (0, 0)) (Qbl BK529.out) hg (Kd.R_ne HO_530001.out BK529.out (by decide))); have n5_ := Aside0.mk (hb); have n6_ := Aside0.mk (ho); clear HO_3; clear HO_13; clear HO_530000; clear BK525; clear BK529; clear HB; clear HO_530001; have HO_3 := n0_; have HO_13 := n1_; have HO_530000 := n2_; have BK525 := n3_; have BK529 := n4_; have HB := n5_; have HO539 := n6_; clear n0_ n1_ n2_ n3_ n4_ n5_ n6_; clear ho hb hg hat; obtain ⟨Ao36, co36, eo36⟩ := Kd.R_slice HO539.out; subst eo36; have hcz37_0 : w35.cell? ⟨gb529, 0, none⟩ = some (.slice Ao24 y533.length co24) := (blk_cell BK529.out 0).trans rfl; have hcz37_1 : w35.cell? ⟨gb529, 1, none⟩ = some (u530001) := (blk_cell BK529.out 1).trans rfl; have hfz37_0 := blk_frozen BK529.out 0; have hfz37_1 := blk_frozen BK529.out 1))
                go_roundg k2
                case measure => have := HK1.out; have := HK2.out; omega
                case rel => exact ⟨((Go.bits .or .i64 x5_1 (ji11))), (wrap64 (x15_1 + 1)), (y533), (y537), (.slice Ao24 y533.length co24), (.slice Ao36 y537.length co36), (by first | rfl | (simp; done) | (simp only [← hji11] <;> (first | rfl | simp)) | (simp [*]; done)), (Qrs), H', ⟨by have := HK1.out; have := HK2.out; omega⟩, ⟨by (with_reducible repeat (first | apply Kd.R_alloc | apply Kd.R_drewN | apply Kd.R_drew)); exact Kd.R_mono (Kd.R_far (p := ⟨gb529, 1, none⟩) (Kd.R_types HO_3.out BK529.out (by decide)) (fun _ hk => hk.2) (.slice Ao36 y537.length co36)) (fun _ hk => ⟨hk.1.1, hk.1.2⟩)⟩, ⟨by (with_reducible repeat (first | apply Kd.R_alloc | apply Kd.R_drewN | apply Kd.R_drew)); exact Kd.R_mono (Kd.R_far (p := ⟨gb529, 1, none⟩) (Kd.R_types HO_13.out BK529.out (by decide)) (fun _ hk => hk.2) (.slice Ao36 y537.length co36)) (fun _ hk => ⟨hk.1.1, hk.1.2⟩)⟩, ⟨by (with_reducible repeat (first | apply Kd.R_alloc | apply Kd.R_drewN | apply Kd.R_drew)); exact Kd.R_mono (Kd.R_far (p := ⟨gb529, 1, none⟩) (Kd.R_types HO_530000.out BK529.out (by decide)) (fun _ hk => hk.2) (.slice Ao36 y537.length co36)) (fun _ hk => ⟨hk.1.1.1, ⟨hk.1.1.2, hk.1.2⟩⟩)⟩, ⟨by (with_reducible repeat (first | apply Kd.R_alloc | apply Kd.R_drewN | apply Kd.R_drew)); exact Kd.R_mono (Kd.R_far (p := ⟨gb529, 1, none⟩) (Kd.R_types HO539.out BK529.out (by decide)) (fun _ hk => hk.2) (.slice Ao36 y537.length co36)) (fun _ hk => ⟨hk.1.1, ⟨hk.1.2.1, hk.1.2.2⟩⟩)⟩, ⟨by (with_reducible repeat (first | refine blk_drewN ?_ _ | refine blk_drew ?_ | refine blk_alloc ?_ _)); refine blk_far ?_ NB525_529.out _; (with_reducible repeat (first | refine blk_drewN ?_ _ | refine blk_drew ?_ | refine blk_alloc ?_ _)); exact BK525.out⟩, ⟨by (with_reducible repeat (first | refine blk_drewN ?_ _ | refine blk_drew ?_ | refine blk_alloc ?_ _)); refine blk_put (cs := #[.slice Ao24 y533.length co24, u530001]) ?_ 1 _ rfl; (with_reducible repeat (first | refine blk_drewN ?_ _ | refine blk_drew ?_ | refine blk_alloc ?_ _)); exact BK529.out⟩, ⟨by repeat (first | (with_reducible first | exact HB.out | apply below_alloc | apply pw_below_drewN | apply below_drew1 | refine below_set ?_ GE525.out | refine below_set ?_ GE529.out) | exact HB.out)⟩⟩
               ·rw [if_neg c32] at H
                exact absurd H (by simp)
              ·rw [if_neg c31] at H
               have c31b0 : (x10_2 == (t526.length : Int)) = false := beq_eq_false_iff_ne.mpr c31
               have c31b1 : (x10_2 != (t526.length : Int)) = true := bne_iff_ne.mpr c31
               by_cases c38 : x530001_1.length < 17592186044416
               ·rw [if_pos c38] at H
                have LMc38 := Aside0.mk c38
                clear c38
                obtain ⟨y540, hy540⟩ : ∃ y_ : List Int, y_ = (x530001_1 ++ [x10_2]) := ⟨_, rfl⟩
                replace H : (width_town_decompose.l0 k2 l0 t526 (Go.bits .or .i64 x5_1 (ji11)) t526 (t526.length : Int) (wrap64 (x15_1 + 1)) y533 y540) = some (r1, r2) := by first | (rw [hy540]; with_reducible exact H) | (have H2_ := (Option.bind_some _ _).symm.trans H; rw [hy540]; with_reducible exact H2_) | (have H2_ := (Option.bind_some _ _).symm.trans H; with_reducible exact H2_) | with_reducible exact H | (rw [hy540]; exact H) | exact H
                have Ny540 := Aside0.mk hy540
                clear hy540
                have H' := Aside0.mk H
                clear H
                have p536 : 0 ≤ (x10_2 : Int) := of_decide_eq_true (Qas)
                have q536 : x10_2 < (t526.length : Int) := of_decide_eq_true (Qas)
                obtain ⟨ad536, e536, hx536_0⟩ := Kd.at_int (Kd.R_reads' HO_3.out).2.2 x10_2 p536 q536
                obtain rfl : ad530 = ad536 := (by injection e536)
                replace p536 := eq_true p536
                replace q536 := eq_true q536
                have hnb39 := NB529_525.out
                have hnc39 := NB525_529.out
                have hcz40_0 : wr.cell? ⟨gb529, 0, none⟩ = some (.slice Ao24 y533.length co24) := (blk_cell BK529.out 0).trans rfl
                have hcz40_1 : wr.cell? ⟨gb529, 1, none⟩ = some (u530001) := (blk_cell BK529.out 1).trans rfl
                have hfz40_0 := blk_frozen BK529.out 0
                have hfz40_1 := blk_frozen BK529.out 1
                go_wp2_with (first | ((with_reducible refine gate_builtin (b := .append) (xs := #[.tmp 72, .tmp 74]) rfl ?_); at_builtin; refine Kd.R_append (Kd.int .i64) (w0 := w) w.heap.size rfl (.tmp 72) (.tmp 74) 22 3 (.int .i64 0) 8 rfl Tryd.underlying22 info3 rfl (by decide) (by omega) u530001 x530001_1 x10_2 [.int .i64 x10_2] (fun k_ => some k_ ≠ (.slice (some ad530) t526.length co6 : Value).ownBlock ∧ some k_ ≠ (.slice (some ad530) t526.length co6 : Value).ownBlock ∧ some k_ ≠ (.slice Ao24 y533.length co24 : Value).ownBlock) (fun _ => False) rfl rfl ?aP (fun _ hk => hk.elim) ?aF ?aO ?aB ?aS ?aL ?_; (case aP => exact rfl); (case aB => exact (Qah GE525.out GE529.out)); (case aF => exact (fun k_ hk => ⟨Kd.fresh' (Kd.R_lt (Qro HO_3.out)) k_ hk, Kd.fresh' (Kd.R_lt (Qro HO_13.out)) k_ hk, Kd.fresh' (Kd.R_lt (Qro HO_530000.out)) k_ hk⟩)); (case aO => exact (Qro HO_530001.out)); (case aS => exact (below_size (Qah GE525.out GE529.out))); (case aL => have := LMc38.out; omega); intro v541 w41 ho hb hg hat; rw [← Ny540.out] at ho; have n0_ := Aside0.mk (Kd.R_after (ok := (fun k_ => some k_ ≠ (.slice Ao24 y533.length co24 : Value).ownBlock)) (Qro HO_3.out) hg hat); have n1_ := Aside0.mk (Kd.R_after (ok := (fun k_ => some k_ ≠ (.slice Ao24 y533.length co24 : Value).ownBlock)) (Qro HO_13.out) hg hat); have n2_ := Aside0.mk (Kd.R_after (ok := (fun k_ => some k_ ≠ (.slice (some ad530) t526.length co6 : Value).ownBlock ∧ some k_ ≠ (.slice (some ad530) t526.length co6 : Value).ownBlock)) (by (with_reducible repeat (first | apply Kd.R_alloc | apply Kd.R_drewN | apply Kd.R_drew)); exact Kd.R_mono HO_530000.out (fun _ hk => ⟨⟨hk.1, hk.2.1⟩, hk.2.2⟩)) hg hat); have n3_ := Aside0.mk (blk_grown (g := gb525) (o := .cells #[.slice none 0 0, .slice none 0 0] 53 (0, 0)) (Qbl BK525.out) hg (Kd.R_ne HO_530001.out BK525.out (by decide))); have n4_ := Aside0.mk (blk_grown (g := gb529) (o := .cells #[.slice Ao24 y533.length co24, u530001] 53 (0, 0)) (Qbl BK529.out) hg (Kd.R_ne HO_530001.out BK529.out (by decide))); have n5_ := Aside0.mk (hb); have n6_ := Aside0.mk (ho); clear HO_3; clear HO_13; clear HO_530000; clear BK525; clear BK529; clear HB; clear HO_530001; have HO_3 := n0_; have HO_13 := n1_; have HO_530000 := n2_; have BK525 := n3_; have BK529 := n4_; have HB := n5_; have HO542 := n6_; clear n0_ n1_ n2_ n3_ n4_ n5_ n6_; clear ho hb hg hat; obtain ⟨Ao42, co42, eo42⟩ := Kd.R_slice HO542.out; subst eo42; have hcz43_0 : w41.cell? ⟨gb529, 0, none⟩ = some (.slice Ao24 y533.length co24) := (blk_cell BK529.out 0).trans rfl; have hcz43_1 : w41.cell? ⟨gb529, 1, none⟩ = some (u530001) := (blk_cell BK529.out 1).trans rfl; have hfz43_0 := blk_frozen BK529.out 0; have hfz43_1 := blk_frozen BK529.out 1))
                go_roundg k2
                case measure => have := HK1.out; have := HK2.out; omega
                case rel => exact ⟨((Go.bits .or .i64 x5_1 (ji11))), (wrap64 (x15_1 + 1)), (y533), (y540), (.slice Ao24 y533.length co24), (.slice Ao42 y540.length co42), (by first | rfl | (simp; done) | (simp only [← hji11] <;> (first | rfl | simp)) | (simp [*]; done)), (Qrs), H', ⟨by have := HK1.out; have := HK2.out; omega⟩, ⟨by (with_reducible repeat (first | apply Kd.R_alloc | apply Kd.R_drewN | apply Kd.R_drew)); exact Kd.R_mono (Kd.R_far (p := ⟨gb529, 1, none⟩) (Kd.R_types HO_3.out BK529.out (by decide)) (fun _ hk => hk.2) (.slice Ao42 y540.length co42)) (fun _ hk => ⟨hk.1.1, hk.1.2⟩)⟩, ⟨by (with_reducible repeat (first | apply Kd.R_alloc | apply Kd.R_drewN | apply Kd.R_drew)); exact Kd.R_mono (Kd.R_far (p := ⟨gb529, 1, none⟩) (Kd.R_types HO_13.out BK529.out (by decide)) (fun _ hk => hk.2) (.slice Ao42 y540.length co42)) (fun _ hk => ⟨hk.1.1, hk.1.2⟩)⟩, ⟨by (with_reducible repeat (first | apply Kd.R_alloc | apply Kd.R_drewN | apply Kd.R_drew)); exact Kd.R_mono (Kd.R_far (p := ⟨gb529, 1, none⟩) (Kd.R_types HO_530000.out BK529.out (by decide)) (fun _ hk => hk.2) (.slice Ao42 y540.length co42)) (fun _ hk => ⟨hk.1.1.1, ⟨hk.1.1.2, hk.1.2⟩⟩)⟩, ⟨by (with_reducible repeat (first | apply Kd.R_alloc | apply Kd.R_drewN | apply Kd.R_drew)); exact Kd.R_mono (Kd.R_far (p := ⟨gb529, 1, none⟩) (Kd.R_types HO542.out BK529.out (by decide)) (fun _ hk => hk.2) (.slice Ao42 y540.length co42)) (fun _ hk => ⟨hk.1.1, ⟨hk.1.2.1, hk.1.2.2⟩⟩)⟩, ⟨by (with_reducible repeat (first | refine blk_drewN ?_ _ | refine blk_drew ?_ | refine blk_alloc ?_ _)); refine blk_far ?_ NB525_529.out _; (with_reducible repeat (first | refine blk_drewN ?_ _ | refine blk_drew ?_ | refine blk_alloc ?_ _)); exact BK525.out⟩, ⟨by (with_reducible repeat (first | refine blk_drewN ?_ _ | refine blk_drew ?_ | refine blk_alloc ?_ _)); refine blk_put (cs := #[.slice Ao24 y533.length co24, u530001]) ?_ 1 _ rfl; (with_reducible repeat (first | refine blk_drewN ?_ _ | refine blk_drew ?_ | refine blk_alloc ?_ _)); exact BK529.out⟩, ⟨by repeat (first | (with_reducible first | exact HB.out | apply below_alloc | apply pw_below_drewN | apply below_drew1 | refine below_set ?_ GE525.out | refine below_set ?_ GE529.out) | exact HB.out)⟩⟩
               ·rw [if_neg c38] at H
                exact absurd H (by simp)
             ·rw [if_neg c30] at H
              have c30b0 : ((Go.bits .and .i64 (ji29) 1) == 1) = false := beq_eq_false_iff_ne.mpr c30
              have c30b1 : ((Go.bits .and .i64 (ji29) 1) != 1) = true := bne_iff_ne.mpr c30
              have H' := Aside0.mk H
              clear H
              have p536 : 0 ≤ (x10_2 : Int) := of_decide_eq_true (Qas)
              have q536 : x10_2 < (t526.length : Int) := of_decide_eq_true (Qas)
              obtain ⟨ad536, e536, hx536_0⟩ := Kd.at_int (Kd.R_reads' HO_3.out).2.2 x10_2 p536 q536
              obtain rfl : ad530 = ad536 := (by injection e536)
              replace p536 := eq_true p536
              replace q536 := eq_true q536
              go_wp2
              go_roundg k2
              case measure => have := HK1.out; have := HK2.out; omega
              case rel => exact ⟨(x9_2), (wrap64 (x10_2 + 1)), (Qrs), (Qrs), H', ⟨by have := HK1.out; have := HK2.out; omega⟩, ⟨by (with_reducible repeat (first | apply Kd.R_alloc | apply Kd.R_drewN | apply Kd.R_drew)); exact HO_3.out⟩, ⟨by (with_reducible repeat (first | apply Kd.R_alloc | apply Kd.R_drewN | apply Kd.R_drew)); exact HO_13.out⟩, ⟨by (with_reducible repeat (first | apply Kd.R_alloc | apply Kd.R_drewN | apply Kd.R_drew)); exact HO_530000.out⟩, ⟨by (with_reducible repeat (first | apply Kd.R_alloc | apply Kd.R_drewN | apply Kd.R_drew)); exact HO_530001.out⟩, ⟨by (with_reducible repeat (first | refine blk_drewN ?_ _ | refine blk_drew ?_ | refine blk_alloc ?_ _)); exact BK525.out⟩, ⟨by (with_reducible repeat (first | refine blk_drewN ?_ _ | refine blk_drew ?_ | refine blk_alloc ?_ _)); exact BK529.out⟩, ⟨by repeat (first | (with_reducible first | exact HB.out | apply below_alloc | apply pw_below_drewN | apply below_drew1 | refine below_set ?_ GE525.out | refine below_set ?_ GE529.out) | exact HB.out)⟩⟩
            ·rw [if_neg c28] at H
             exact absurd H (by simp)
           ·rw [if_neg c27] at H
            exact absurd H (by simp)
          ·rw [if_neg c26] at H
           have c26b0 : decide (x10_2 < (t526.length : Int)) = false := decide_eq_false c26
           clear c26
           by_cases c44 : x9_2 = (t526.length : Int)
           ·rw [if_pos c44] at H
            have c44b0 : (x9_2 == (t526.length : Int)) = true := beq_iff_eq.mpr c44
            have c44b1 : (x9_2 != (t526.length : Int)) = false := bne_eq_false_iff_eq.mpr c44
            clear c44
            by_cases c45 : x530001_1.length < 17592186044416
            ·rw [if_pos c45] at H
             have LMc45 := Aside0.mk c45
             clear c45
             obtain ⟨y543, hy543⟩ : ∃ y_ : List Int, y_ = (x530001_1 ++ [(-1)]) := ⟨_, rfl⟩
             replace H : (width_town_decompose.l0 k2 l0 t526 (Go.bits .or .i64 x5_1 (ji11)) t526 (t526.length : Int) (wrap64 (x15_1 + 1)) y533 y543) = some (r1, r2) := by first | (rw [hy543]; with_reducible exact H) | (have H2_ := (Option.bind_some _ _).symm.trans H; rw [hy543]; with_reducible exact H2_) | (have H2_ := (Option.bind_some _ _).symm.trans H; with_reducible exact H2_) | with_reducible exact H | (rw [hy543]; exact H) | exact H
             have Ny543 := Aside0.mk hy543
             clear hy543
             have H' := Aside0.mk H
             clear H
             have hnb46 := NB529_525.out
             have hnc46 := NB525_529.out
             have hcz47_0 : wr.cell? ⟨gb529, 0, none⟩ = some (.slice Ao24 y533.length co24) := (blk_cell BK529.out 0).trans rfl
             have hcz47_1 : wr.cell? ⟨gb529, 1, none⟩ = some (u530001) := (blk_cell BK529.out 1).trans rfl
             have hfz47_0 := blk_frozen BK529.out 0
             have hfz47_1 := blk_frozen BK529.out 1
             go_wp2_with (first | ((with_reducible refine gate_builtin (b := .append) (xs := #[.tmp 72, .tmp 74]) rfl ?_); at_builtin; refine Kd.R_append (Kd.int .i64) (w0 := w) w.heap.size rfl (.tmp 72) (.tmp 74) 22 3 (.int .i64 0) 8 rfl Tryd.underlying22 info3 rfl (by decide) (by omega) u530001 x530001_1 (-1) [.int .i64 (-1)] (fun k_ => some k_ ≠ (.slice (some ad530) t526.length co6 : Value).ownBlock ∧ some k_ ≠ (.slice (some ad530) t526.length co6 : Value).ownBlock ∧ some k_ ≠ (.slice Ao24 y533.length co24 : Value).ownBlock) (fun _ => False) rfl rfl ?aP (fun _ hk => hk.elim) ?aF ?aO ?aB ?aS ?aL ?_; (case aP => exact rfl); (case aB => exact (Qah GE525.out GE529.out)); (case aF => exact (fun k_ hk => ⟨Kd.fresh' (Kd.R_lt (Qro HO_3.out)) k_ hk, Kd.fresh' (Kd.R_lt (Qro HO_13.out)) k_ hk, Kd.fresh' (Kd.R_lt (Qro HO_530000.out)) k_ hk⟩)); (case aO => exact (Qro HO_530001.out)); (case aS => exact (below_size (Qah GE525.out GE529.out))); (case aL => have := LMc45.out; omega); intro v544 w48 ho hb hg hat; rw [← Ny543.out] at ho; have n0_ := Aside0.mk (Kd.R_after (ok := (fun k_ => some k_ ≠ (.slice Ao24 y533.length co24 : Value).ownBlock)) (Qro HO_3.out) hg hat); have n1_ := Aside0.mk (Kd.R_after (ok := (fun k_ => some k_ ≠ (.slice Ao24 y533.length co24 : Value).ownBlock)) (Qro HO_13.out) hg hat); have n2_ := Aside0.mk (Kd.R_after (ok := (fun k_ => some k_ ≠ (.slice (some ad530) t526.length co6 : Value).ownBlock ∧ some k_ ≠ (.slice (some ad530) t526.length co6 : Value).ownBlock)) (by (with_reducible repeat (first | apply Kd.R_alloc | apply Kd.R_drewN | apply Kd.R_drew)); exact Kd.R_mono HO_530000.out (fun _ hk => ⟨⟨hk.1, hk.2.1⟩, hk.2.2⟩)) hg hat); have n3_ := Aside0.mk (blk_grown (g := gb525) (o := .cells #[.slice none 0 0, .slice none 0 0] 53 (0, 0)) (Qbl BK525.out) hg (Kd.R_ne HO_530001.out BK525.out (by decide))); have n4_ := Aside0.mk (blk_grown (g := gb529) (o := .cells #[.slice Ao24 y533.length co24, u530001] 53 (0, 0)) (Qbl BK529.out) hg (Kd.R_ne HO_530001.out BK529.out (by decide))); have n5_ := Aside0.mk (hb); have n6_ := Aside0.mk (ho); clear HO_3; clear HO_13; clear HO_530000; clear BK525; clear BK529; clear HB; clear HO_530001; have HO_3 := n0_; have HO_13 := n1_; have HO_530000 := n2_; have BK525 := n3_; have BK529 := n4_; have HB := n5_; have HO545 := n6_; clear n0_ n1_ n2_ n3_ n4_ n5_ n6_; clear ho hb hg hat; obtain ⟨Ao49, co49, eo49⟩ := Kd.R_slice HO545.out; subst eo49; have hcz50_0 : w48.cell? ⟨gb529, 0, none⟩ = some (.slice Ao24 y533.length co24) := (blk_cell BK529.out 0).trans rfl; have hcz50_1 : w48.cell? ⟨gb529, 1, none⟩ = some (u530001) := (blk_cell BK529.out 1).trans rfl; have hfz50_0 := blk_frozen BK529.out 0; have hfz50_1 := blk_frozen BK529.out 1))
             go_roundg k2
             case measure => have := HK1.out; have := HK2.out; omega
             case rel => exact ⟨((Go.bits .or .i64 x5_1 (ji11))), (wrap64 (x15_1 + 1)), (y533), (y543), (.slice Ao24 y533.length co24), (.slice Ao49 y543.length co49), (by first | rfl | (simp; done) | (simp only [← hji11] <;> (first | rfl | simp)) | (simp [*]; done)), (Qrs), H', ⟨by have := HK1.out; have := HK2.out; omega⟩, ⟨by (with_reducible repeat (first | apply Kd.R_alloc | apply Kd.R_drewN | apply Kd.R_drew)); exact Kd.R_mono (Kd.R_far (p := ⟨gb529, 1, none⟩) (Kd.R_types HO_3.out BK529.out (by decide)) (fun _ hk => hk.2) (.slice Ao49 y543.length co49)) (fun _ hk => ⟨hk.1.1, hk.1.2⟩)⟩, ⟨by (with_reducible repeat (first | apply Kd.R_alloc | apply Kd.R_drewN | apply Kd.R_drew)); exact Kd.R_mono (Kd.R_far (p := ⟨gb529, 1, none⟩) (Kd.R_types HO_13.out BK529.out (by decide)) (fun _ hk => hk.2) (.slice Ao49 y543.length co49)) (fun _ hk => ⟨hk.1.1, hk.1.2⟩)⟩, ⟨by (with_reducible repeat (first | apply Kd.R_alloc | apply Kd.R_drewN | apply Kd.R_drew)); exact Kd.R_mono (Kd.R_far (p := ⟨gb529, 1, none⟩) (Kd.R_types HO_530000.out BK529.out (by decide)) (fun _ hk => hk.2) (.slice Ao49 y543.length co49)) (fun _ hk => ⟨hk.1.1.1, ⟨hk.1.1.2, hk.1.2⟩⟩)⟩, ⟨by (with_reducible repeat (first | apply Kd.R_alloc | apply Kd.R_drewN | apply Kd.R_drew)); exact Kd.R_mono (Kd.R_far (p := ⟨gb529, 1, none⟩) (Kd.R_types HO545.out BK529.out (by decide)) (fun _ hk => hk.2) (.slice Ao49 y543.length co49)) (fun _ hk => ⟨hk.1.1, ⟨hk.1.2.1, hk.1.2.2⟩⟩)⟩, ⟨by (with_reducible repeat (first | refine blk_drewN ?_ _ | refine blk_drew ?_ | refine blk_alloc ?_ _)); refine blk_far ?_ NB525_529.out _; (with_reducible repeat (first | refine blk_drewN ?_ _ | refine blk_drew ?_ | refine blk_alloc ?_ _)); exact BK525.out⟩, ⟨by (with_reducible repeat (first | refine blk_drewN ?_ _ | refine blk_drew ?_ | refine blk_alloc ?_ _)); refine blk_put (cs := #[.slice Ao24 y533.length co24, u530001]) ?_ 1 _ rfl; (with_reducible repeat (first | refine blk_drewN ?_ _ | refine blk_drew ?_ | refine blk_alloc ?_ _)); exact BK529.out⟩, ⟨by repeat (first | (with_reducible first | exact HB.out | apply below_alloc | apply pw_below_drewN | apply below_drew1 | refine below_set ?_ GE525.out | refine below_set ?_ GE529.out) | exact HB.out)⟩⟩
            ·rw [if_neg c45] at H
             exact absurd H (by simp)
           ·rw [if_neg c44] at H
            have c44b0 : (x9_2 == (t526.length : Int)) = false := beq_eq_false_iff_ne.mpr c44
            have c44b1 : (x9_2 != (t526.length : Int)) = true := bne_iff_ne.mpr c44
            by_cases c51 : x530001_1.length < 17592186044416
            ·rw [if_pos c51] at H
             have LMc51 := Aside0.mk c51
             clear c51
             obtain ⟨y546, hy546⟩ : ∃ y_ : List Int, y_ = (x530001_1 ++ [x9_2]) := ⟨_, rfl⟩
             replace H : (width_town_decompose.l0 k2 l0 t526 (Go.bits .or .i64 x5_1 (ji11)) t526 (t526.length : Int) (wrap64 (x15_1 + 1)) y533 y546) = some (r1, r2) := by first | (rw [hy546]; with_reducible exact H) | (have H2_ := (Option.bind_some _ _).symm.trans H; rw [hy546]; with_reducible exact H2_) | (have H2_ := (Option.bind_some _ _).symm.trans H; with_reducible exact H2_) | with_reducible exact H | (rw [hy546]; exact H) | exact H
             have Ny546 := Aside0.mk hy546
             clear hy546
             have H' := Aside0.mk H
             clear H
             have hnb52 := NB529_525.out
             have hnc52 := NB525_529.out
             have hcz53_0 : wr.cell? ⟨gb529, 0, none⟩ = some (.slice Ao24 y533.length co24) := (blk_cell BK529.out 0).trans rfl
             have hcz53_1 : wr.cell? ⟨gb529, 1, none⟩ = some (u530001) := (blk_cell BK529.out 1).trans rfl
             have hfz53_0 := blk_frozen BK529.out 0
             have hfz53_1 := blk_frozen BK529.out 1
             go_wp2_with (first | ((with_reducible refine gate_builtin (b := .append) (xs := #[.tmp 72, .tmp 74]) rfl ?_); at_builtin; refine Kd.R_append (Kd.int .i64) (w0 := w) w.heap.size rfl (.tmp 72) (.tmp 74) 22 3 (.int .i64 0) 8 rfl Tryd.underlying22 info3 rfl (by decide) (by omega) u530001 x530001_1 x9_2 [.int .i64 x9_2] (fun k_ => some k_ ≠ (.slice (some ad530) t526.length co6 : Value).ownBlock ∧ some k_ ≠ (.slice (some ad530) t526.length co6 : Value).ownBlock ∧ some k_ ≠ (.slice Ao24 y533.length co24 : Value).ownBlock) (fun _ => False) rfl rfl ?aP (fun _ hk => hk.elim) ?aF ?aO ?aB ?aS ?aL ?_; (case aP => exact rfl); (case aB => exact (Qah GE525.out GE529.out)); (case aF => exact (fun k_ hk => ⟨Kd.fresh' (Kd.R_lt (Qro HO_3.out)) k_ hk, Kd.fresh' (Kd.R_lt (Qro HO_13.out)) k_ hk, Kd.fresh' (Kd.R_lt (Qro HO_530000.out)) k_ hk⟩)); (case aO => exact (Qro HO_530001.out)); (case aS => exact (below_size (Qah GE525.out GE529.out))); (case aL => have := LMc51.out; omega); intro v547 w54 ho hb hg hat; rw [← Ny546.out] at ho; have n0_ := Aside0.mk (Kd.R_after (ok := (fun k_ => some k_ ≠ (.slice Ao24 y533.length co24 : Value).ownBlock)) (Qro HO_3.out) hg hat); have n1_ := Aside0.mk (Kd.R_after (ok := (fun k_ => some k_ ≠ (.slice Ao24 y533.length co24 : Value).ownBlock)) (Qro HO_13.out) hg hat); have n2_ := Aside0.mk (Kd.R_after (ok := (fun k_ => some k_ ≠ (.slice (some ad530) t526.length co6 : Value).ownBlock ∧ some k_ ≠ (.slice (some ad530) t526.length co6 : Value).ownBlock)) (by (with_reducible repeat (first | apply Kd.R_alloc | apply Kd.R_drewN | apply Kd.R_drew)); exact Kd.R_mono HO_530000.out (fun _ hk => ⟨⟨hk.1, hk.2.1⟩, hk.2.2⟩)) hg hat); have n3_ := Aside0.mk (blk_grown (g := gb525) (o := .cells #[.slice none 0 0, .slice none 0 0] 53 (0, 0)) (Qbl BK525.out) hg (Kd.R_ne HO_530001.out BK525.out (by decide))); have n4_ := Aside0.mk (blk_grown (g := gb529) (o := .cells #[.slice Ao24 y533.length co24, u530001] 53 (0, 0)) (Qbl BK529.out) hg (Kd.R_ne HO_530001.out BK529.out (by decide))); have n5_ := Aside0.mk (hb); have n6_ := Aside0.mk (ho); clear HO_3; clear HO_13; clear HO_530000; clear BK525; clear BK529; clear HB; clear HO_530001; have HO_3 := n0_; have HO_13 := n1_; have HO_530000 := n2_; have BK525 := n3_; have BK529 := n4_; have HB := n5_; have HO548 := n6_; clear n0_ n1_ n2_ n3_ n4_ n5_ n6_; clear ho hb hg hat; obtain ⟨Ao55, co55, eo55⟩ := Kd.R_slice HO548.out; subst eo55; have hcz56_0 : w54.cell? ⟨gb529, 0, none⟩ = some (.slice Ao24 y533.length co24) := (blk_cell BK529.out 0).trans rfl; have hcz56_1 : w54.cell? ⟨gb529, 1, none⟩ = some (u530001) := (blk_cell BK529.out 1).trans rfl; have hfz56_0 := blk_frozen BK529.out 0; have hfz56_1 := blk_frozen BK529.out 1))
             go_roundg k2
             case measure => have := HK1.out; have := HK2.out; omega
             case rel => exact ⟨((Go.bits .or .i64 x5_1 (ji11))), (wrap64 (x15_1 + 1)), (y533), (y546), (.slice Ao24 y533.length co24), (.slice Ao55 y546.length co55), (by first | rfl | (simp; done) | (simp only [← hji11] <;> (first | rfl | simp)) | (simp [*]; done)), (Qrs), H', ⟨by have := HK1.out; have := HK2.out; omega⟩, ⟨by (with_reducible repeat (first | apply Kd.R_alloc | apply Kd.R_drewN | apply Kd.R_drew)); exact Kd.R_mono (Kd.R_far (p := ⟨gb529, 1, none⟩) (Kd.R_types HO_3.out BK529.out (by decide)) (fun _ hk => hk.2) (.slice Ao55 y546.length co55)) (fun _ hk => ⟨hk.1.1, hk.1.2⟩)⟩, ⟨by (with_reducible repeat (first | apply Kd.R_alloc | apply Kd.R_drewN | apply Kd.R_drew)); exact Kd.R_mono (Kd.R_far (p := ⟨gb529, 1, none⟩) (Kd.R_types HO_13.out BK529.out (by decide)) (fun _ hk => hk.2) (.slice Ao55 y546.length co55)) (fun _ hk => ⟨hk.1.1, hk.1.2⟩)⟩, ⟨by (with_reducible repeat (first | apply Kd.R_alloc | apply Kd.R_drewN | apply Kd.R_drew)); exact Kd.R_mono (Kd.R_far (p := ⟨gb529, 1, none⟩) (Kd.R_types HO_530000.out BK529.out (by decide)) (fun _ hk => hk.2) (.slice Ao55 y546.length co55)) (fun _ hk => ⟨hk.1.1.1, ⟨hk.1.1.2, hk.1.2⟩⟩)⟩, ⟨by (with_reducible repeat (first | apply Kd.R_alloc | apply Kd.R_drewN | apply Kd.R_drew)); exact Kd.R_mono (Kd.R_far (p := ⟨gb529, 1, none⟩) (Kd.R_types HO548.out BK529.out (by decide)) (fun _ hk => hk.2) (.slice Ao55 y546.length co55)) (fun _ hk => ⟨hk.1.1, ⟨hk.1.2.1, hk.1.2.2⟩⟩)⟩, ⟨by (with_reducible repeat (first | refine blk_drewN ?_ _ | refine blk_drew ?_ | refine blk_alloc ?_ _)); refine blk_far ?_ NB525_529.out _; (with_reducible repeat (first | refine blk_drewN ?_ _ | refine blk_drew ?_ | refine blk_alloc ?_ _)); exact BK525.out⟩, ⟨by (with_reducible repeat (first | refine blk_drewN ?_ _ | refine blk_drew ?_ | refine blk_alloc ?_ _)); refine blk_put (cs := #[.slice Ao24 y533.length co24, u530001]) ?_ 1 _ rfl; (with_reducible repeat (first | refine blk_drewN ?_ _ | refine blk_drew ?_ | refine blk_alloc ?_ _)); exact BK529.out⟩, ⟨by repeat (first | (with_reducible first | exact HB.out | apply below_alloc | apply pw_below_drewN | apply below_drew1 | refine below_set ?_ GE525.out | refine below_set ?_ GE529.out) | exact HB.out)⟩⟩
            ·rw [if_neg c51] at H
             exact absurd H (by simp)
       ·rw [if_neg c18] at H
        exact absurd H (by simp)
      ·rw [if_neg c10] at H
       exact absurd H (by simp)
     ·rw [if_neg c9] at H
      exact absurd H (by simp)
    ·rw [if_neg c8] at H
     exact absurd H (by simp)
   ·rw [if_neg c7] at H
    have c7b0 : decide (x15_1 < (t526.length : Int)) = false := decide_eq_false c7
    clear c7
    simp only [Option.some.injEq, Prod.mk.injEq] at H
    obtain ⟨rfl, rfl⟩ := H
    have hnb57 := NB529_525.out
    have hnc57 := NB525_529.out
    have hcz58_0 : wr.cell? ⟨gb529, 0, none⟩ = some (u530000) := (blk_cell BK529.out 0).trans rfl
    have hcz58_1 : wr.cell? ⟨gb529, 1, none⟩ = some (u530001) := (blk_cell BK529.out 1).trans rfl
    have hfz58_0 := blk_frozen BK529.out 0
    have hfz58_1 := blk_frozen BK529.out 1
    obtain ⟨Ao59, co59, eo59⟩ := Kd.R_slice HO_530000.out
    subst eo59
    have hcz60_0 : wr.cell? ⟨gb525, 0, none⟩ = some (.slice none 0 0) := (blk_cell BK525.out 0).trans rfl
    have hcz60_1 : wr.cell? ⟨gb525, 1, none⟩ = some (.slice none 0 0) := (blk_cell BK525.out 1).trans rfl
    have hfz60_0 := blk_frozen BK525.out 0
    have hfz60_1 := blk_frozen BK525.out 1
    obtain ⟨Ao61, co61, eo61⟩ := Kd.R_slice HO_530001.out
    subst eo61
    go_wp2
    refine bodyPost_ret (results_cell_row rfl _ _ gb525 53 #[.slice Ao59 x530000_1.length co59, .slice Ao61 x530001_1.length co61] (0, 0) _ rfl (by (with_reducible repeat (first | refine blk_drewN ?_ _ | refine blk_drew ?_ | refine blk_alloc ?_ _)); refine blk_put (cs := #[.slice Ao59 x530000_1.length co59, .slice none 0 0]) ?_ 1 _ rfl; (with_reducible repeat (first | refine blk_drewN ?_ _ | refine blk_drew ?_ | refine blk_alloc ?_ _)); refine blk_put (cs := #[.slice none 0 0, .slice none 0 0]) ?_ 0 _ rfl; (with_reducible repeat (first | refine blk_drewN ?_ _ | refine blk_drew ?_ | refine blk_alloc ?_ _)); exact BK525.out) Tryd.underlying53 rfl (by kernel_rfl)) rfl ?_
    exact ⟨_, _, by first | rfl | (simp [errW_none, errW_some] <;> rfl) | (simp [*, errW_none, errW_some] <;> rfl), by (with_reducible repeat (first | apply Kd.R_alloc | apply Kd.R_drewN | apply Kd.R_drew)); exact Kd.R_mono (Kd.R_far (p := ⟨gb525, 1, none⟩) (Kd.R_far (p := ⟨gb525, 0, none⟩) (Kd.R_types HO_530000.out BK525.out (by decide)) (fun _ hk => hk.2) (.slice Ao59 x530000_1.length co59)) (fun _ hk => hk.2) (.slice Ao61 x530001_1.length co61)) (fun _ hk => hk.1.2.2), by (with_reducible repeat (first | apply Kd.R_alloc | apply Kd.R_drewN | apply Kd.R_drew)); exact Kd.R_mono (Kd.R_far (p := ⟨gb525, 1, none⟩) (Kd.R_far (p := ⟨gb525, 0, none⟩) (Kd.R_types HO_530001.out BK525.out (by decide)) (fun _ hk => hk.2) (.slice Ao59 x530000_1.length co59)) (fun _ hk => hk.2) (.slice Ao61 x530001_1.length co61)) (fun _ hk => hk.1.2.2), by repeat (first | (with_reducible first | exact HB.out | apply below_alloc | apply pw_below_drewN | apply below_drew1 | refine below_set ?_ GE525.out | refine below_set ?_ GE529.out) | exact HB.out)⟩
end
noncomputable section
def width_Decompose.f (k : Nat) (l0 : List Int) : Option (List Int × List Int × Int) := (width_read.f k l0).bind fun bt550 => (if bt550.2 = true then ((width_town_decompose.f k bt550.1).bind fun bt554 => (some (bt554.1, bt554.2, 0))) else (some (([] : List Int), ([] : List Int), 2)))
set_option maxHeartbeats 8000000 in
set_option maxRecDepth 100000 in
theorem width_Decompose.calls (k : Nat) (A0 : Option Addr) (c0 : Nat) (l0 : List Int) (r1 : List Int) (r2 : List Int) (r3 : Int) (w : World) (hGL : GL w) (hr0 : Kd.C (Kd.int .i64) w A0 l0.length l0) (hc0 : l0.length ≤ c0) (h : width_Decompose.f k l0 = some (r1, r2, r3)) :
  Calls Tryd.prog 52 #[.slice A0 l0.length c0] w fun e w' => ∃ v0_ v1_ : Value, e = .returned (.tuple #[.agg #[v0_, v1_], .int .i64 r3]) ∧ Kd.R (Kd.int .i64) 3 w' w.heap.size (fun k_ => some k_ ≠ (v1_ : Value).ownBlock) v0_ r1 ∧ Kd.R (Kd.int .i64) 3 w' w.heap.size (fun k_ => some k_ ≠ (v0_ : Value).ownBlock) v1_ r2 ∧ Below w.heap.size w w' := by
 have HGL := Aside0.mk hGL
 clear hGL
 have hu53 := Tryd.underlying53
 have HR0 := Aside0.mk hr0
 have HC0 := Aside0.mk hc0
 clear hr0 hc0
 have HB := Aside0.mk (Below.refl w.heap.size w)
 have H : ((width_read.f k l0).bind fun bt550 => (if bt550.2 = true then ((width_town_decompose.f k bt550.1).bind fun bt554 => (some (bt554.1, bt554.2, 0))) else (some (([] : List Int), ([] : List Int), 2)))) = some (r1, r2, r3) := h
 clear h
 replace H := Option.bind_eq_some_iff.mp H
 obtain ⟨⟨t550, t553⟩, A20, H⟩ := H
 replace H : (if t553 = true then ((width_town_decompose.f k t550).bind fun bt554 => (some (bt554.1, bt554.2, 0))) else (some (([] : List Int), ([] : List Int), 2))) = some (r1, r2, r3) := H
 have A2 := Aside0.mk A20
 clear A20
 by_cases c3 : t553 = true
 ·subst c3
  have H1 : ((width_town_decompose.f k t550).bind fun bt554 => (some (bt554.1, bt554.2, 0))) = some (r1, r2, r3) := by rw [if_pos rfl] at H; exact H
  clear H
  have H := H1
  clear H1
  replace H := Option.bind_eq_some_iff.mp H
  obtain ⟨⟨t554, t557⟩, A40, H⟩ := H
  replace H : (some (t554, t557, 0)) = some (r1, r2, r3) := H
  have A4 := Aside0.mk A40
  clear A40
  simp only [Option.some.injEq, Prod.mk.injEq] at H
  obtain ⟨rfl, rfl, rfl⟩ := H
  go_enter Tryd.func52, Tryd.ntmps52
  go_wp2_with (first | ((with_reducible refine gate_dst (N := 2) rfl ?_); refine box_event ?hg (N := 2) ?hd (cs := #[.slice none 0 0, .slice none 0 0]) (t := 53) ?hr ?_; (case hd => rfl); (case hg => rfl); (case hr => first | (go_simp; done) | (go_simp; rfl)); intro gb549 hg w5 hbox hb; have n0_ := Aside0.mk (below_step (Qaw) hb); have n1_ := Aside0.mk (hbox); have n2_ := Aside0.mk ((by rw [hg]; exact (below_size (Qaw)) : w.heap.size ≤ gb549)); have n3_ := Aside0.mk ((by rw [hg]; exact (below_size (Qaw)) : w.heap.size ≤ gb549)); clear HB; have HB := n0_; have BK549 := n1_; have GW549 := n2_; have GE549 := n3_; clear n0_ n1_ n2_ n3_; clear hb hbox hg) | ((with_reducible refine gate_callee (f := 59) rfl ?_); refine goesL_ (some 8) rfl rfl Tryd.func59 (by kernel_rfl) rfl #[.slice A0 l0.length c0] rfl (Qls) ?_; (with_reducible refine (width_read.calls k (fun k_ => k_ < w.heap.size) _ _ l0 t550 true _ ?side1 A2.out).mono ?_); (case side1 => exact Kd.V_mk HC0.out (Kd.F_below (Kd.C_F (Kd.heap_int .i64) HR0.out) (Qag GE549.out))); rintro e w6 ⟨v551, rfl, ho0, hb⟩; refine ⟨_, rfl, ?_⟩; have n0_ := Aside0.mk (Kd.V_lower (Kd.V_mono (ok' := fun k_ => k_ ≠ gb549) ho0 (fun k_ hk_ => Or.elim hk_ (fun hs_ => fun e_ => Nat.not_le.2 hs_ (by rw [e_]; exact GW549.out)) (fun hn_ => (Kd.freshB (g := gb549) (o := .cells #[.slice none 0 0, .slice none 0 0] 53 (0, 0)) (Qbl BK549.out) k_ hn_)))) (below_size (Qag GE549.out))); have n1_ := Aside0.mk (blk_below (g := gb549) (o := .cells #[.slice none 0 0, .slice none 0 0] 53 (0, 0)) (Qbl BK549.out) hb); have n2_ := Aside0.mk (below_step (Qag GE549.out) hb); clear BK549; clear HB; have HO552 := n0_; have BK549 := n1_; have HB := n2_; clear n0_ n1_ n2_; (try clear hb); (try clear hb2); (try clear hk); (try clear hi); (try clear ho0); obtain ⟨Ao7, co7, eo7⟩ := Kd.V_slice HO552.out; subst eo7) | ((with_reducible refine gate_callee (f := 83) rfl ?_); refine goesL_ (some 15) rfl rfl Tryd.func83 (by kernel_rfl) rfl #[.slice Ao7 t550.length co7] rfl (Qls) ?_; (with_reducible refine (width_town_decompose.calls (hGL := (Qlg)) k _ _ t550 t554 t557 _ ?side1 ?side2 A4.out).mono ?_); (case side1 => exact Qsc (Kd.V_reads' HO552.out).2.2); (case side2 => exact (Kd.V_reads' HO552.out).2.1); rintro e w8 ⟨v555, v558, rfl, ho0, ho1, hb⟩; refine ⟨_, rfl, ?_⟩; have n0_ := Aside0.mk (Kd.V_mono (Kd.V_told (Kd.V_told (Kd.V_old (by (with_reducible repeat (first | apply Kd.V_alloc | apply Kd.V_drewN | apply Kd.V_drew)); exact HO552.out) hb) (Kd.R_base ho0)) (Kd.R_base ho1)) (fun _ h_ => h_.1)); have n1_ := Aside0.mk (Kd.R_lower ho0 (below_size (Qag GE549.out))); have n2_ := Aside0.mk (Kd.R_lower ho1 (below_size (Qag GE549.out))); have n3_ := Aside0.mk (blk_below (g := gb549) (o := .cells #[.slice none 0 0, .slice none 0 0] 53 (0, 0)) (Qbl BK549.out) hb); have n4_ := Aside0.mk (below_step (Qag GE549.out) hb); clear HO552; clear BK549; clear HB; have HO552 := n0_; have HO556 := n1_; have HO559 := n2_; have BK549 := n3_; have HB := n4_; clear n0_ n1_ n2_ n3_ n4_; (try clear hb); (try clear hb2); (try clear hk); (try clear hi); (try clear ho0); (try clear ho1); obtain ⟨Ao9, co9, eo9⟩ := Kd.R_slice HO556.out; subst eo9; have hcz10_0 : w8.cell? ⟨gb549, 0, none⟩ = some (.slice none 0 0) := (blk_cell BK549.out 0).trans rfl; have hcz10_1 : w8.cell? ⟨gb549, 1, none⟩ = some (.slice none 0 0) := (blk_cell BK549.out 1).trans rfl; have hfz10_0 := blk_frozen BK549.out 0; have hfz10_1 := blk_frozen BK549.out 1; obtain ⟨Ao11, co11, eo11⟩ := Kd.R_slice HO559.out; subst eo11))
  refine bodyPost_ret (results_ct rfl _ _ gb549 53 #[.slice Ao9 t554.length co9, .slice Ao11 t557.length co11] (0, 0) _ rfl (by (with_reducible repeat (first | refine blk_drewN ?_ _ | refine blk_drew ?_ | refine blk_alloc ?_ _)); refine blk_put (cs := #[.slice Ao9 t554.length co9, .slice none 0 0]) ?_ 1 _ rfl; (with_reducible repeat (first | refine blk_drewN ?_ _ | refine blk_drew ?_ | refine blk_alloc ?_ _)); refine blk_put (cs := #[.slice none 0 0, .slice none 0 0]) ?_ 0 _ rfl; (with_reducible repeat (first | refine blk_drewN ?_ _ | refine blk_drew ?_ | refine blk_alloc ?_ _)); exact BK549.out) Tryd.underlying53 rfl (by kernel_rfl)) rfl ?_
  exact ⟨_, _, by first | rfl | (simp [errW_none, errW_some] <;> rfl) | (simp [*, errW_none, errW_some] <;> rfl), by (with_reducible repeat (first | apply Kd.R_alloc | apply Kd.R_drewN | apply Kd.R_drew)); exact Kd.R_mono (Kd.R_far (p := ⟨gb549, 1, none⟩) (Kd.R_far (p := ⟨gb549, 0, none⟩) (Kd.R_types HO556.out BK549.out (by decide)) (fun _ hk => hk.2) (.slice Ao9 t554.length co9)) (fun _ hk => hk.2) (.slice Ao11 t557.length co11)) (fun _ hk => hk.1), by (with_reducible repeat (first | apply Kd.R_alloc | apply Kd.R_drewN | apply Kd.R_drew)); exact Kd.R_mono (Kd.R_far (p := ⟨gb549, 1, none⟩) (Kd.R_far (p := ⟨gb549, 0, none⟩) (Kd.R_types HO559.out BK549.out (by decide)) (fun _ hk => hk.2) (.slice Ao9 t554.length co9)) (fun _ hk => hk.2) (.slice Ao11 t557.length co11)) (fun _ hk => hk.1), by repeat (first | (with_reducible first | exact HB.out | apply below_alloc | apply pw_below_drewN | apply below_drew1 | refine below_set ?_ GE549.out) | exact HB.out)⟩
 ·replace c3 := Bool.eq_false_iff.mpr c3
  subst c3
  have H1 : (some (([] : List Int), ([] : List Int), 2)) = some (r1, r2, r3) := by rw [if_neg (show ¬ (false = true) by decide)] at H; exact H
  clear H
  have H := H1
  clear H1
  simp only [Option.some.injEq, Prod.mk.injEq] at H
  obtain ⟨rfl, rfl, rfl⟩ := H
  go_enter Tryd.func52, Tryd.ntmps52
  go_wp2_with (first | ((with_reducible refine gate_dst (N := 2) rfl ?_); refine box_event ?hg (N := 2) ?hd (cs := #[.slice none 0 0, .slice none 0 0]) (t := 53) ?hr ?_; (case hd => rfl); (case hg => rfl); (case hr => first | (go_simp; done) | (go_simp; rfl)); intro gb549 hg w12 hbox hb; have n0_ := Aside0.mk (below_step (Qaw) hb); have n1_ := Aside0.mk (hbox); have n2_ := Aside0.mk ((by rw [hg]; exact (below_size (Qaw)) : w.heap.size ≤ gb549)); have n3_ := Aside0.mk ((by rw [hg]; exact (below_size (Qaw)) : w.heap.size ≤ gb549)); clear HB; have HB := n0_; have BK549 := n1_; have GW549 := n2_; have GE549 := n3_; clear n0_ n1_ n2_ n3_; clear hb hbox hg) | ((with_reducible refine gate_callee (f := 59) rfl ?_); refine goesL_ (some 8) rfl rfl Tryd.func59 (by kernel_rfl) rfl #[.slice A0 l0.length c0] rfl (Qls) ?_; (with_reducible refine (width_read.calls k (fun k_ => k_ < w.heap.size) _ _ l0 t550 false _ ?side1 A2.out).mono ?_); (case side1 => exact Kd.V_mk HC0.out (Kd.F_below (Kd.C_F (Kd.heap_int .i64) HR0.out) (Qag GE549.out))); rintro e w13 ⟨v551, rfl, ho0, hb⟩; refine ⟨_, rfl, ?_⟩; have n0_ := Aside0.mk (Kd.V_lower (Kd.V_mono (ok' := fun k_ => k_ ≠ gb549) ho0 (fun k_ hk_ => Or.elim hk_ (fun hs_ => fun e_ => Nat.not_le.2 hs_ (by rw [e_]; exact GW549.out)) (fun hn_ => (Kd.freshB (g := gb549) (o := .cells #[.slice none 0 0, .slice none 0 0] 53 (0, 0)) (Qbl BK549.out) k_ hn_)))) (below_size (Qag GE549.out))); have n1_ := Aside0.mk (blk_below (g := gb549) (o := .cells #[.slice none 0 0, .slice none 0 0] 53 (0, 0)) (Qbl BK549.out) hb); have n2_ := Aside0.mk (below_step (Qag GE549.out) hb); clear BK549; clear HB; have HO552 := n0_; have BK549 := n1_; have HB := n2_; clear n0_ n1_ n2_; (try clear hb); (try clear hb2); (try clear hk); (try clear hi); (try clear ho0); have hcz14_0 : w13.cell? ⟨gb549, 0, none⟩ = some (.slice none 0 0) := (blk_cell BK549.out 0).trans rfl; have hcz14_1 : w13.cell? ⟨gb549, 1, none⟩ = some (.slice none 0 0) := (blk_cell BK549.out 1).trans rfl; have hfz14_0 := blk_frozen BK549.out 0; have hfz14_1 := blk_frozen BK549.out 1))
  refine bodyPost_ret (results_ct rfl _ _ gb549 53 #[.slice none 0 0, .slice none 0 0] (0, 0) _ rfl (by (with_reducible repeat (first | refine blk_drewN ?_ _ | refine blk_drew ?_ | refine blk_alloc ?_ _)); refine blk_put (cs := #[.slice none 0 0, .slice none 0 0]) ?_ 1 _ rfl; (with_reducible repeat (first | refine blk_drewN ?_ _ | refine blk_drew ?_ | refine blk_alloc ?_ _)); refine blk_put (cs := #[.slice none 0 0, .slice none 0 0]) ?_ 0 _ rfl; (with_reducible repeat (first | refine blk_drewN ?_ _ | refine blk_drew ?_ | refine blk_alloc ?_ _)); exact BK549.out) Tryd.underlying53 rfl (by kernel_rfl)) rfl ?_
  exact ⟨_, _, by first | rfl | (simp [errW_none, errW_some] <;> rfl) | (simp [*, errW_none, errW_some] <;> rfl), by first | exact Kd.R_nil _ _ _ _ _ | exact Kd.N_nil _ _ _ _ _ | exact Kd.V_nil _ _ _ _ _ | exact Kd.Q_nil _ _ _ _ _ | exact Kd.S_nil _ _ _ _ _, by first | exact Kd.R_nil _ _ _ _ _ | exact Kd.N_nil _ _ _ _ _ | exact Kd.V_nil _ _ _ _ _ | exact Kd.Q_nil _ _ _ _ _ | exact Kd.S_nil _ _ _ _ _, by repeat (first | (with_reducible first | exact HB.out | apply below_alloc | apply pw_below_drewN | apply below_drew1 | refine below_set ?_ GE549.out) | exact HB.out)⟩
end
noncomputable section
def lampblacklaw02_WidthTrees.f (k : Nat) (l0 : List Int) (l1_0 : List Int) (l1_1 : List Int) : Option (Bool) := (lampblacklaw02_Few.f l0).bind fun t561 => ((width_Decompose.f k t561).bind fun bt564 => ((lampblacklaw02_Few.f l0).bind fun t572 => ((lampblacklaw02_Of.f l1_0 l1_1).bind fun bt575 => ((width_Check.f k t572 bt575.1 bt575.2).bind fun bt581 => ((lampblackref02_Valid.f k l0).bind fun t584 => (if t584 = true then ((lampblacklaw02_own.f bt564.1 bt564.2.1).bind fun bt587 => ((lampblackref02_IsTree.f k l0 bt587.1 bt587.2).bind fun bt593 => ((lampblackref02_IsTree.f k l0 l1_0 l1_1).bind fun bt595 => (if bt564.2.2 = 0 then (if bt593.2 = true then ((lampblackref02_Width.f k l0).bind fun t597 => (if bt593.1 = t597 then (if bt581.1 = bt595.1 then (if (bt581.2.1 == bt595.2) = true then (if bt581.2.2 = 0 then ((lampblacklaw02_awake.f k).bind fun t598 => (some t598)) else (some false)) else (some false)) else (some false)) else (some false))) else (some false)) else (some false))))) else ((lampblacklaw02_none.f bt564.1 bt564.2.1).bind fun t585 => (if t585 = true then (if bt581.1 = 0 then (if bt581.2.1 = true then (some false) else (if bt564.2.2 = 2 then (if bt581.2.2 = 2 then ((lampblacklaw02_awake.f k).bind fun t586 => (some t586)) else (some false)) else (some false))) else (some false)) else (some false)))))))))
def lampblacklaw02_WidthTrees.T2 : Bool × List (List Nat × List Nat) := (true, [([], []), ([0], [0]), ([], []), ([2, 1], [2]), ([1, 3, 3], [1, 3]), ([4], [4]), ([5], [5]), ([5], [5]), ([5], [5]), ([6, 4, 0, 1, 2, 3, 4, 5, 6], [6]), ([7, 9, 0, 1, 2, 3, 4, 5, 6, 7, 9], [7]), ([8, 10, 0, 1, 2, 3, 4, 5, 6, 7, 8, 9, 10], [8])])
def lampblacklaw02_WidthTrees.B2 : List Nat := [0, 1, 0, 7, 15, 31, 63, 63, 63, 127, 767, 2047]
theorem lampblacklaw02_WidthTrees.tab2 : rtab .any (opsOf Tryd.f12 2) = lampblacklaw02_WidthTrees.T2 := by kernel_rfl
theorem lampblacklaw02_WidthTrees.bits2 : waitsOk lampblacklaw02_WidthTrees.T2.2 lampblacklaw02_WidthTrees.B2 = true := by kernel_rfl
set_option maxHeartbeats 8000000 in
set_option maxRecDepth 100000 in
theorem lampblacklaw02_WidthTrees.calls (k : Nat) (A0 : Option Addr) (c0 : Nat) (l0 : List Int) (A1_0 : Option Addr) (c1_0 : Nat) (l1_0 : List Int) (A1_1 : Option Addr) (c1_1 : Nat) (l1_1 : List Int) (r : Bool) (w : World) (hGL : GL w) (hr0 : Kd.C (Kd.int .i64) w A0 l0.length l0) (hc0 : l0.length ≤ c0) (hr1_0 : Kd.C (Kd.int .i64) w A1_0 l1_0.length l1_0) (hc1_0 : l1_0.length ≤ c1_0) (hr1_1 : Kd.C (Kd.int .i64) w A1_1 l1_1.length l1_1) (hc1_1 : l1_1.length ≤ c1_1) (h : lampblacklaw02_WidthTrees.f k l0 l1_0 l1_1 = some r) (hrt : r = true) :
  Calls Tryd.prog 12 #[.slice A0 l0.length c0, .agg #[.slice A1_0 l1_0.length c1_0, .slice A1_1 l1_1.length c1_1]] w fun e w' => e = .returned (.bool r) ∧ Below w.heap.size w w' := by
 have HRT := Aside0.mk hrt
 clear hrt
 have HGL := Aside0.mk hGL
 clear hGL
 have hu52 := Tryd.underlying52
 have hu53 := Tryd.underlying53
 have HR0 := Aside0.mk hr0
 have HC0 := Aside0.mk hc0
 clear hr0 hc0
 have HR1_0 := Aside0.mk hr1_0
 have HC1_0 := Aside0.mk hc1_0
 clear hr1_0 hc1_0
 have HR1_1 := Aside0.mk hr1_1
 have HC1_1 := Aside0.mk hc1_1
 clear hr1_1 hc1_1
 have HB := Aside0.mk (Below.refl w.heap.size w)
 have H : ((lampblacklaw02_Few.f l0).bind fun t561 => ((width_Decompose.f k t561).bind fun bt564 => ((lampblacklaw02_Few.f l0).bind fun t572 => ((lampblacklaw02_Of.f l1_0 l1_1).bind fun bt575 => ((width_Check.f k t572 bt575.1 bt575.2).bind fun bt581 => ((lampblackref02_Valid.f k l0).bind fun t584 => (if t584 = true then ((lampblacklaw02_own.f bt564.1 bt564.2.1).bind fun bt587 => ((lampblackref02_IsTree.f k l0 bt587.1 bt587.2).bind fun bt593 => ((lampblackref02_IsTree.f k l0 l1_0 l1_1).bind fun bt595 => (if bt564.2.2 = 0 then (if bt593.2 = true then ((lampblackref02_Width.f k l0).bind fun t597 => (if bt593.1 = t597 then (if bt581.1 = bt595.1 then (if (bt581.2.1 == bt595.2) = true then (if bt581.2.2 = 0 then ((lampblacklaw02_awake.f k).bind fun t598 => (some t598)) else (some false)) else (some false)) else (some false)) else (some false))) else (some false)) else (some false))))) else ((lampblacklaw02_none.f bt564.1 bt564.2.1).bind fun t585 => (if t585 = true then (if bt581.1 = 0 then (if bt581.2.1 = true then (some false) else (if bt564.2.2 = 2 then (if bt581.2.2 = 2 then ((lampblacklaw02_awake.f k).bind fun t586 => (some t586)) else (some false)) else (some false))) else (some false)) else (some false)))))))))) = some r := h
 clear h
 replace H := Option.bind_eq_some_iff.mp H
 obtain ⟨t561, A30, H⟩ := H
 replace H : ((width_Decompose.f k t561).bind fun bt564 => ((lampblacklaw02_Few.f l0).bind fun t572 => ((lampblacklaw02_Of.f l1_0 l1_1).bind fun bt575 => ((width_Check.f k t572 bt575.1 bt575.2).bind fun bt581 => ((lampblackref02_Valid.f k l0).bind fun t584 => (if t584 = true then ((lampblacklaw02_own.f bt564.1 bt564.2.1).bind fun bt587 => ((lampblackref02_IsTree.f k l0 bt587.1 bt587.2).bind fun bt593 => ((lampblackref02_IsTree.f k l0 l1_0 l1_1).bind fun bt595 => (if bt564.2.2 = 0 then (if bt593.2 = true then ((lampblackref02_Width.f k l0).bind fun t597 => (if bt593.1 = t597 then (if bt581.1 = bt595.1 then (if (bt581.2.1 == bt595.2) = true then (if bt581.2.2 = 0 then ((lampblacklaw02_awake.f k).bind fun t598 => (some t598)) else (some false)) else (some false)) else (some false)) else (some false))) else (some false)) else (some false))))) else ((lampblacklaw02_none.f bt564.1 bt564.2.1).bind fun t585 => (if t585 = true then (if bt581.1 = 0 then (if bt581.2.1 = true then (some false) else (if bt564.2.2 = 2 then (if bt581.2.2 = 2 then ((lampblacklaw02_awake.f k).bind fun t586 => (some t586)) else (some false)) else (some false))) else (some false)) else (some false))))))))) = some r := H
 have A3 := Aside0.mk A30
 clear A30
 replace H := Option.bind_eq_some_iff.mp H
 obtain ⟨⟨t564, t567, t570⟩, A40, H⟩ := H
 replace H : ((lampblacklaw02_Few.f l0).bind fun t572 => ((lampblacklaw02_Of.f l1_0 l1_1).bind fun bt575 => ((width_Check.f k t572 bt575.1 bt575.2).bind fun bt581 => ((lampblackref02_Valid.f k l0).bind fun t584 => (if t584 = true then ((lampblacklaw02_own.f t564 t567).bind fun bt587 => ((lampblackref02_IsTree.f k l0 bt587.1 bt587.2).bind fun bt593 => ((lampblackref02_IsTree.f k l0 l1_0 l1_1).bind fun bt595 => (if t570 = 0 then (if bt593.2 = true then ((lampblackref02_Width.f k l0).bind fun t597 => (if bt593.1 = t597 then (if bt581.1 = bt595.1 then (if (bt581.2.1 == bt595.2) = true then (if bt581.2.2 = 0 then ((lampblacklaw02_awake.f k).bind fun t598 => (some t598)) else (some false)) else (some false)) else (some false)) else (some false))) else (some false)) else (some false))))) else ((lampblacklaw02_none.f t564 t567).bind fun t585 => (if t585 = true then (if bt581.1 = 0 then (if bt581.2.1 = true then (some false) else (if t570 = 2 then (if bt581.2.2 = 2 then ((lampblacklaw02_awake.f k).bind fun t586 => (some t586)) else (some false)) else (some false))) else (some false)) else (some false)))))))) = some r := H
 have A4 := Aside0.mk A40
 clear A40
 replace H := Option.bind_eq_some_iff.mp H
 obtain ⟨t572, A50, H⟩ := H
 replace H : ((lampblacklaw02_Of.f l1_0 l1_1).bind fun bt575 => ((width_Check.f k t572 bt575.1 bt575.2).bind fun bt581 => ((lampblackref02_Valid.f k l0).bind fun t584 => (if t584 = true then ((lampblacklaw02_own.f t564 t567).bind fun bt587 => ((lampblackref02_IsTree.f k l0 bt587.1 bt587.2).bind fun bt593 => ((lampblackref02_IsTree.f k l0 l1_0 l1_1).bind fun bt595 => (if t570 = 0 then (if bt593.2 = true then ((lampblackref02_Width.f k l0).bind fun t597 => (if bt593.1 = t597 then (if bt581.1 = bt595.1 then (if (bt581.2.1 == bt595.2) = true then (if bt581.2.2 = 0 then ((lampblacklaw02_awake.f k).bind fun t598 => (some t598)) else (some false)) else (some false)) else (some false)) else (some false))) else (some false)) else (some false))))) else ((lampblacklaw02_none.f t564 t567).bind fun t585 => (if t585 = true then (if bt581.1 = 0 then (if bt581.2.1 = true then (some false) else (if t570 = 2 then (if bt581.2.2 = 2 then ((lampblacklaw02_awake.f k).bind fun t586 => (some t586)) else (some false)) else (some false))) else (some false)) else (some false))))))) = some r := H
 have A5 := Aside0.mk A50
 clear A50
 replace H := Option.bind_eq_some_iff.mp H
 obtain ⟨⟨t575, t578⟩, A60, H⟩ := H
 replace H : ((width_Check.f k t572 t575 t578).bind fun bt581 => ((lampblackref02_Valid.f k l0).bind fun t584 => (if t584 = true then ((lampblacklaw02_own.f t564 t567).bind fun bt587 => ((lampblackref02_IsTree.f k l0 bt587.1 bt587.2).bind fun bt593 => ((lampblackref02_IsTree.f k l0 l1_0 l1_1).bind fun bt595 => (if t570 = 0 then (if bt593.2 = true then ((lampblackref02_Width.f k l0).bind fun t597 => (if bt593.1 = t597 then (if bt581.1 = bt595.1 then (if (bt581.2.1 == bt595.2) = true then (if bt581.2.2 = 0 then ((lampblacklaw02_awake.f k).bind fun t598 => (some t598)) else (some false)) else (some false)) else (some false)) else (some false))) else (some false)) else (some false))))) else ((lampblacklaw02_none.f t564 t567).bind fun t585 => (if t585 = true then (if bt581.1 = 0 then (if bt581.2.1 = true then (some false) else (if t570 = 2 then (if bt581.2.2 = 2 then ((lampblacklaw02_awake.f k).bind fun t586 => (some t586)) else (some false)) else (some false))) else (some false)) else (some false)))))) = some r := H
 have A6 := Aside0.mk A60
 clear A60
 replace H := Option.bind_eq_some_iff.mp H
 obtain ⟨⟨t581, t582, t583⟩, A70, H⟩ := H
 replace H : ((lampblackref02_Valid.f k l0).bind fun t584 => (if t584 = true then ((lampblacklaw02_own.f t564 t567).bind fun bt587 => ((lampblackref02_IsTree.f k l0 bt587.1 bt587.2).bind fun bt593 => ((lampblackref02_IsTree.f k l0 l1_0 l1_1).bind fun bt595 => (if t570 = 0 then (if bt593.2 = true then ((lampblackref02_Width.f k l0).bind fun t597 => (if bt593.1 = t597 then (if t581 = bt595.1 then (if (t582 == bt595.2) = true then (if t583 = 0 then ((lampblacklaw02_awake.f k).bind fun t598 => (some t598)) else (some false)) else (some false)) else (some false)) else (some false))) else (some false)) else (some false))))) else ((lampblacklaw02_none.f t564 t567).bind fun t585 => (if t585 = true then (if t581 = 0 then (if t582 = true then (some false) else (if t570 = 2 then (if t583 = 2 then ((lampblacklaw02_awake.f k).bind fun t586 => (some t586)) else (some false)) else (some false))) else (some false)) else (some false))))) = some r := H
 have A7 := Aside0.mk A70
 clear A70
 replace H := Option.bind_eq_some_iff.mp H
 obtain ⟨t584, A80, H⟩ := H
 replace H : (if t584 = true then ((lampblacklaw02_own.f t564 t567).bind fun bt587 => ((lampblackref02_IsTree.f k l0 bt587.1 bt587.2).bind fun bt593 => ((lampblackref02_IsTree.f k l0 l1_0 l1_1).bind fun bt595 => (if t570 = 0 then (if bt593.2 = true then ((lampblackref02_Width.f k l0).bind fun t597 => (if bt593.1 = t597 then (if t581 = bt595.1 then (if (t582 == bt595.2) = true then (if t583 = 0 then ((lampblacklaw02_awake.f k).bind fun t598 => (some t598)) else (some false)) else (some false)) else (some false)) else (some false))) else (some false)) else (some false))))) else ((lampblacklaw02_none.f t564 t567).bind fun t585 => (if t585 = true then (if t581 = 0 then (if t582 = true then (some false) else (if t570 = 2 then (if t583 = 2 then ((lampblacklaw02_awake.f k).bind fun t586 => (some t586)) else (some false)) else (some false))) else (some false)) else (some false)))) = some r := H
 have A8 := Aside0.mk A80
 clear A80
 by_cases c9 : t584 = true
 ·subst c9
  have H1 : ((lampblacklaw02_own.f t564 t567).bind fun bt587 => ((lampblackref02_IsTree.f k l0 bt587.1 bt587.2).bind fun bt593 => ((lampblackref02_IsTree.f k l0 l1_0 l1_1).bind fun bt595 => (if t570 = 0 then (if bt593.2 = true then ((lampblackref02_Width.f k l0).bind fun t597 => (if bt593.1 = t597 then (if t581 = bt595.1 then (if (t582 == bt595.2) = true then (if t583 = 0 then ((lampblacklaw02_awake.f k).bind fun t598 => (some t598)) else (some false)) else (some false)) else (some false)) else (some false))) else (some false)) else (some false))))) = some r := by rw [if_pos rfl] at H; exact H
  clear H
  have H := H1
  clear H1
  replace H := Option.bind_eq_some_iff.mp H
  obtain ⟨⟨t587, t590⟩, A100, H⟩ := H
  replace H : ((lampblackref02_IsTree.f k l0 t587 t590).bind fun bt593 => ((lampblackref02_IsTree.f k l0 l1_0 l1_1).bind fun bt595 => (if t570 = 0 then (if bt593.2 = true then ((lampblackref02_Width.f k l0).bind fun t597 => (if bt593.1 = t597 then (if t581 = bt595.1 then (if (t582 == bt595.2) = true then (if t583 = 0 then ((lampblacklaw02_awake.f k).bind fun t598 => (some t598)) else (some false)) else (some false)) else (some false)) else (some false))) else (some false)) else (some false)))) = some r := H
  have A10 := Aside0.mk A100
  clear A100
  replace H := Option.bind_eq_some_iff.mp H
  obtain ⟨⟨t593, t594⟩, A110, H⟩ := H
  replace H : ((lampblackref02_IsTree.f k l0 l1_0 l1_1).bind fun bt595 => (if t570 = 0 then (if t594 = true then ((lampblackref02_Width.f k l0).bind fun t597 => (if t593 = t597 then (if t581 = bt595.1 then (if (t582 == bt595.2) = true then (if t583 = 0 then ((lampblacklaw02_awake.f k).bind fun t598 => (some t598)) else (some false)) else (some false)) else (some false)) else (some false))) else (some false)) else (some false))) = some r := H
  have A11 := Aside0.mk A110
  clear A110
  replace H := Option.bind_eq_some_iff.mp H
  obtain ⟨⟨t595, t596⟩, A120, H⟩ := H
  replace H : (if t570 = 0 then (if t594 = true then ((lampblackref02_Width.f k l0).bind fun t597 => (if t593 = t597 then (if t581 = t595 then (if (t582 == t596) = true then (if t583 = 0 then ((lampblacklaw02_awake.f k).bind fun t598 => (some t598)) else (some false)) else (some false)) else (some false)) else (some false))) else (some false)) else (some false)) = some r := H
  have A12 := Aside0.mk A120
  clear A120
  by_cases c13 : t570 = 0
  ·rw [if_pos c13] at H
   have c13b0 : (t570 == 0) = true := beq_iff_eq.mpr c13
   have c13b1 : (t570 != 0) = false := bne_eq_false_iff_eq.mpr c13
   clear c13
   by_cases c14 : t594 = true
   ·subst c14
    have H1 : ((lampblackref02_Width.f k l0).bind fun t597 => (if t593 = t597 then (if t581 = t595 then (if (t582 == t596) = true then (if t583 = 0 then ((lampblacklaw02_awake.f k).bind fun t598 => (some t598)) else (some false)) else (some false)) else (some false)) else (some false))) = some r := by rw [if_pos rfl] at H; exact H
    clear H
    have H := H1
    clear H1
    replace H := Option.bind_eq_some_iff.mp H
    obtain ⟨t597, A150, H⟩ := H
    replace H : (if t593 = t597 then (if t581 = t595 then (if (t582 == t596) = true then (if t583 = 0 then ((lampblacklaw02_awake.f k).bind fun t598 => (some t598)) else (some false)) else (some false)) else (some false)) else (some false)) = some r := H
    have A15 := Aside0.mk A150
    clear A150
    by_cases c16 : t593 = t597
    ·rw [if_pos c16] at H
     have c16b0 : (t593 == t597) = true := beq_iff_eq.mpr c16
     have c16b1 : (t593 != t597) = false := bne_eq_false_iff_eq.mpr c16
     clear c16
     by_cases c17 : t581 = t595
     ·rw [if_pos c17] at H
      have c17b0 : (t581 == t595) = true := beq_iff_eq.mpr c17
      have c17b1 : (t581 != t595) = false := bne_eq_false_iff_eq.mpr c17
      clear c17
      by_cases c18 : (t582 == t596) = true
      ·rw [if_pos c18] at H
       have c18b0 : (t582 == t596) = true := c18
       (try (have c18b1 : decide (t582 = t596) = true := by simpa using c18))
       (try (have c18b2 : (t582 == t596) = true := by simpa using c18))
       clear c18
       by_cases c19 : t583 = 0
       ·rw [if_pos c19] at H
        have c19b0 : (t583 == 0) = true := beq_iff_eq.mpr c19
        have c19b1 : (t583 != 0) = false := bne_eq_false_iff_eq.mpr c19
        clear c19
        replace H := Option.bind_eq_some_iff.mp H
        obtain ⟨t598, A200, H⟩ := H
        replace H : (some t598) = some r := H
        have A20 := Aside0.mk A200
        clear A200
        clear HRT
        obtain rfl := Option.some.inj H
        go_enter Tryd.func12, Tryd.ntmps12
        try go_wp2_with (first | ((with_reducible refine gate_dst (N := 3) rfl ?_); refine box_event ?hg (N := 3) ?hd (cs := #[.slice A1_0 l1_0.length c1_0, .slice A1_1 l1_1.length c1_1]) (t := 52) ?hr ?_; (case hd => rfl); (case hg => rfl); (case hr => first | (go_simp; done) | (go_simp; rfl)); intro gb560 hg w21 hbox hb; have n0_ := Aside0.mk (below_step (Qaw) hb); have n1_ := Aside0.mk (hbox); have n2_ := Aside0.mk ((by rw [hg]; exact (below_size (Qaw)) : w.heap.size ≤ gb560)); have n3_ := Aside0.mk ((by rw [hg]; exact (below_size (Qaw)) : w.heap.size ≤ gb560)); clear HB; have HB := n0_; have BK560 := n1_; have GW560 := n2_; have GE560 := n3_; clear n0_ n1_ n2_ n3_; clear hb hbox hg) | ((with_reducible refine gate_callee (f := 19) rfl ?_); refine goesL_ (some 16) rfl rfl Tryd.func19 (by kernel_rfl) rfl #[.slice A0 l0.length c0] rfl (Qls) ?_; (with_reducible refine (lampblacklaw02_Few.calls _ _ l0 t561 _ ?side1 ?side2 A3.out).mono ?_); (case side1 => exact Qsc (Kd.C_below HR0.out HB.out)); (case side2 => exact HC0.out); rintro e w22 ⟨v562, rfl, ho0, hb⟩; refine ⟨_, rfl, ?_⟩; have n0_ := Aside0.mk (Kd.R_lower ho0 (below_size (Qag GE560.out))); have n1_ := Aside0.mk (blk_below (g := gb560) (o := .cells #[.slice A1_0 l1_0.length c1_0, .slice A1_1 l1_1.length c1_1] 52 (0, 0)) (Qbl BK560.out) hb); have n2_ := Aside0.mk (below_step (Qag GE560.out) hb); clear BK560; clear HB; have HO563 := n0_; have BK560 := n1_; have HB := n2_; clear n0_ n1_ n2_; (try clear hb); (try clear hb2); (try clear hk); (try clear hi); (try clear ho0); obtain ⟨Ao23, co23, eo23⟩ := Kd.R_slice HO563.out; subst eo23) | ((with_reducible refine gate_callee (f := 52) rfl ?_); refine goesL_ (some 17) rfl rfl Tryd.func52 (by kernel_rfl) rfl #[.slice Ao23 t561.length co23] rfl (Qls) ?_; (with_reducible refine (width_Decompose.calls (hGL := (Qlg)) k _ _ t561 t564 t567 t570 _ ?side1 ?side2 A4.out).mono ?_); (case side1 => exact Qsc (Kd.R_reads' HO563.out).2.2); (case side2 => exact (Kd.R_reads' HO563.out).2.1); rintro e w24 ⟨v565, v568, rfl, ho0, ho1, hb⟩; refine ⟨_, rfl, ?_⟩; have n0_ := Aside0.mk (Kd.R_mono (Kd.R_told (Kd.R_told (Kd.R_old (Qro HO563.out) hb) (Kd.R_base ho0)) (Kd.R_base ho1)) (fun _ h_ => h_.1)); have n1_ := Aside0.mk (Kd.R_lower (Kd.R_new' ho0 (Kd.R_lt (Qro HO563.out))) (below_size (Qag GE560.out))); have n2_ := Aside0.mk (Kd.R_lower (Kd.R_new' ho1 (Kd.R_lt (Qro HO563.out))) (below_size (Qag GE560.out))); have n3_ := Aside0.mk (blk_below (g := gb560) (o := .cells #[.slice A1_0 l1_0.length c1_0, .slice A1_1 l1_1.length c1_1] 52 (0, 0)) (Qbl BK560.out) hb); have n4_ := Aside0.mk (below_step (Qag GE560.out) hb); clear HO563; clear BK560; clear HB; have HO563 := n0_; have HO566 := n1_; have HO569 := n2_; have BK560 := n3_; have HB := n4_; clear n0_ n1_ n2_ n3_ n4_; (try clear hb); (try clear hb2); (try clear hk); (try clear hi); (try clear ho0); (try clear ho1)) | ((with_reducible refine gate_dst (N := 5) rfl ?_); refine box_event ?hg (N := 5) ?hd (cs := #[.slice none 0 0, .slice none 0 0]) (t := 53) ?hr ?_; (case hd => rfl); (case hg => rfl); (case hr => first | (go_simp; done) | (go_simp; rfl)); intro gb571 hg w25 hbox hb; have n0_ := Aside0.mk (Kd.R_below (Qro HO563.out) hb); have n1_ := Aside0.mk (Kd.R_below (Qro HO566.out) hb); have n2_ := Aside0.mk (Kd.R_below (Qro HO569.out) hb); have n3_ := Aside0.mk (blk_below (g := gb560) (o := .cells #[.slice A1_0 l1_0.length c1_0, .slice A1_1 l1_1.length c1_1] 52 (0, 0)) (Qbl BK560.out) hb); have n4_ := Aside0.mk (below_step (Qag GE560.out) hb); have n5_ := Aside0.mk (hbox); have n6_ := Aside0.mk ((by rw [hg]; exact (below_size (Qag GE560.out)) : w.heap.size ≤ gb571)); have n7_ := Aside0.mk ((by rw [hg]; exact (below_size (Qag GE560.out)) : w.heap.size ≤ gb571)); have n8_ := Aside0.mk ((by rw [hg]; exact Nat.ne_of_lt (blk_lt (g := gb560) (o := .cells #[.slice A1_0 l1_0.length c1_0, .slice A1_1 l1_1.length c1_1] 52 (0, 0)) (Qbl BK560.out)) : gb560 ≠ gb571)); have n9_ := Aside0.mk ((by rw [hg]; exact Nat.ne_of_gt (blk_lt (g := gb560) (o := .cells #[.slice A1_0 l1_0.length c1_0, .slice A1_1 l1_1.length c1_1] 52 (0, 0)) (Qbl BK560.out)) : gb571 ≠ gb560)); clear HO563; clear HO566; clear HO569; clear BK560; clear HB; have HO563 := n0_; have HO566 := n1_; have HO569 := n2_; have BK560 := n3_; have HB := n4_; have BK571 := n5_; have GW571 := n6_; have GE571 := n7_; have NB560_571 := n8_; have NB571_560 := n9_; clear n0_ n1_ n2_ n3_ n4_ n5_ n6_ n7_ n8_ n9_; clear hb hbox hg; obtain ⟨Ao26, co26, eo26⟩ := Kd.R_slice HO566.out; subst eo26; have hnb27 := NB571_560.out; have hnc27 := NB560_571.out; have hcz28_0 : w25.cell? ⟨gb571, 0, none⟩ = some (.slice none 0 0) := (blk_cell BK571.out 0).trans rfl; have hcz28_1 : w25.cell? ⟨gb571, 1, none⟩ = some (.slice none 0 0) := (blk_cell BK571.out 1).trans rfl; have hfz28_0 := blk_frozen BK571.out 0; have hfz28_1 := blk_frozen BK571.out 1; obtain ⟨Ao29, co29, eo29⟩ := Kd.R_slice HO569.out; subst eo29))
        have n0_ : Aside0 (Kd.R (Kd.int .i64) 3 ((w25.setCell ⟨gb571, 0, none⟩ (.slice Ao26 t564.length co26)).setCell ⟨gb571, 1, none⟩ (.slice Ao29 t567.length co29)) w.heap.size (fun k_ => some k_ ≠ (.slice Ao26 t564.length co26 : Value).ownBlock ∧ some k_ ≠ (.slice Ao29 t567.length co29 : Value).ownBlock) (.slice Ao23 t561.length co23) t561) := ⟨by (with_reducible repeat (first | apply Kd.R_alloc | apply Kd.R_drewN | apply Kd.R_drew)); exact Kd.R_mono (Kd.R_far (p := ⟨gb571, 1, none⟩) (Kd.R_far (p := ⟨gb571, 0, none⟩) (Kd.R_types HO563.out BK571.out (by decide)) (fun _ hk => hk.2) (.slice Ao26 t564.length co26)) (fun _ hk => hk.2) (.slice Ao29 t567.length co29)) (fun _ hk => ⟨hk.1.1.2, hk.1.2⟩)⟩
        have n1_ : Aside0 (Kd.R (Kd.int .i64) 3 ((w25.setCell ⟨gb571, 0, none⟩ (.slice Ao26 t564.length co26)).setCell ⟨gb571, 1, none⟩ (.slice Ao29 t567.length co29)) w.heap.size (fun k_ => some k_ ≠ (.slice Ao23 t561.length co23 : Value).ownBlock ∧ some k_ ≠ (.slice Ao29 t567.length co29 : Value).ownBlock) (.slice Ao26 t564.length co26) t564) := ⟨by (with_reducible repeat (first | apply Kd.R_alloc | apply Kd.R_drewN | apply Kd.R_drew)); exact Kd.R_mono (Kd.R_far (p := ⟨gb571, 1, none⟩) (Kd.R_far (p := ⟨gb571, 0, none⟩) (Kd.R_types HO566.out BK571.out (by decide)) (fun _ hk => hk.2) (.slice Ao26 t564.length co26)) (fun _ hk => hk.2) (.slice Ao29 t567.length co29)) (fun _ hk => ⟨hk.1.2, hk.1.1⟩)⟩
        have n2_ : Aside0 (Kd.R (Kd.int .i64) 3 ((w25.setCell ⟨gb571, 0, none⟩ (.slice Ao26 t564.length co26)).setCell ⟨gb571, 1, none⟩ (.slice Ao29 t567.length co29)) w.heap.size (fun k_ => some k_ ≠ (.slice Ao23 t561.length co23 : Value).ownBlock ∧ some k_ ≠ (.slice Ao26 t564.length co26 : Value).ownBlock) (.slice Ao29 t567.length co29) t567) := ⟨by (with_reducible repeat (first | apply Kd.R_alloc | apply Kd.R_drewN | apply Kd.R_drew)); exact Kd.R_mono (Kd.R_far (p := ⟨gb571, 1, none⟩) (Kd.R_far (p := ⟨gb571, 0, none⟩) (Kd.R_types HO569.out BK571.out (by decide)) (fun _ hk => hk.2) (.slice Ao26 t564.length co26)) (fun _ hk => hk.2) (.slice Ao29 t567.length co29)) (fun _ hk => ⟨hk.1.2, hk.1.1⟩)⟩
        have n3_ : Aside0 (((w25.setCell ⟨gb571, 0, none⟩ (.slice Ao26 t564.length co26)).setCell ⟨gb571, 1, none⟩ (.slice Ao29 t567.length co29)).heap[gb560]? = some (.cells #[.slice A1_0 l1_0.length c1_0, .slice A1_1 l1_1.length c1_1] 52 (0, 0))) := ⟨by (with_reducible repeat (first | refine blk_drewN ?_ _ | refine blk_drew ?_ | refine blk_alloc ?_ _)); refine blk_far ?_ NB560_571.out _; (with_reducible repeat (first | refine blk_drewN ?_ _ | refine blk_drew ?_ | refine blk_alloc ?_ _)); refine blk_far ?_ NB560_571.out _; (with_reducible repeat (first | refine blk_drewN ?_ _ | refine blk_drew ?_ | refine blk_alloc ?_ _)); exact BK560.out⟩
        have n4_ : Aside0 (((w25.setCell ⟨gb571, 0, none⟩ (.slice Ao26 t564.length co26)).setCell ⟨gb571, 1, none⟩ (.slice Ao29 t567.length co29)).heap[gb571]? = some (.cells #[.slice Ao26 t564.length co26, .slice Ao29 t567.length co29] 53 (0, 0))) := ⟨by (with_reducible repeat (first | refine blk_drewN ?_ _ | refine blk_drew ?_ | refine blk_alloc ?_ _)); refine blk_put (cs := #[.slice Ao26 t564.length co26, .slice none 0 0]) ?_ 1 _ rfl; (with_reducible repeat (first | refine blk_drewN ?_ _ | refine blk_drew ?_ | refine blk_alloc ?_ _)); refine blk_put (cs := #[.slice none 0 0, .slice none 0 0]) ?_ 0 _ rfl; (with_reducible repeat (first | refine blk_drewN ?_ _ | refine blk_drew ?_ | refine blk_alloc ?_ _)); exact BK571.out⟩
        have n5_ : Aside0 (Below w.heap.size w ((w25.setCell ⟨gb571, 0, none⟩ (.slice Ao26 t564.length co26)).setCell ⟨gb571, 1, none⟩ (.slice Ao29 t567.length co29))) := ⟨by repeat (first | (with_reducible first | exact HB.out | apply below_alloc | apply pw_below_drewN | apply below_drew1 | refine below_set ?_ GE560.out | refine below_set ?_ GE571.out) | exact HB.out)⟩
        (try clear HO563)
        (try clear HO566)
        (try clear HO569)
        (try clear BK560)
        (try clear BK571)
        (try clear HB)
        generalize ((w25.setCell ⟨gb571, 0, none⟩ (.slice Ao26 t564.length co26)).setCell ⟨gb571, 1, none⟩ (.slice Ao29 t567.length co29)) = w30 at n0_ n1_ n2_ n3_ n4_ n5_ ⊢
        have HO563 := n0_
        have HO566 := n1_
        have HO569 := n2_
        have BK560 := n3_
        have BK571 := n4_
        have HB := n5_
        clear n0_ n1_ n2_ n3_ n4_ n5_
        have n0_ := Aside0.mk (Kd.R_drew HO563.out)
        have n1_ := Aside0.mk (Kd.R_drew HO566.out)
        have n2_ := Aside0.mk (Kd.R_drew HO569.out)
        have n3_ := Aside0.mk (blk_drew BK560.out)
        have n4_ := Aside0.mk (blk_drew BK571.out)
        have n5_ := Aside0.mk (below_drew1 HB.out)
        clear HO563
        clear HO566
        clear HO569
        clear BK560
        clear BK571
        clear HB
        have HO563 := n0_
        have HO566 := n1_
        have HO569 := n2_
        have BK560 := n3_
        have BK571 := n4_
        have HB := n5_
        clear n0_ n1_ n2_ n3_ n4_ n5_
        refine start_ (n := 12) (S := fun w' => w'.cell? ⟨gb560, 0, none⟩ = some (.slice A1_0 l1_0.length c1_0) ∧ w'.cell? ⟨gb560, 1, none⟩ = some (.slice A1_1 l1_1.length c1_1)) (ds := []) (Qbz 12 0) (by kernel_rfl) rfl rfl ⟨(blk_cell BK560.out 0).trans rfl, (blk_cell BK560.out 1).trans rfl⟩ (fun hHeld => ?_); refine with_tabW lampblacklaw02_WidthTrees.tab2 lampblacklaw02_WidthTrees.bits2 (fun HT_ HW_ => ?_)
        generalize w30.drew = w31 at HO563 HO566 HO569 BK560 BK571 HB hHeld ⊢
        refine pure_ (i := 0) (N := some 21) (v := ?_) (a' := ?_) (Qbz 12 1) rfl rfl (Qao) (fun _ _ _ h => h) (Or.inl ⟨by rfl, ?_⟩) ?_ ?_
        rotate_left
        ·intro w'
         go_simp
         with_reducible rfl
        rotate_left
        ·simp only [Act.put, Qp1, Qp2, Qp3, i64_w, i32_w]
         rfl
        refine take_ (i := 2) (N := some 23) (v := ?_) (a' := ?_) (Qbz 12 5) rfl rfl (take_ofW HT_.out HW_.out (by kernel_rfl)) (fun _ _ _ h => h) (Or.inl ⟨by rfl, ?_⟩) hHeld ?_ ?_
        rotate_left
        ·rintro w' ⟨s0, s1⟩
         go_simp
         with_reducible rfl
        rotate_left
        ·simp only [Act.put, Qp1, Qp2, Qp3, i64_w, i32_w]
         rfl
        refine one_ (i := 1) (N := some 22) (Qbz 12 7) rfl rfl (one_of HT_.out (by kernel_rfl)) (by decide) (fun K hK => ?_)
        refine goes_ Tryd.func19 (by kernel_rfl) rfl #[.slice A0 l0.length c0] (by rfl) rfl rfl (Qls) ?_
        with_reducible refine (lampblacklaw02_Few.calls _ _ l0 t572 _ ?side1 ?side2 A5.out).mono ?_
        (case side1 => exact Qsc (Kd.C_below HR0.out HB.out))
        (case side2 => exact HC0.out)
        rintro e w32 ⟨v573, rfl, ho0, hb⟩
        refine ⟨_, rfl, ?_⟩
        have n0_ := Aside0.mk (Kd.R_elder' (Qro HO563.out) (Kd.R_base ho0) hb)
        have n1_ := Aside0.mk (Kd.R_elder' (Qro HO566.out) (Kd.R_base ho0) hb)
        have n2_ := Aside0.mk (Kd.R_elder' (Qro HO569.out) (Kd.R_base ho0) hb)
        have n3_ := Aside0.mk (Kd.R_lower (Kd.R_new' (Kd.R_new' (Kd.R_new' ho0 (Kd.R_lt (Qro HO563.out))) (Kd.R_lt (Qro HO566.out))) (Kd.R_lt (Qro HO569.out))) (below_size (Qah GE560.out GE571.out)))
        have n4_ := Aside0.mk (blk_below (g := gb560) (o := .cells #[.slice A1_0 l1_0.length c1_0, .slice A1_1 l1_1.length c1_1] 52 (0, 0)) (Qbl BK560.out) hb)
        have n5_ := Aside0.mk (blk_below (g := gb571) (o := .cells #[.slice Ao26 t564.length co26, .slice Ao29 t567.length co29] 53 (0, 0)) (Qbl BK571.out) hb)
        have n6_ := Aside0.mk (below_step (Qah GE560.out GE571.out) hb)
        clear HO563
        clear HO566
        clear HO569
        clear BK560
        clear BK571
        clear HB
        have HO563 := n0_
        have HO566 := n1_
        have HO569 := n2_
        have HO574 := n3_
        have BK560 := n4_
        have BK571 := n5_
        have HB := n6_
        clear n0_ n1_ n2_ n3_ n4_ n5_ n6_
        (try clear hb)
        (try clear hb2)
        (try clear hk)
        (try clear hi)
        (try clear ho0)
        refine hK.out _ _ ⟨(blk_cell BK560.out 0).trans rfl, (blk_cell BK560.out 1).trans rfl⟩ (fun hHeld => ?_)
        clear hK K
        refine norm_ (a' := ?_) ?_ ?_
        rotate_left
        ·show Act.put _ (some 22) _ = _
         simp only [Act.put, Qp1, Qp2, Qp3, i64_w, i32_w]
         rfl
        refine one_ (i := 3) (N := some 24) (Qbz 12 15) rfl rfl (one_of HT_.out (by kernel_rfl)) (by decide) (fun K hK => ?_)
        refine goes_ Tryd.func44 (by kernel_rfl) rfl #[.agg #[.slice A1_0 l1_0.length c1_0, .slice A1_1 l1_1.length c1_1]] (by rfl) rfl rfl (Qls) ?_
        with_reducible refine (lampblacklaw02_Of.calls _ _ l1_0 _ _ l1_1 t575 t578 _ ?side1 ?side2 ?side3 ?side4 A6.out).mono ?_
        (case side1 => exact Qsc (Kd.C_below HR1_0.out HB.out))
        (case side2 => exact HC1_0.out)
        (case side3 => exact Qsc (Kd.C_below HR1_1.out HB.out))
        (case side4 => exact HC1_1.out)
        rintro e w33 ⟨v576, v579, rfl, ho0, ho1, hb⟩
        refine ⟨_, rfl, ?_⟩
        have n0_ := Aside0.mk (Kd.R_mono (Kd.R_told (Kd.R_told (Kd.R_old (Qro HO563.out) hb) (Kd.R_base ho0)) (Kd.R_base ho1)) (fun _ h_ => h_.1))
        have n1_ := Aside0.mk (Kd.R_mono (Kd.R_told (Kd.R_told (Kd.R_old (Qro HO566.out) hb) (Kd.R_base ho0)) (Kd.R_base ho1)) (fun _ h_ => h_.1))
        have n2_ := Aside0.mk (Kd.R_mono (Kd.R_told (Kd.R_told (Kd.R_old (Qro HO569.out) hb) (Kd.R_base ho0)) (Kd.R_base ho1)) (fun _ h_ => h_.1))
        have n3_ := Aside0.mk (Kd.R_mono (Kd.R_told (Kd.R_told (Kd.R_old (Qro HO574.out) hb) (Kd.R_base ho0)) (Kd.R_base ho1)) (fun _ h_ => h_.1))
        have n4_ := Aside0.mk (Kd.R_lower (Kd.R_new' (Kd.R_new' (Kd.R_new' (Kd.R_new' ho0 (Kd.R_lt (Qro HO563.out))) (Kd.R_lt (Qro HO566.out))) (Kd.R_lt (Qro HO569.out))) (Kd.R_lt (Qro HO574.out))) (below_size (Qah GE560.out GE571.out)))
        have n5_ := Aside0.mk (Kd.R_lower (Kd.R_new' (Kd.R_new' (Kd.R_new' (Kd.R_new' ho1 (Kd.R_lt (Qro HO563.out))) (Kd.R_lt (Qro HO566.out))) (Kd.R_lt (Qro HO569.out))) (Kd.R_lt (Qro HO574.out))) (below_size (Qah GE560.out GE571.out)))
        have n6_ := Aside0.mk (blk_below (g := gb560) (o := .cells #[.slice A1_0 l1_0.length c1_0, .slice A1_1 l1_1.length c1_1] 52 (0, 0)) (Qbl BK560.out) hb)
        have n7_ := Aside0.mk (blk_below (g := gb571) (o := .cells #[.slice Ao26 t564.length co26, .slice Ao29 t567.length co29] 53 (0, 0)) (Qbl BK571.out) hb)
        have n8_ := Aside0.mk (below_step (Qah GE560.out GE571.out) hb)
        clear HO563
        clear HO566
        clear HO569
        clear HO574
        clear BK560
        clear BK571
        clear HB
        have HO563 := n0_
        have HO566 := n1_
        have HO569 := n2_
        have HO574 := n3_
        have HO577 := n4_
        have HO580 := n5_
        have BK560 := n6_
        have BK571 := n7_
        have HB := n8_
        clear n0_ n1_ n2_ n3_ n4_ n5_ n6_ n7_ n8_
        (try clear hb)
        (try clear hb2)
        (try clear hk)
        (try clear hi)
        (try clear ho0)
        (try clear ho1)
        obtain ⟨Ao34, co34, eo34⟩ := Kd.R_slice HO574.out
        (first | subst eo34 | (injection eo34 with f1_ f2_ f3_; have f4_ := f1_.symm; have f5_ := f3_.symm; clear f1_ f2_ f3_; subst f4_; subst f5_))
        obtain ⟨Ao35, co35, eo35⟩ := Kd.R_slice HO577.out
        (first | subst eo35 | (injection eo35 with f1_ f2_ f3_; have f4_ := f1_.symm; have f5_ := f3_.symm; clear f1_ f2_ f3_; subst f4_; subst f5_))
        obtain ⟨Ao36, co36, eo36⟩ := Kd.R_slice HO580.out
        (first | subst eo36 | (injection eo36 with f1_ f2_ f3_; have f4_ := f1_.symm; have f5_ := f3_.symm; clear f1_ f2_ f3_; subst f4_; subst f5_))
        refine hK.out _ _ ⟨(blk_cell BK560.out 0).trans rfl, (blk_cell BK560.out 1).trans rfl⟩ (fun hHeld => ?_)
        clear hK K
        refine norm_ (a' := ?_) ?_ ?_
        rotate_left
        ·show Act.put _ (some 24) _ = _
         simp only [Act.put, Qp1, Qp2, Qp3, i64_w, i32_w]
         rfl
        refine one_ (i := 4) (N := some 25) (Qbz 12 31) rfl rfl (one_of HT_.out (by kernel_rfl)) (by decide) (fun K hK => ?_)
        refine goes_ Tryd.func50 (by kernel_rfl) rfl #[.slice Ao34 t572.length co34, .agg #[.slice Ao35 t575.length co35, .slice Ao36 t578.length co36]] (by rfl) rfl rfl (Qls) ?_
        with_reducible refine (width_Check.calls (hGL := (Qlg)) k _ _ t572 _ _ t575 _ _ t578 t581 t582 t583 _ ?side1 ?side2 ?side3 ?side4 ?side5 ?side6 A7.out).mono ?_
        (case side1 => exact Qsc (Kd.R_reads' HO574.out).2.2)
        (case side2 => exact (Kd.R_reads' HO574.out).2.1)
        (case side3 => exact Qsc (Kd.R_reads' HO577.out).2.2)
        (case side4 => exact (Kd.R_reads' HO577.out).2.1)
        (case side5 => exact Qsc (Kd.R_reads' HO580.out).2.2)
        (case side6 => exact (Kd.R_reads' HO580.out).2.1)
        rintro e w37 ⟨rfl, hb⟩
        refine ⟨_, rfl, ?_⟩
        have n0_ := Aside0.mk (Kd.R_below (Qro HO563.out) hb)
        have n1_ := Aside0.mk (Kd.R_below (Qro HO566.out) hb)
        have n2_ := Aside0.mk (Kd.R_below (Qro HO569.out) hb)
        have n3_ := Aside0.mk (Kd.R_below (Qro HO574.out) hb)
        have n4_ := Aside0.mk (Kd.R_below (Qro HO577.out) hb)
        have n5_ := Aside0.mk (Kd.R_below (Qro HO580.out) hb)
        have n6_ := Aside0.mk (blk_below (g := gb560) (o := .cells #[.slice A1_0 l1_0.length c1_0, .slice A1_1 l1_1.length c1_1] 52 (0, 0)) (Qbl BK560.out) hb)
        have n7_ := Aside0.mk (blk_below (g := gb571) (o := .cells #[.slice Ao26 t564.length co26, .slice Ao29 t567.length co29] 53 (0, 0)) (Qbl BK571.out) hb)
        have n8_ := Aside0.mk (below_step (Qah GE560.out GE571.out) hb)
        clear HO563
        clear HO566
        clear HO569
        clear HO574
        clear HO577
        clear HO580
        clear BK560
        clear BK571
        clear HB
        have HO563 := n0_
        have HO566 := n1_
        have HO569 := n2_
        have HO574 := n3_
        have HO577 := n4_
        have HO580 := n5_
        have BK560 := n6_
        have BK571 := n7_
        have HB := n8_
        clear n0_ n1_ n2_ n3_ n4_ n5_ n6_ n7_ n8_
        (try clear hb)
        (try clear hb2)
        (try clear hk)
        (try clear hi)
        refine hK.out _ _ ⟨(blk_cell BK560.out 0).trans rfl, (blk_cell BK560.out 1).trans rfl⟩ (fun hHeld => ?_)
        clear hK K
        refine norm_ (a' := ?_) ?_ ?_
        rotate_left
        ·show Act.put _ (some 25) _ = _
         simp only [Act.put, Qp1, Qp2, Qp3, i64_w, i32_w]
         rfl
        refine pure_ (i := 5) (N := some 20) (v := ?_) (a' := ?_) (Qbz 12 63) rfl rfl (Qao) (fun _ _ _ h => h) (Or.inl ⟨by rfl, ?_⟩) ?_ ?_
        rotate_left
        ·intro w'
         go_simp
         with_reducible rfl
        rotate_left
        ·simp only [Act.put, Qp1, Qp2, Qp3, i64_w, i32_w]
         rfl
        refine pure_ (i := 6) (N := some 26) (v := ?_) (a' := ?_) (Qbz 12 127) rfl rfl (Qao) (fun _ _ _ h => h) (Or.inl ⟨by rfl, ?_⟩) ?_ ?_
        rotate_left
        ·intro w'
         go_simp
         with_reducible rfl
        rotate_left
        ·simp only [Act.put, Qp1, Qp2, Qp3, i64_w, i32_w]
         rfl
        refine pure_ (i := 7) (N := some 27) (v := ?_) (a' := ?_) (Qbz 12 255) rfl rfl (Qao) (fun _ _ _ h => h) (Or.inl ⟨by rfl, ?_⟩) ?_ ?_
        rotate_left
        ·intro w'
         go_simp
         with_reducible rfl
        rotate_left
        ·simp only [Act.put, Qp1, Qp2, Qp3, i64_w, i32_w]
         rfl
        refine pure_ (i := 8) (N := some 28) (v := ?_) (a' := ?_) (Qbz 12 511) rfl rfl (Qao) (fun _ _ _ h => h) (Or.inl ⟨by rfl, ?_⟩) ?_ ?_
        rotate_left
        ·intro w'
         go_simp
         with_reducible rfl
        rotate_left
        ·simp only [Act.put, Qp1, Qp2, Qp3, i64_w, i32_w]
         rfl
        refine pure_ (i := 9) (N := some 7) (v := ?_) (a' := ?_) (Qbz 12 1023) rfl rfl (Qao) (fun _ _ _ h => h) (Or.inl ⟨by rfl, ?_⟩) ?_ ?_
        rotate_left
        ·intro w'
         go_simp
         with_reducible rfl
        rotate_left
        ·simp only [Act.put, Qp1, Qp2, Qp3, i64_w, i32_w]
         rfl
        refine pure_ (i := 10) (N := some 8) (v := ?_) (a' := ?_) (Qbz 12 2047) rfl rfl (Qao) (fun _ _ _ h => h) (Or.inl ⟨by rfl, ?_⟩) ?_ ?_
        rotate_left
        ·intro w'
         go_simp
         with_reducible rfl
        rotate_left
        ·simp only [Act.put, Qp1, Qp2, Qp3, i64_w, i32_w]
         rfl
        refine pure_ (i := 11) (N := some 9) (v := ?_) (a' := ?_) (Qbz 12 4095) rfl rfl (Qao) (fun _ _ _ h => h) (Or.inl ⟨by rfl, ?_⟩) ?_ ?_
        rotate_left
        ·intro w'
         go_simp
         with_reducible rfl
        rotate_left
        ·simp only [Act.put, Qp1, Qp2, Qp3, i64_w, i32_w]
         rfl
        refine done_ (done_of HT_.out (by kernel_rfl)) ?_
        try go_wp2_with (first | ((with_reducible refine gate_callee (f := 23) rfl ?_); refine goesL_ (some 30) rfl rfl Tryd.func23 (by kernel_rfl) rfl #[.slice A0 l0.length c0] rfl (Qls) ?_; (with_reducible refine (lampblackref02_Valid.calls k _ _ l0 true _ ?side1 ?side2 A8.out).mono ?_); (case side1 => exact Qsc (Kd.C_below HR0.out HB.out)); (case side2 => exact HC0.out); rintro e w' ⟨rfl, ⟨nd, rfl⟩⟩; refine ⟨_, rfl, ?_⟩; have hcz38_0 : w37.cell? ⟨gb571, 0, none⟩ = some (.slice Ao26 t564.length co26) := (blk_cell BK571.out 0).trans rfl; have hcz38_1 : w37.cell? ⟨gb571, 1, none⟩ = some (.slice Ao29 t567.length co29) := (blk_cell BK571.out 1).trans rfl; have hfz38_0 := blk_frozen BK571.out 0; have hfz38_1 := blk_frozen BK571.out 1) | ((with_reducible refine gate_callee (f := 48) rfl ?_); refine goesL_ (some 56) rfl rfl Tryd.func48 (by kernel_rfl) rfl #[.agg #[.slice Ao26 t564.length co26, .slice Ao29 t567.length co29]] rfl (Qls) ?_; (with_reducible refine (lampblacklaw02_own.calls (fun k_ => some k_ = (.slice Ao26 t564.length co26 : Value).ownBlock) _ _ t564 (fun k_ => some k_ = (.slice Ao29 t567.length co29 : Value).ownBlock) _ _ t567 t587 t590 _ ?side1 ?side2 A10.out).mono ?_); (case side1 => exact Kd.R_V (Kd.R_tight rfl (Kd.R_types (Kd.R_types (HO566.out) BK560.out (by decide)) BK571.out (by decide)))); (case side2 => exact Kd.R_V (Kd.R_tight rfl (Kd.R_types (Kd.R_types (HO569.out) BK560.out (by decide)) BK571.out (by decide)))); rintro e w39 ⟨v588, v591, rfl, ho0, ho1, hb⟩; refine ⟨_, rfl, ?_⟩; have n0_ := Aside0.mk (Kd.R_below (Qro HO563.out) hb); have n1_ := Aside0.mk (Kd.R_below (Qro HO566.out) hb); have n2_ := Aside0.mk (Kd.R_below (Qro HO569.out) hb); have n3_ := Aside0.mk (Kd.R_below (Qro HO574.out) hb); have n4_ := Aside0.mk (Kd.R_below (Qro HO577.out) hb); have n5_ := Aside0.mk (Kd.R_below (Qro HO580.out) hb); have n6_ := Aside0.mk (Kd.V_lower (Kd.V_mono (ok' := fun k_ => some k_ ≠ (.slice Ao23 t561.length co23 : Value).ownBlock ∧ some k_ ≠ (.slice Ao34 t572.length co34 : Value).ownBlock ∧ some k_ ≠ (.slice Ao35 t575.length co35 : Value).ownBlock ∧ some k_ ≠ (.slice Ao36 t578.length co36 : Value).ownBlock ∧ k_ ≠ gb560 ∧ k_ ≠ gb571) ho0 (fun k_ hk_ => ⟨Or.elim hk_ (fun hs_ => Or.elim hs_ (fun hs_ => ((Kd.R_types (Kd.R_types (HO566.out) BK560.out (by decide)) BK571.out (by decide)).1 k_ hs_.symm).1.1.1.1.1.1) (fun hs_ => ((Kd.R_types (Kd.R_types (HO569.out) BK560.out (by decide)) BK571.out (by decide)).1 k_ hs_.symm).1.1.1.1.1.1)) (fun hn_ => (Kd.fresh' (Kd.R_lt (Qro HO563.out)) k_ hn_)), Or.elim hk_ (fun hs_ => Or.elim hs_ (fun hs_ => ((Kd.R_types (Kd.R_types (HO566.out) BK560.out (by decide)) BK571.out (by decide)).1 k_ hs_.symm).1.1.1.1.2) (fun hs_ => ((Kd.R_types (Kd.R_types (HO569.out) BK560.out (by decide)) BK571.out (by decide)).1 k_ hs_.symm).1.1.1.1.2)) (fun hn_ => (Kd.fresh' (Kd.R_lt (Qro HO574.out)) k_ hn_)), Or.elim hk_ (fun hs_ => Or.elim hs_ (fun hs_ => ((Kd.R_types (Kd.R_types (HO566.out) BK560.out (by decide)) BK571.out (by decide)).1 k_ hs_.symm).1.1.1.2) (fun hs_ => ((Kd.R_types (Kd.R_types (HO569.out) BK560.out (by decide)) BK571.out (by decide)).1 k_ hs_.symm).1.1.1.2)) (fun hn_ => (Kd.fresh' (Kd.R_lt (Qro HO577.out)) k_ hn_)), Or.elim hk_ (fun hs_ => Or.elim hs_ (fun hs_ => ((Kd.R_types (Kd.R_types (HO566.out) BK560.out (by decide)) BK571.out (by decide)).1 k_ hs_.symm).1.1.2) (fun hs_ => ((Kd.R_types (Kd.R_types (HO569.out) BK560.out (by decide)) BK571.out (by decide)).1 k_ hs_.symm).1.1.2)) (fun hn_ => (Kd.fresh' (Kd.R_lt (Qro HO580.out)) k_ hn_)), Or.elim hk_ (fun hs_ => Or.elim hs_ (fun hs_ => ((Kd.R_types (Kd.R_types (HO566.out) BK560.out (by decide)) BK571.out (by decide)).1 k_ hs_.symm).1.2) (fun hs_ => ((Kd.R_types (Kd.R_types (HO569.out) BK560.out (by decide)) BK571.out (by decide)).1 k_ hs_.symm).1.2)) (fun hn_ => (Kd.freshB (g := gb560) (o := .cells #[.slice A1_0 l1_0.length c1_0, .slice A1_1 l1_1.length c1_1] 52 (0, 0)) (Qbl BK560.out) k_ hn_)), Or.elim hk_ (fun hs_ => Or.elim hs_ (fun hs_ => ((Kd.R_types (Kd.R_types (HO566.out) BK560.out (by decide)) BK571.out (by decide)).1 k_ hs_.symm).2) (fun hs_ => ((Kd.R_types (Kd.R_types (HO569.out) BK560.out (by decide)) BK571.out (by decide)).1 k_ hs_.symm).2)) (fun hn_ => (Kd.freshB (g := gb571) (o := .cells #[.slice Ao26 t564.length co26, .slice Ao29 t567.length co29] 53 (0, 0)) (Qbl BK571.out) k_ hn_))⟩)) (below_size (Qah GE560.out GE571.out))); have n7_ := Aside0.mk (Kd.V_lower (Kd.V_mono (ok' := fun k_ => some k_ ≠ (.slice Ao23 t561.length co23 : Value).ownBlock ∧ some k_ ≠ (.slice Ao34 t572.length co34 : Value).ownBlock ∧ some k_ ≠ (.slice Ao35 t575.length co35 : Value).ownBlock ∧ some k_ ≠ (.slice Ao36 t578.length co36 : Value).ownBlock ∧ k_ ≠ gb560 ∧ k_ ≠ gb571) ho1 (fun k_ hk_ => ⟨Or.elim hk_ (fun hs_ => Or.elim hs_ (fun hs_ => ((Kd.R_types (Kd.R_types (HO566.out) BK560.out (by decide)) BK571.out (by decide)).1 k_ hs_.symm).1.1.1.1.1.1) (fun hs_ => ((Kd.R_types (Kd.R_types (HO569.out) BK560.out (by decide)) BK571.out (by decide)).1 k_ hs_.symm).1.1.1.1.1.1)) (fun hn_ => (Kd.fresh' (Kd.R_lt (Qro HO563.out)) k_ hn_)), Or.elim hk_ (fun hs_ => Or.elim hs_ (fun hs_ => ((Kd.R_types (Kd.R_types (HO566.out) BK560.out (by decide)) BK571.out (by decide)).1 k_ hs_.symm).1.1.1.1.2) (fun hs_ => ((Kd.R_types (Kd.R_types (HO569.out) BK560.out (by decide)) BK571.out (by decide)).1 k_ hs_.symm).1.1.1.1.2)) (fun hn_ => (Kd.fresh' (Kd.R_lt (Qro HO574.out)) k_ hn_)), Or.elim hk_ (fun hs_ => Or.elim hs_ (fun hs_ => ((Kd.R_types (Kd.R_types (HO566.out) BK560.out (by decide)) BK571.out (by decide)).1 k_ hs_.symm).1.1.1.2) (fun hs_ => ((Kd.R_types (Kd.R_types (HO569.out) BK560.out (by decide)) BK571.out (by decide)).1 k_ hs_.symm).1.1.1.2)) (fun hn_ => (Kd.fresh' (Kd.R_lt (Qro HO577.out)) k_ hn_)), Or.elim hk_ (fun hs_ => Or.elim hs_ (fun hs_ => ((Kd.R_types (Kd.R_types (HO566.out) BK560.out (by decide)) BK571.out (by decide)).1 k_ hs_.symm).1.1.2) (fun hs_ => ((Kd.R_types (Kd.R_types (HO569.out) BK560.out (by decide)) BK571.out (by decide)).1 k_ hs_.symm).1.1.2)) (fun hn_ => (Kd.fresh' (Kd.R_lt (Qro HO580.out)) k_ hn_)), Or.elim hk_ (fun hs_ => Or.elim hs_ (fun hs_ => ((Kd.R_types (Kd.R_types (HO566.out) BK560.out (by decide)) BK571.out (by decide)).1 k_ hs_.symm).1.2) (fun hs_ => ((Kd.R_types (Kd.R_types (HO569.out) BK560.out (by decide)) BK571.out (by decide)).1 k_ hs_.symm).1.2)) (fun hn_ => (Kd.freshB (g := gb560) (o := .cells #[.slice A1_0 l1_0.length c1_0, .slice A1_1 l1_1.length c1_1] 52 (0, 0)) (Qbl BK560.out) k_ hn_)), Or.elim hk_ (fun hs_ => Or.elim hs_ (fun hs_ => ((Kd.R_types (Kd.R_types (HO566.out) BK560.out (by decide)) BK571.out (by decide)).1 k_ hs_.symm).2) (fun hs_ => ((Kd.R_types (Kd.R_types (HO569.out) BK560.out (by decide)) BK571.out (by decide)).1 k_ hs_.symm).2)) (fun hn_ => (Kd.freshB (g := gb571) (o := .cells #[.slice Ao26 t564.length co26, .slice Ao29 t567.length co29] 53 (0, 0)) (Qbl BK571.out) k_ hn_))⟩)) (below_size (Qah GE560.out GE571.out))); have n8_ := Aside0.mk (blk_below (g := gb560) (o := .cells #[.slice A1_0 l1_0.length c1_0, .slice A1_1 l1_1.length c1_1] 52 (0, 0)) (Qbl BK560.out) hb); have n9_ := Aside0.mk (blk_below (g := gb571) (o := .cells #[.slice Ao26 t564.length co26, .slice Ao29 t567.length co29] 53 (0, 0)) (Qbl BK571.out) hb); have n10_ := Aside0.mk (below_step (Qah GE560.out GE571.out) hb); clear HO563; clear HO566; clear HO569; clear HO574; clear HO577; clear HO580; clear BK560; clear BK571; clear HB; have HO563 := n0_; have HO566 := n1_; have HO569 := n2_; have HO574 := n3_; have HO577 := n4_; have HO580 := n5_; have HO589 := n6_; have HO592 := n7_; have BK560 := n8_; have BK571 := n9_; have HB := n10_; clear n0_ n1_ n2_ n3_ n4_ n5_ n6_ n7_ n8_ n9_ n10_; (try clear hb); (try clear hb2); (try clear hk); (try clear hi); (try clear ho0); (try clear ho1); obtain ⟨Ao40, co40, eo40⟩ := Kd.V_slice HO589.out; subst eo40; obtain ⟨Ao41, co41, eo41⟩ := Kd.V_slice HO592.out; subst eo41) | ((with_reducible refine gate_callee (f := 53) rfl ?_); refine goesL_ (some 57) rfl rfl Tryd.func53 (by kernel_rfl) rfl #[.slice A0 l0.length c0, .agg #[.slice Ao40 t587.length co40, .slice Ao41 t590.length co41]] rfl (Qls) ?_; (with_reducible refine (lampblackref02_IsTree.calls k _ _ l0 _ _ t587 _ _ t590 t593 true _ ?side1 ?side2 ?side3 ?side4 ?side5 ?side6 A11.out).mono ?_); (case side1 => exact Qsc (Kd.C_below HR0.out HB.out)); (case side2 => exact HC0.out); (case side3 => exact Qsc (Kd.V_reads' HO589.out).2.2); (case side4 => exact (Kd.V_reads' HO589.out).2.1); (case side5 => exact Qsc (Kd.V_reads' HO592.out).2.2); (case side6 => exact (Kd.V_reads' HO592.out).2.1); rintro e w42 ⟨rfl, hb⟩; refine ⟨_, rfl, ?_⟩; have n0_ := Aside0.mk (Kd.R_below (Qro HO563.out) hb); have n1_ := Aside0.mk (Kd.R_below (Qro HO566.out) hb); have n2_ := Aside0.mk (Kd.R_below (Qro HO569.out) hb); have n3_ := Aside0.mk (Kd.R_below (Qro HO574.out) hb); have n4_ := Aside0.mk (Kd.R_below (Qro HO577.out) hb); have n5_ := Aside0.mk (Kd.R_below (Qro HO580.out) hb); have n6_ := Aside0.mk (Kd.V_below (by (with_reducible repeat (first | apply Kd.V_alloc | apply Kd.V_drewN | apply Kd.V_drew)); exact HO589.out) hb); have n7_ := Aside0.mk (Kd.V_below (by (with_reducible repeat (first | apply Kd.V_alloc | apply Kd.V_drewN | apply Kd.V_drew)); exact HO592.out) hb); have n8_ := Aside0.mk (blk_below (g := gb560) (o := .cells #[.slice A1_0 l1_0.length c1_0, .slice A1_1 l1_1.length c1_1] 52 (0, 0)) (Qbl BK560.out) hb); have n9_ := Aside0.mk (blk_below (g := gb571) (o := .cells #[.slice Ao26 t564.length co26, .slice Ao29 t567.length co29] 53 (0, 0)) (Qbl BK571.out) hb); have n10_ := Aside0.mk (below_step (Qah GE560.out GE571.out) hb); clear HO563; clear HO566; clear HO569; clear HO574; clear HO577; clear HO580; clear HO589; clear HO592; clear BK560; clear BK571; clear HB; have HO563 := n0_; have HO566 := n1_; have HO569 := n2_; have HO574 := n3_; have HO577 := n4_; have HO580 := n5_; have HO589 := n6_; have HO592 := n7_; have BK560 := n8_; have BK571 := n9_; have HB := n10_; clear n0_ n1_ n2_ n3_ n4_ n5_ n6_ n7_ n8_ n9_ n10_; (try clear hb); (try clear hb2); (try clear hk); (try clear hi); have hcz43_0 : w42.cell? ⟨gb560, 0, none⟩ = some (.slice A1_0 l1_0.length c1_0) := (blk_cell BK560.out 0).trans rfl; have hcz43_1 : w42.cell? ⟨gb560, 1, none⟩ = some (.slice A1_1 l1_1.length c1_1) := (blk_cell BK560.out 1).trans rfl; have hfz43_0 := blk_frozen BK560.out 0; have hfz43_1 := blk_frozen BK560.out 1) | ((with_reducible refine gate_callee (f := 53) rfl ?_); refine goesL_ (some 63) rfl rfl Tryd.func53 (by kernel_rfl) rfl #[.slice A0 l0.length c0, .agg #[.slice A1_0 l1_0.length c1_0, .slice A1_1 l1_1.length c1_1]] rfl (Qls) ?_; (with_reducible refine (lampblackref02_IsTree.calls k _ _ l0 _ _ l1_0 _ _ l1_1 t595 t596 _ ?side1 ?side2 ?side3 ?side4 ?side5 ?side6 A12.out).mono ?_); (case side1 => exact Qsc (Kd.C_below HR0.out HB.out)); (case side2 => exact HC0.out); (case side3 => exact Qsc (Kd.C_below HR1_0.out HB.out)); (case side4 => exact HC1_0.out); (case side5 => exact Qsc (Kd.C_below HR1_1.out HB.out)); (case side6 => exact HC1_1.out); rintro e w44 ⟨rfl, hb⟩; refine ⟨_, rfl, ?_⟩; have n0_ := Aside0.mk (Kd.R_below (Qro HO563.out) hb); have n1_ := Aside0.mk (Kd.R_below (Qro HO566.out) hb); have n2_ := Aside0.mk (Kd.R_below (Qro HO569.out) hb); have n3_ := Aside0.mk (Kd.R_below (Qro HO574.out) hb); have n4_ := Aside0.mk (Kd.R_below (Qro HO577.out) hb); have n5_ := Aside0.mk (Kd.R_below (Qro HO580.out) hb); have n6_ := Aside0.mk (Kd.V_below (by (with_reducible repeat (first | apply Kd.V_alloc | apply Kd.V_drewN | apply Kd.V_drew)); exact HO589.out) hb); have n7_ := Aside0.mk (Kd.V_below (by (with_reducible repeat (first | apply Kd.V_alloc | apply Kd.V_drewN | apply Kd.V_drew)); exact HO592.out) hb); have n8_ := Aside0.mk (blk_below (g := gb560) (o := .cells #[.slice A1_0 l1_0.length c1_0, .slice A1_1 l1_1.length c1_1] 52 (0, 0)) (Qbl BK560.out) hb); have n9_ := Aside0.mk (blk_below (g := gb571) (o := .cells #[.slice Ao26 t564.length co26, .slice Ao29 t567.length co29] 53 (0, 0)) (Qbl BK571.out) hb); have n10_ := Aside0.mk (below_step (Qah GE560.out GE571.out) hb); clear HO563; clear HO566; clear HO569; clear HO574; clear HO577; clear HO580; clear HO589; clear HO592; clear BK560; clear BK571; clear HB; have HO563 := n0_; have HO566 := n1_; have HO569 := n2_; have HO574 := n3_; have HO577 := n4_; have HO580 := n5_; have HO589 := n6_; have HO592 := n7_; have BK560 := n8_; have BK571 := n9_; have HB := n10_; clear n0_ n1_ n2_ n3_ n4_ n5_ n6_ n7_ n8_ n9_ n10_; (try clear hb); (try clear hb2); (try clear hk); (try clear hi)) | (go_at_call 38; (with_reducible refine (lampblackref02_Width.calls k _ _ l0 t597 _ ?side1 ?side2 A15.out).mono ?_); (case side1 => exact Qsc (Kd.C_below HR0.out HB.out)); (case side2 => exact HC0.out); rintro e w45 ⟨rfl, hb⟩; have n0_ := Aside0.mk (Kd.R_below (Qro HO563.out) hb); have n1_ := Aside0.mk (Kd.R_below (Qro HO566.out) hb); have n2_ := Aside0.mk (Kd.R_below (Qro HO569.out) hb); have n3_ := Aside0.mk (Kd.R_below (Qro HO574.out) hb); have n4_ := Aside0.mk (Kd.R_below (Qro HO577.out) hb); have n5_ := Aside0.mk (Kd.R_below (Qro HO580.out) hb); have n6_ := Aside0.mk (Kd.V_below (by (with_reducible repeat (first | apply Kd.V_alloc | apply Kd.V_drewN | apply Kd.V_drew)); exact HO589.out) hb); have n7_ := Aside0.mk (Kd.V_below (by (with_reducible repeat (first | apply Kd.V_alloc | apply Kd.V_drewN | apply Kd.V_drew)); exact HO592.out) hb); have n8_ := Aside0.mk (blk_below (g := gb560) (o := .cells #[.slice A1_0 l1_0.length c1_0, .slice A1_1 l1_1.length c1_1] 52 (0, 0)) (Qbl BK560.out) hb); have n9_ := Aside0.mk (blk_below (g := gb571) (o := .cells #[.slice Ao26 t564.length co26, .slice Ao29 t567.length co29] 53 (0, 0)) (Qbl BK571.out) hb); have n10_ := Aside0.mk (below_step (Qah GE560.out GE571.out) hb); clear HO563; clear HO566; clear HO569; clear HO574; clear HO577; clear HO580; clear HO589; clear HO592; clear BK560; clear BK571; clear HB; have HO563 := n0_; have HO566 := n1_; have HO569 := n2_; have HO574 := n3_; have HO577 := n4_; have HO580 := n5_; have HO589 := n6_; have HO592 := n7_; have BK560 := n8_; have BK571 := n9_; have HB := n10_; clear n0_ n1_ n2_ n3_ n4_ n5_ n6_ n7_ n8_ n9_ n10_; (try clear hb); (try clear hb2); (try clear hk); (try clear hi)) | (go_at_call 20; (with_reducible refine (lampblacklaw02_awake.calls (hGL := (Qlg)) k  t598 _ A20.out).mono ?_); rintro e w46 ⟨rfl, hb⟩; have n0_ := Aside0.mk (Kd.R_below (Qro HO563.out) hb); have n1_ := Aside0.mk (Kd.R_below (Qro HO566.out) hb); have n2_ := Aside0.mk (Kd.R_below (Qro HO569.out) hb); have n3_ := Aside0.mk (Kd.R_below (Qro HO574.out) hb); have n4_ := Aside0.mk (Kd.R_below (Qro HO577.out) hb); have n5_ := Aside0.mk (Kd.R_below (Qro HO580.out) hb); have n6_ := Aside0.mk (Kd.V_below (by (with_reducible repeat (first | apply Kd.V_alloc | apply Kd.V_drewN | apply Kd.V_drew)); exact HO589.out) hb); have n7_ := Aside0.mk (Kd.V_below (by (with_reducible repeat (first | apply Kd.V_alloc | apply Kd.V_drewN | apply Kd.V_drew)); exact HO592.out) hb); have n8_ := Aside0.mk (blk_below (g := gb560) (o := .cells #[.slice A1_0 l1_0.length c1_0, .slice A1_1 l1_1.length c1_1] 52 (0, 0)) (Qbl BK560.out) hb); have n9_ := Aside0.mk (blk_below (g := gb571) (o := .cells #[.slice Ao26 t564.length co26, .slice Ao29 t567.length co29] 53 (0, 0)) (Qbl BK571.out) hb); have n10_ := Aside0.mk (below_step (Qah GE560.out GE571.out) hb); clear HO563; clear HO566; clear HO569; clear HO574; clear HO577; clear HO580; clear HO589; clear HO592; clear BK560; clear BK571; clear HB; have HO563 := n0_; have HO566 := n1_; have HO569 := n2_; have HO574 := n3_; have HO577 := n4_; have HO580 := n5_; have HO589 := n6_; have HO592 := n7_; have BK560 := n8_; have BK571 := n9_; have HB := n10_; clear n0_ n1_ n2_ n3_ n4_ n5_ n6_ n7_ n8_ n9_ n10_; (try clear hb); (try clear hb2); (try clear hk); (try clear hi)))
        go_ret
        exact ⟨by first | rfl | (simp [errW_none, errW_some] <;> rfl) | (simp [*, errW_none, errW_some] <;> rfl), by repeat (first | (with_reducible first | exact HB.out | apply below_alloc | apply pw_below_drewN | apply below_drew1 | refine below_set ?_ GE560.out | refine below_set ?_ GE571.out) | exact HB.out)⟩
       ·rw [if_neg c19] at H
        have c19b0 : (t583 == 0) = false := beq_eq_false_iff_ne.mpr c19
        have c19b1 : (t583 != 0) = true := bne_iff_ne.mpr c19
        exact absurd ((Option.some.inj H).trans HRT.out) (by decide)
      ·rw [if_neg c18] at H
       have c18b0 : (t582 == t596) = false := by simpa using c18
       (try (have c18b1 : decide (t582 = t596) = false := by simpa using c18))
       (try (have c18b2 : (t582 == t596) = false := by simpa using c18))
       (try (have c18b3 : ¬ (t582 = t596) := by simpa using c18))
       clear c18
       exact absurd ((Option.some.inj H).trans HRT.out) (by decide)
     ·rw [if_neg c17] at H
      have c17b0 : (t581 == t595) = false := beq_eq_false_iff_ne.mpr c17
      have c17b1 : (t581 != t595) = true := bne_iff_ne.mpr c17
      exact absurd ((Option.some.inj H).trans HRT.out) (by decide)
    ·rw [if_neg c16] at H
     have c16b0 : (t593 == t597) = false := beq_eq_false_iff_ne.mpr c16
     have c16b1 : (t593 != t597) = true := bne_iff_ne.mpr c16
     exact absurd ((Option.some.inj H).trans HRT.out) (by decide)
   ·replace c14 := Bool.eq_false_iff.mpr c14
    subst c14
    have H1 : (some false) = some r := by rw [if_neg (show ¬ (false = true) by decide)] at H; exact H
    clear H
    have H := H1
    clear H1
    exact absurd ((Option.some.inj H).trans HRT.out) (by decide)
  ·rw [if_neg c13] at H
   have c13b0 : (t570 == 0) = false := beq_eq_false_iff_ne.mpr c13
   have c13b1 : (t570 != 0) = true := bne_iff_ne.mpr c13
   exact absurd ((Option.some.inj H).trans HRT.out) (by decide)
 ·replace c9 := Bool.eq_false_iff.mpr c9
  subst c9
  have H1 : ((lampblacklaw02_none.f t564 t567).bind fun t585 => (if t585 = true then (if t581 = 0 then (if t582 = true then (some false) else (if t570 = 2 then (if t583 = 2 then ((lampblacklaw02_awake.f k).bind fun t586 => (some t586)) else (some false)) else (some false))) else (some false)) else (some false))) = some r := by rw [if_neg (show ¬ (false = true) by decide)] at H; exact H
  clear H
  have H := H1
  clear H1
  replace H := Option.bind_eq_some_iff.mp H
  obtain ⟨t585, A1950, H⟩ := H
  replace H : (if t585 = true then (if t581 = 0 then (if t582 = true then (some false) else (if t570 = 2 then (if t583 = 2 then ((lampblacklaw02_awake.f k).bind fun t586 => (some t586)) else (some false)) else (some false))) else (some false)) else (some false)) = some r := H
  have A195 := Aside0.mk A1950
  clear A1950
  by_cases c196 : t585 = true
  ·subst c196
   have H1 : (if t581 = 0 then (if t582 = true then (some false) else (if t570 = 2 then (if t583 = 2 then ((lampblacklaw02_awake.f k).bind fun t586 => (some t586)) else (some false)) else (some false))) else (some false)) = some r := by rw [if_pos rfl] at H; exact H
   clear H
   have H := H1
   clear H1
   by_cases c197 : t581 = 0
   ·rw [if_pos c197] at H
    have c197b0 : (t581 == 0) = true := beq_iff_eq.mpr c197
    have c197b1 : (t581 != 0) = false := bne_eq_false_iff_eq.mpr c197
    clear c197
    by_cases c198 : t582 = true
    ·subst c198
     have H1 : (some false) = some r := by rw [if_pos rfl] at H; exact H
     clear H
     have H := H1
     clear H1
     exact absurd ((Option.some.inj H).trans HRT.out) (by decide)
    ·replace c198 := Bool.eq_false_iff.mpr c198
     subst c198
     have H1 : (if t570 = 2 then (if t583 = 2 then ((lampblacklaw02_awake.f k).bind fun t586 => (some t586)) else (some false)) else (some false)) = some r := by rw [if_neg (show ¬ (false = true) by decide)] at H; exact H
     clear H
     have H := H1
     clear H1
     by_cases c218 : t570 = 2
     ·rw [if_pos c218] at H
      have c218b0 : (t570 == 2) = true := beq_iff_eq.mpr c218
      have c218b1 : (t570 != 2) = false := bne_eq_false_iff_eq.mpr c218
      clear c218
      by_cases c219 : t583 = 2
      ·rw [if_pos c219] at H
       have c219b0 : (t583 == 2) = true := beq_iff_eq.mpr c219
       have c219b1 : (t583 != 2) = false := bne_eq_false_iff_eq.mpr c219
       clear c219
       replace H := Option.bind_eq_some_iff.mp H
       obtain ⟨t586, A2200, H⟩ := H
       replace H : (some t586) = some r := H
       have A220 := Aside0.mk A2200
       clear A2200
       clear HRT
       obtain rfl := Option.some.inj H
       go_enter Tryd.func12, Tryd.ntmps12
       try go_wp2_with (first | ((with_reducible refine gate_dst (N := 3) rfl ?_); refine box_event ?hg (N := 3) ?hd (cs := #[.slice A1_0 l1_0.length c1_0, .slice A1_1 l1_1.length c1_1]) (t := 52) ?hr ?_; (case hd => rfl); (case hg => rfl); (case hr => first | (go_simp; done) | (go_simp; rfl)); intro gb560 hg w221 hbox hb; have n0_ := Aside0.mk (below_step (Qaw) hb); have n1_ := Aside0.mk (hbox); have n2_ := Aside0.mk ((by rw [hg]; exact (below_size (Qaw)) : w.heap.size ≤ gb560)); have n3_ := Aside0.mk ((by rw [hg]; exact (below_size (Qaw)) : w.heap.size ≤ gb560)); clear HB; have HB := n0_; have BK560 := n1_; have GW560 := n2_; have GE560 := n3_; clear n0_ n1_ n2_ n3_; clear hb hbox hg) | ((with_reducible refine gate_callee (f := 19) rfl ?_); refine goesL_ (some 16) rfl rfl Tryd.func19 (by kernel_rfl) rfl #[.slice A0 l0.length c0] rfl (Qls) ?_; (with_reducible refine (lampblacklaw02_Few.calls _ _ l0 t561 _ ?side1 ?side2 A3.out).mono ?_); (case side1 => exact Qsc (Kd.C_below HR0.out HB.out)); (case side2 => exact HC0.out); rintro e w222 ⟨v562, rfl, ho0, hb⟩; refine ⟨_, rfl, ?_⟩; have n0_ := Aside0.mk (Kd.R_lower ho0 (below_size (Qag GE560.out))); have n1_ := Aside0.mk (blk_below (g := gb560) (o := .cells #[.slice A1_0 l1_0.length c1_0, .slice A1_1 l1_1.length c1_1] 52 (0, 0)) (Qbl BK560.out) hb); have n2_ := Aside0.mk (below_step (Qag GE560.out) hb); clear BK560; clear HB; have HO563 := n0_; have BK560 := n1_; have HB := n2_; clear n0_ n1_ n2_; (try clear hb); (try clear hb2); (try clear hk); (try clear hi); (try clear ho0); obtain ⟨Ao223, co223, eo223⟩ := Kd.R_slice HO563.out; subst eo223) | ((with_reducible refine gate_callee (f := 52) rfl ?_); refine goesL_ (some 17) rfl rfl Tryd.func52 (by kernel_rfl) rfl #[.slice Ao223 t561.length co223] rfl (Qls) ?_; (with_reducible refine (width_Decompose.calls (hGL := (Qlg)) k _ _ t561 t564 t567 t570 _ ?side1 ?side2 A4.out).mono ?_); (case side1 => exact Qsc (Kd.R_reads' HO563.out).2.2); (case side2 => exact (Kd.R_reads' HO563.out).2.1); rintro e w224 ⟨v565, v568, rfl, ho0, ho1, hb⟩; refine ⟨_, rfl, ?_⟩; have n0_ := Aside0.mk (Kd.R_mono (Kd.R_told (Kd.R_told (Kd.R_old (Qro HO563.out) hb) (Kd.R_base ho0)) (Kd.R_base ho1)) (fun _ h_ => h_.1)); have n1_ := Aside0.mk (Kd.R_lower (Kd.R_new' ho0 (Kd.R_lt (Qro HO563.out))) (below_size (Qag GE560.out))); have n2_ := Aside0.mk (Kd.R_lower (Kd.R_new' ho1 (Kd.R_lt (Qro HO563.out))) (below_size (Qag GE560.out))); have n3_ := Aside0.mk (blk_below (g := gb560) (o := .cells #[.slice A1_0 l1_0.length c1_0, .slice A1_1 l1_1.length c1_1] 52 (0, 0)) (Qbl BK560.out) hb); have n4_ := Aside0.mk (below_step (Qag GE560.out) hb); clear HO563; clear BK560; clear HB; have HO563 := n0_; have HO566 := n1_; have HO569 := n2_; have BK560 := n3_; have HB := n4_; clear n0_ n1_ n2_ n3_ n4_; (try clear hb); (try clear hb2); (try clear hk); (try clear hi); (try clear ho0); (try clear ho1)) | ((with_reducible refine gate_dst (N := 5) rfl ?_); refine box_event ?hg (N := 5) ?hd (cs := #[.slice none 0 0, .slice none 0 0]) (t := 53) ?hr ?_; (case hd => rfl); (case hg => rfl); (case hr => first | (go_simp; done) | (go_simp; rfl)); intro gb571 hg w225 hbox hb; have n0_ := Aside0.mk (Kd.R_below (Qro HO563.out) hb); have n1_ := Aside0.mk (Kd.R_below (Qro HO566.out) hb); have n2_ := Aside0.mk (Kd.R_below (Qro HO569.out) hb); have n3_ := Aside0.mk (blk_below (g := gb560) (o := .cells #[.slice A1_0 l1_0.length c1_0, .slice A1_1 l1_1.length c1_1] 52 (0, 0)) (Qbl BK560.out) hb); have n4_ := Aside0.mk (below_step (Qag GE560.out) hb); have n5_ := Aside0.mk (hbox); have n6_ := Aside0.mk ((by rw [hg]; exact (below_size (Qag GE560.out)) : w.heap.size ≤ gb571)); have n7_ := Aside0.mk ((by rw [hg]; exact (below_size (Qag GE560.out)) : w.heap.size ≤ gb571)); have n8_ := Aside0.mk ((by rw [hg]; exact Nat.ne_of_lt (blk_lt (g := gb560) (o := .cells #[.slice A1_0 l1_0.length c1_0, .slice A1_1 l1_1.length c1_1] 52 (0, 0)) (Qbl BK560.out)) : gb560 ≠ gb571)); have n9_ := Aside0.mk ((by rw [hg]; exact Nat.ne_of_gt (blk_lt (g := gb560) (o := .cells #[.slice A1_0 l1_0.length c1_0, .slice A1_1 l1_1.length c1_1] 52 (0, 0)) (Qbl BK560.out)) : gb571 ≠ gb560)); clear HO563; clear HO566; clear HO569; clear BK560; clear HB; have HO563 := n0_; have HO566 := n1_; have HO569 := n2_; have BK560 := n3_; have HB := n4_; have BK571 := n5_; have GW571 := n6_; have GE571 := n7_; have NB560_571 := n8_; have NB571_560 := n9_; clear n0_ n1_ n2_ n3_ n4_ n5_ n6_ n7_ n8_ n9_; clear hb hbox hg; obtain ⟨Ao226, co226, eo226⟩ := Kd.R_slice HO566.out; subst eo226; have hnb227 := NB571_560.out; have hnc227 := NB560_571.out; have hcz228_0 : w225.cell? ⟨gb571, 0, none⟩ = some (.slice none 0 0) := (blk_cell BK571.out 0).trans rfl; have hcz228_1 : w225.cell? ⟨gb571, 1, none⟩ = some (.slice none 0 0) := (blk_cell BK571.out 1).trans rfl; have hfz228_0 := blk_frozen BK571.out 0; have hfz228_1 := blk_frozen BK571.out 1; obtain ⟨Ao229, co229, eo229⟩ := Kd.R_slice HO569.out; subst eo229))
       have n0_ : Aside0 (Kd.R (Kd.int .i64) 3 ((w225.setCell ⟨gb571, 0, none⟩ (.slice Ao226 t564.length co226)).setCell ⟨gb571, 1, none⟩ (.slice Ao229 t567.length co229)) w.heap.size (fun k_ => some k_ ≠ (.slice Ao226 t564.length co226 : Value).ownBlock ∧ some k_ ≠ (.slice Ao229 t567.length co229 : Value).ownBlock) (.slice Ao223 t561.length co223) t561) := ⟨by (with_reducible repeat (first | apply Kd.R_alloc | apply Kd.R_drewN | apply Kd.R_drew)); exact Kd.R_mono (Kd.R_far (p := ⟨gb571, 1, none⟩) (Kd.R_far (p := ⟨gb571, 0, none⟩) (Kd.R_types HO563.out BK571.out (by decide)) (fun _ hk => hk.2) (.slice Ao226 t564.length co226)) (fun _ hk => hk.2) (.slice Ao229 t567.length co229)) (fun _ hk => ⟨hk.1.1.2, hk.1.2⟩)⟩
       have n1_ : Aside0 (Kd.R (Kd.int .i64) 3 ((w225.setCell ⟨gb571, 0, none⟩ (.slice Ao226 t564.length co226)).setCell ⟨gb571, 1, none⟩ (.slice Ao229 t567.length co229)) w.heap.size (fun k_ => some k_ ≠ (.slice Ao223 t561.length co223 : Value).ownBlock ∧ some k_ ≠ (.slice Ao229 t567.length co229 : Value).ownBlock) (.slice Ao226 t564.length co226) t564) := ⟨by (with_reducible repeat (first | apply Kd.R_alloc | apply Kd.R_drewN | apply Kd.R_drew)); exact Kd.R_mono (Kd.R_far (p := ⟨gb571, 1, none⟩) (Kd.R_far (p := ⟨gb571, 0, none⟩) (Kd.R_types HO566.out BK571.out (by decide)) (fun _ hk => hk.2) (.slice Ao226 t564.length co226)) (fun _ hk => hk.2) (.slice Ao229 t567.length co229)) (fun _ hk => ⟨hk.1.2, hk.1.1⟩)⟩
       have n2_ : Aside0 (Kd.R (Kd.int .i64) 3 ((w225.setCell ⟨gb571, 0, none⟩ (.slice Ao226 t564.length co226)).setCell ⟨gb571, 1, none⟩ (.slice Ao229 t567.length co229)) w.heap.size (fun k_ => some k_ ≠ (.slice Ao223 t561.length co223 : Value).ownBlock ∧ some k_ ≠ (.slice Ao226 t564.length co226 : Value).ownBlock) (.slice Ao229 t567.length co229) t567) := ⟨by (with_reducible repeat (first | apply Kd.R_alloc | apply Kd.R_drewN | apply Kd.R_drew)); exact Kd.R_mono (Kd.R_far (p := ⟨gb571, 1, none⟩) (Kd.R_far (p := ⟨gb571, 0, none⟩) (Kd.R_types HO569.out BK571.out (by decide)) (fun _ hk => hk.2) (.slice Ao226 t564.length co226)) (fun _ hk => hk.2) (.slice Ao229 t567.length co229)) (fun _ hk => ⟨hk.1.2, hk.1.1⟩)⟩
       have n3_ : Aside0 (((w225.setCell ⟨gb571, 0, none⟩ (.slice Ao226 t564.length co226)).setCell ⟨gb571, 1, none⟩ (.slice Ao229 t567.length co229)).heap[gb560]? = some (.cells #[.slice A1_0 l1_0.length c1_0, .slice A1_1 l1_1.length c1_1] 52 (0, 0))) := ⟨by (with_reducible repeat (first | refine blk_drewN ?_ _ | refine blk_drew ?_ | refine blk_alloc ?_ _)); refine blk_far ?_ NB560_571.out _; (with_reducible repeat (first | refine blk_drewN ?_ _ | refine blk_drew ?_ | refine blk_alloc ?_ _)); refine blk_far ?_ NB560_571.out _; (with_reducible repeat (first | refine blk_drewN ?_ _ | refine blk_drew ?_ | refine blk_alloc ?_ _)); exact BK560.out⟩
       have n4_ : Aside0 (((w225.setCell ⟨gb571, 0, none⟩ (.slice Ao226 t564.length co226)).setCell ⟨gb571, 1, none⟩ (.slice Ao229 t567.length co229)).heap[gb571]? = some (.cells #[.slice Ao226 t564.length co226, .slice Ao229 t567.length co229] 53 (0, 0))) := ⟨by (with_reducible repeat (first | refine blk_drewN ?_ _ | refine blk_drew ?_ | refine blk_alloc ?_ _)); refine blk_put (cs := #[.slice Ao226 t564.length co226, .slice none 0 0]) ?_ 1 _ rfl; (with_reducible repeat (first | refine blk_drewN ?_ _ | refine blk_drew ?_ | refine blk_alloc ?_ _)); refine blk_put (cs := #[.slice none 0 0, .slice none 0 0]) ?_ 0 _ rfl; (with_reducible repeat (first | refine blk_drewN ?_ _ | refine blk_drew ?_ | refine blk_alloc ?_ _)); exact BK571.out⟩
       have n5_ : Aside0 (Below w.heap.size w ((w225.setCell ⟨gb571, 0, none⟩ (.slice Ao226 t564.length co226)).setCell ⟨gb571, 1, none⟩ (.slice Ao229 t567.length co229))) := ⟨by repeat (first | (with_reducible first | exact HB.out | apply below_alloc | apply pw_below_drewN | apply below_drew1 | refine below_set ?_ GE560.out | refine below_set ?_ GE571.out) | exact HB.out)⟩
       (try clear HO563)
       (try clear HO566)
       (try clear HO569)
       (try clear BK560)
       (try clear BK571)
       (try clear HB)
       generalize ((w225.setCell ⟨gb571, 0, none⟩ (.slice Ao226 t564.length co226)).setCell ⟨gb571, 1, none⟩ (.slice Ao229 t567.length co229)) = w230 at n0_ n1_ n2_ n3_ n4_ n5_ ⊢
       have HO563 := n0_
       have HO566 := n1_
       have HO569 := n2_
       have BK560 := n3_
       have BK571 := n4_
       have HB := n5_
       clear n0_ n1_ n2_ n3_ n4_ n5_
       have n0_ := Aside0.mk (Kd.R_drew HO563.out)
       have n1_ := Aside0.mk (Kd.R_drew HO566.out)
       have n2_ := Aside0.mk (Kd.R_drew HO569.out)
       have n3_ := Aside0.mk (blk_drew BK560.out)
       have n4_ := Aside0.mk (blk_drew BK571.out)
       have n5_ := Aside0.mk (below_drew1 HB.out)
       clear HO563
       clear HO566
       clear HO569
       clear BK560
       clear BK571
       clear HB
       have HO563 := n0_
       have HO566 := n1_
       have HO569 := n2_
       have BK560 := n3_
       have BK571 := n4_
       have HB := n5_
       clear n0_ n1_ n2_ n3_ n4_ n5_
       refine start_ (n := 12) (S := fun w' => w'.cell? ⟨gb560, 0, none⟩ = some (.slice A1_0 l1_0.length c1_0) ∧ w'.cell? ⟨gb560, 1, none⟩ = some (.slice A1_1 l1_1.length c1_1)) (ds := []) (Qbz 12 0) (by kernel_rfl) rfl rfl ⟨(blk_cell BK560.out 0).trans rfl, (blk_cell BK560.out 1).trans rfl⟩ (fun hHeld => ?_); refine with_tabW lampblacklaw02_WidthTrees.tab2 lampblacklaw02_WidthTrees.bits2 (fun HT_ HW_ => ?_)
       generalize w230.drew = w231 at HO563 HO566 HO569 BK560 BK571 HB hHeld ⊢
       refine pure_ (i := 0) (N := some 21) (v := ?_) (a' := ?_) (Qbz 12 1) rfl rfl (Qao) (fun _ _ _ h => h) (Or.inl ⟨by rfl, ?_⟩) ?_ ?_
       rotate_left
       ·intro w'
        go_simp
        with_reducible rfl
       rotate_left
       ·simp only [Act.put, Qp1, Qp2, Qp3, i64_w, i32_w]
        rfl
       refine take_ (i := 2) (N := some 23) (v := ?_) (a' := ?_) (Qbz 12 5) rfl rfl (take_ofW HT_.out HW_.out (by kernel_rfl)) (fun _ _ _ h => h) (Or.inl ⟨by rfl, ?_⟩) hHeld ?_ ?_
       rotate_left
       ·rintro w' ⟨s0, s1⟩
        go_simp
        with_reducible rfl
       rotate_left
       ·simp only [Act.put, Qp1, Qp2, Qp3, i64_w, i32_w]
        rfl
       refine one_ (i := 1) (N := some 22) (Qbz 12 7) rfl rfl (one_of HT_.out (by kernel_rfl)) (by decide) (fun K hK => ?_)
       refine goes_ Tryd.func19 (by kernel_rfl) rfl #[.slice A0 l0.length c0] (by rfl) rfl rfl (Qls) ?_
       with_reducible refine (lampblacklaw02_Few.calls _ _ l0 t572 _ ?side1 ?side2 A5.out).mono ?_
       (case side1 => exact Qsc (Kd.C_below HR0.out HB.out))
       (case side2 => exact HC0.out)
       rintro e w232 ⟨v573, rfl, ho0, hb⟩
       refine ⟨_, rfl, ?_⟩
       have n0_ := Aside0.mk (Kd.R_elder' (Qro HO563.out) (Kd.R_base ho0) hb)
       have n1_ := Aside0.mk (Kd.R_elder' (Qro HO566.out) (Kd.R_base ho0) hb)
       have n2_ := Aside0.mk (Kd.R_elder' (Qro HO569.out) (Kd.R_base ho0) hb)
       have n3_ := Aside0.mk (Kd.R_lower (Kd.R_new' (Kd.R_new' (Kd.R_new' ho0 (Kd.R_lt (Qro HO563.out))) (Kd.R_lt (Qro HO566.out))) (Kd.R_lt (Qro HO569.out))) (below_size (Qah GE560.out GE571.out)))
       have n4_ := Aside0.mk (blk_below (g := gb560) (o := .cells #[.slice A1_0 l1_0.length c1_0, .slice A1_1 l1_1.length c1_1] 52 (0, 0)) (Qbl BK560.out) hb)
       have n5_ := Aside0.mk (blk_below (g := gb571) (o := .cells #[.slice Ao226 t564.length co226, .slice Ao229 t567.length co229] 53 (0, 0)) (Qbl BK571.out) hb)
       have n6_ := Aside0.mk (below_step (Qah GE560.out GE571.out) hb)
       clear HO563
       clear HO566
       clear HO569
       clear BK560
       clear BK571
       clear HB
       have HO563 := n0_
       have HO566 := n1_
       have HO569 := n2_
       have HO574 := n3_
       have BK560 := n4_
       have BK571 := n5_
       have HB := n6_
       clear n0_ n1_ n2_ n3_ n4_ n5_ n6_
       (try clear hb)
       (try clear hb2)
       (try clear hk)
       (try clear hi)
       (try clear ho0)
       refine hK.out _ _ ⟨(blk_cell BK560.out 0).trans rfl, (blk_cell BK560.out 1).trans rfl⟩ (fun hHeld => ?_)
       clear hK K
       refine norm_ (a' := ?_) ?_ ?_
       rotate_left
       ·show Act.put _ (some 22) _ = _
        simp only [Act.put, Qp1, Qp2, Qp3, i64_w, i32_w]
        rfl
       refine one_ (i := 3) (N := some 24) (Qbz 12 15) rfl rfl (one_of HT_.out (by kernel_rfl)) (by decide) (fun K hK => ?_)
       refine goes_ Tryd.func44 (by kernel_rfl) rfl #[.agg #[.slice A1_0 l1_0.length c1_0, .slice A1_1 l1_1.length c1_1]] (by rfl) rfl rfl (Qls) ?_
       with_reducible refine (lampblacklaw02_Of.calls _ _ l1_0 _ _ l1_1 t575 t578 _ ?side1 ?side2 ?side3 ?side4 A6.out).mono ?_
       (case side1 => exact Qsc (Kd.C_below HR1_0.out HB.out))
       (case side2 => exact HC1_0.out)
       (case side3 => exact Qsc (Kd.C_below HR1_1.out HB.out))
       (case side4 => exact HC1_1.out)
       rintro e w233 ⟨v576, v579, rfl, ho0, ho1, hb⟩
       refine ⟨_, rfl, ?_⟩
       have n0_ := Aside0.mk (Kd.R_mono (Kd.R_told (Kd.R_told (Kd.R_old (Qro HO563.out) hb) (Kd.R_base ho0)) (Kd.R_base ho1)) (fun _ h_ => h_.1))
       have n1_ := Aside0.mk (Kd.R_mono (Kd.R_told (Kd.R_told (Kd.R_old (Qro HO566.out) hb) (Kd.R_base ho0)) (Kd.R_base ho1)) (fun _ h_ => h_.1))
       have n2_ := Aside0.mk (Kd.R_mono (Kd.R_told (Kd.R_told (Kd.R_old (Qro HO569.out) hb) (Kd.R_base ho0)) (Kd.R_base ho1)) (fun _ h_ => h_.1))
       have n3_ := Aside0.mk (Kd.R_mono (Kd.R_told (Kd.R_told (Kd.R_old (Qro HO574.out) hb) (Kd.R_base ho0)) (Kd.R_base ho1)) (fun _ h_ => h_.1))
       have n4_ := Aside0.mk (Kd.R_lower (Kd.R_new' (Kd.R_new' (Kd.R_new' (Kd.R_new' ho0 (Kd.R_lt (Qro HO563.out))) (Kd.R_lt (Qro HO566.out))) (Kd.R_lt (Qro HO569.out))) (Kd.R_lt (Qro HO574.out))) (below_size (Qah GE560.out GE571.out)))
       have n5_ := Aside0.mk (Kd.R_lower (Kd.R_new' (Kd.R_new' (Kd.R_new' (Kd.R_new' ho1 (Kd.R_lt (Qro HO563.out))) (Kd.R_lt (Qro HO566.out))) (Kd.R_lt (Qro HO569.out))) (Kd.R_lt (Qro HO574.out))) (below_size (Qah GE560.out GE571.out)))
       have n6_ := Aside0.mk (blk_below (g := gb560) (o := .cells #[.slice A1_0 l1_0.length c1_0, .slice A1_1 l1_1.length c1_1] 52 (0, 0)) (Qbl BK560.out) hb)
       have n7_ := Aside0.mk (blk_below (g := gb571) (o := .cells #[.slice Ao226 t564.length co226, .slice Ao229 t567.length co229] 53 (0, 0)) (Qbl BK571.out) hb)
       have n8_ := Aside0.mk (below_step (Qah GE560.out GE571.out) hb)
       clear HO563
       clear HO566
       clear HO569
       clear HO574
       clear BK560
       clear BK571
       clear HB
       have HO563 := n0_
       have HO566 := n1_
       have HO569 := n2_
       have HO574 := n3_
       have HO577 := n4_
       have HO580 := n5_
       have BK560 := n6_
       have BK571 := n7_
       have HB := n8_
       clear n0_ n1_ n2_ n3_ n4_ n5_ n6_ n7_ n8_
       (try clear hb)
       (try clear hb2)
       (try clear hk)
       (try clear hi)
       (try clear ho0)
       (try clear ho1)
       obtain ⟨Ao234, co234, eo234⟩ := Kd.R_slice HO574.out
       (first | subst eo234 | (injection eo234 with f1_ f2_ f3_; have f4_ := f1_.symm; have f5_ := f3_.symm; clear f1_ f2_ f3_; subst f4_; subst f5_))
       obtain ⟨Ao235, co235, eo235⟩ := Kd.R_slice HO577.out
       (first | subst eo235 | (injection eo235 with f1_ f2_ f3_; have f4_ := f1_.symm; have f5_ := f3_.symm; clear f1_ f2_ f3_; subst f4_; subst f5_))
       obtain ⟨Ao236, co236, eo236⟩ := Kd.R_slice HO580.out
       (first | subst eo236 | (injection eo236 with f1_ f2_ f3_; have f4_ := f1_.symm; have f5_ := f3_.symm; clear f1_ f2_ f3_; subst f4_; subst f5_))
       refine hK.out _ _ ⟨(blk_cell BK560.out 0).trans rfl, (blk_cell BK560.out 1).trans rfl⟩ (fun hHeld => ?_)
       clear hK K
       refine norm_ (a' := ?_) ?_ ?_
       rotate_left
       ·show Act.put _ (some 24) _ = _
        simp only [Act.put, Qp1, Qp2, Qp3, i64_w, i32_w]
        rfl
       refine one_ (i := 4) (N := some 25) (Qbz 12 31) rfl rfl (one_of HT_.out (by kernel_rfl)) (by decide) (fun K hK => ?_)
       refine goes_ Tryd.func50 (by kernel_rfl) rfl #[.slice Ao234 t572.length co234, .agg #[.slice Ao235 t575.length co235, .slice Ao236 t578.length co236]] (by rfl) rfl rfl (Qls) ?_
       with_reducible refine (width_Check.calls (hGL := (Qlg)) k _ _ t572 _ _ t575 _ _ t578 t581 false t583 _ ?side1 ?side2 ?side3 ?side4 ?side5 ?side6 A7.out).mono ?_
       (case side1 => exact Qsc (Kd.R_reads' HO574.out).2.2)
       (case side2 => exact (Kd.R_reads' HO574.out).2.1)
       (case side3 => exact Qsc (Kd.R_reads' HO577.out).2.2)
       (case side4 => exact (Kd.R_reads' HO577.out).2.1)
       (case side5 => exact Qsc (Kd.R_reads' HO580.out).2.2)
       (case side6 => exact (Kd.R_reads' HO580.out).2.1)
       rintro e w237 ⟨rfl, hb⟩
       refine ⟨_, rfl, ?_⟩
       have n0_ := Aside0.mk (Kd.R_below (Qro HO563.out) hb)
       have n1_ := Aside0.mk (Kd.R_below (Qro HO566.out) hb)
       have n2_ := Aside0.mk (Kd.R_below (Qro HO569.out) hb)
       have n3_ := Aside0.mk (Kd.R_below (Qro HO574.out) hb)
       have n4_ := Aside0.mk (Kd.R_below (Qro HO577.out) hb)
       have n5_ := Aside0.mk (Kd.R_below (Qro HO580.out) hb)
       have n6_ := Aside0.mk (blk_below (g := gb560) (o := .cells #[.slice A1_0 l1_0.length c1_0, .slice A1_1 l1_1.length c1_1] 52 (0, 0)) (Qbl BK560.out) hb)
       have n7_ := Aside0.mk (blk_below (g := gb571) (o := .cells #[.slice Ao226 t564.length co226, .slice Ao229 t567.length co229] 53 (0, 0)) (Qbl BK571.out) hb)
       have n8_ := Aside0.mk (below_step (Qah GE560.out GE571.out) hb)
       clear HO563
       clear HO566
       clear HO569
       clear HO574
       clear HO577
       clear HO580
       clear BK560
       clear BK571
       clear HB
       have HO563 := n0_
       have HO566 := n1_
       have HO569 := n2_
       have HO574 := n3_
       have HO577 := n4_
       have HO580 := n5_
       have BK560 := n6_
       have BK571 := n7_
       have HB := n8_
       clear n0_ n1_ n2_ n3_ n4_ n5_ n6_ n7_ n8_
       (try clear hb)
       (try clear hb2)
       (try clear hk)
       (try clear hi)
       refine hK.out _ _ ⟨(blk_cell BK560.out 0).trans rfl, (blk_cell BK560.out 1).trans rfl⟩ (fun hHeld => ?_)
       clear hK K
       refine norm_ (a' := ?_) ?_ ?_
       rotate_left
       ·show Act.put _ (some 25) _ = _
        simp only [Act.put, Qp1, Qp2, Qp3, i64_w, i32_w]
        rfl
       refine pure_ (i := 5) (N := some 20) (v := ?_) (a' := ?_) (Qbz 12 63) rfl rfl (Qao) (fun _ _ _ h => h) (Or.inl ⟨by rfl, ?_⟩) ?_ ?_
       rotate_left
       ·intro w'
        go_simp
        with_reducible rfl
       rotate_left
       ·simp only [Act.put, Qp1, Qp2, Qp3, i64_w, i32_w]
        rfl
       refine pure_ (i := 6) (N := some 26) (v := ?_) (a' := ?_) (Qbz 12 127) rfl rfl (Qao) (fun _ _ _ h => h) (Or.inl ⟨by rfl, ?_⟩) ?_ ?_
       rotate_left
       ·intro w'
        go_simp
        with_reducible rfl
       rotate_left
       ·simp only [Act.put, Qp1, Qp2, Qp3, i64_w, i32_w]
        rfl
       refine pure_ (i := 7) (N := some 27) (v := ?_) (a' := ?_) (Qbz 12 255) rfl rfl (Qao) (fun _ _ _ h => h) (Or.inl ⟨by rfl, ?_⟩) ?_ ?_
       rotate_left
       ·intro w'
        go_simp
        with_reducible rfl
       rotate_left
       ·simp only [Act.put, Qp1, Qp2, Qp3, i64_w, i32_w]
        rfl
       refine pure_ (i := 8) (N := some 28) (v := ?_) (a' := ?_) (Qbz 12 511) rfl rfl (Qao) (fun _ _ _ h => h) (Or.inl ⟨by rfl, ?_⟩) ?_ ?_
       rotate_left
       ·intro w'
        go_simp
        with_reducible rfl
       rotate_left
       ·simp only [Act.put, Qp1, Qp2, Qp3, i64_w, i32_w]
        rfl
       refine pure_ (i := 9) (N := some 7) (v := ?_) (a' := ?_) (Qbz 12 1023) rfl rfl (Qao) (fun _ _ _ h => h) (Or.inl ⟨by rfl, ?_⟩) ?_ ?_
       rotate_left
       ·intro w'
        go_simp
        with_reducible rfl
       rotate_left
       ·simp only [Act.put, Qp1, Qp2, Qp3, i64_w, i32_w]
        rfl
       refine pure_ (i := 10) (N := some 8) (v := ?_) (a' := ?_) (Qbz 12 2047) rfl rfl (Qao) (fun _ _ _ h => h) (Or.inl ⟨by rfl, ?_⟩) ?_ ?_
       rotate_left
       ·intro w'
        go_simp
        with_reducible rfl
       rotate_left
       ·simp only [Act.put, Qp1, Qp2, Qp3, i64_w, i32_w]
        rfl
       refine pure_ (i := 11) (N := some 9) (v := ?_) (a' := ?_) (Qbz 12 4095) rfl rfl (Qao) (fun _ _ _ h => h) (Or.inl ⟨by rfl, ?_⟩) ?_ ?_
       rotate_left
       ·intro w'
        go_simp
        with_reducible rfl
       rotate_left
       ·simp only [Act.put, Qp1, Qp2, Qp3, i64_w, i32_w]
        rfl
       refine done_ (done_of HT_.out (by kernel_rfl)) ?_
       try go_wp2_with (first | ((with_reducible refine gate_callee (f := 23) rfl ?_); refine goesL_ (some 30) rfl rfl Tryd.func23 (by kernel_rfl) rfl #[.slice A0 l0.length c0] rfl (Qls) ?_; (with_reducible refine (lampblackref02_Valid.calls k _ _ l0 false _ ?side1 ?side2 A8.out).mono ?_); (case side1 => exact Qsc (Kd.C_below HR0.out HB.out)); (case side2 => exact HC0.out); rintro e w' ⟨rfl, ⟨nd, rfl⟩⟩; refine ⟨_, rfl, ?_⟩; have hcz238_0 : w237.cell? ⟨gb571, 0, none⟩ = some (.slice Ao226 t564.length co226) := (blk_cell BK571.out 0).trans rfl; have hcz238_1 : w237.cell? ⟨gb571, 1, none⟩ = some (.slice Ao229 t567.length co229) := (blk_cell BK571.out 1).trans rfl; have hfz238_0 := blk_frozen BK571.out 0; have hfz238_1 := blk_frozen BK571.out 1) | ((with_reducible refine gate_callee (f := 46) rfl ?_); refine goesL_ (some 33) rfl rfl Tryd.func46 (by kernel_rfl) rfl #[.agg #[.slice Ao226 t564.length co226, .slice Ao229 t567.length co229]] rfl (Qls) ?_; (with_reducible refine (lampblacklaw02_none.calls _ _ t564 _ _ t567 true _ ?side1 ?side2 ?side3 ?side4 A195.out).mono ?_); (case side1 => exact Qsc (Kd.R_reads' HO566.out).2.2); (case side2 => exact (Kd.R_reads' HO566.out).2.1); (case side3 => exact Qsc (Kd.R_reads' HO569.out).2.2); (case side4 => exact (Kd.R_reads' HO569.out).2.1); rintro e w239 ⟨rfl, hb⟩; refine ⟨_, rfl, ?_⟩; have n0_ := Aside0.mk (Kd.R_below (Qro HO563.out) hb); have n1_ := Aside0.mk (Kd.R_below (Qro HO566.out) hb); have n2_ := Aside0.mk (Kd.R_below (Qro HO569.out) hb); have n3_ := Aside0.mk (Kd.R_below (Qro HO574.out) hb); have n4_ := Aside0.mk (Kd.R_below (Qro HO577.out) hb); have n5_ := Aside0.mk (Kd.R_below (Qro HO580.out) hb); have n6_ := Aside0.mk (blk_below (g := gb560) (o := .cells #[.slice A1_0 l1_0.length c1_0, .slice A1_1 l1_1.length c1_1] 52 (0, 0)) (Qbl BK560.out) hb); have n7_ := Aside0.mk (blk_below (g := gb571) (o := .cells #[.slice Ao226 t564.length co226, .slice Ao229 t567.length co229] 53 (0, 0)) (Qbl BK571.out) hb); have n8_ := Aside0.mk (below_step (Qah GE560.out GE571.out) hb); clear HO563; clear HO566; clear HO569; clear HO574; clear HO577; clear HO580; clear BK560; clear BK571; clear HB; have HO563 := n0_; have HO566 := n1_; have HO569 := n2_; have HO574 := n3_; have HO577 := n4_; have HO580 := n5_; have BK560 := n6_; have BK571 := n7_; have HB := n8_; clear n0_ n1_ n2_ n3_ n4_ n5_ n6_ n7_ n8_; (try clear hb); (try clear hb2); (try clear hk); (try clear hi)) | (go_at_call 20; (with_reducible refine (lampblacklaw02_awake.calls (hGL := (Qlg)) k  t586 _ A220.out).mono ?_); rintro e w240 ⟨rfl, hb⟩; have n0_ := Aside0.mk (Kd.R_below (Qro HO563.out) hb); have n1_ := Aside0.mk (Kd.R_below (Qro HO566.out) hb); have n2_ := Aside0.mk (Kd.R_below (Qro HO569.out) hb); have n3_ := Aside0.mk (Kd.R_below (Qro HO574.out) hb); have n4_ := Aside0.mk (Kd.R_below (Qro HO577.out) hb); have n5_ := Aside0.mk (Kd.R_below (Qro HO580.out) hb); have n6_ := Aside0.mk (blk_below (g := gb560) (o := .cells #[.slice A1_0 l1_0.length c1_0, .slice A1_1 l1_1.length c1_1] 52 (0, 0)) (Qbl BK560.out) hb); have n7_ := Aside0.mk (blk_below (g := gb571) (o := .cells #[.slice Ao226 t564.length co226, .slice Ao229 t567.length co229] 53 (0, 0)) (Qbl BK571.out) hb); have n8_ := Aside0.mk (below_step (Qah GE560.out GE571.out) hb); clear HO563; clear HO566; clear HO569; clear HO574; clear HO577; clear HO580; clear BK560; clear BK571; clear HB; have HO563 := n0_; have HO566 := n1_; have HO569 := n2_; have HO574 := n3_; have HO577 := n4_; have HO580 := n5_; have BK560 := n6_; have BK571 := n7_; have HB := n8_; clear n0_ n1_ n2_ n3_ n4_ n5_ n6_ n7_ n8_; (try clear hb); (try clear hb2); (try clear hk); (try clear hi)))
       go_ret
       exact ⟨by first | rfl | (simp [errW_none, errW_some] <;> rfl) | (simp [*, errW_none, errW_some] <;> rfl), by repeat (first | (with_reducible first | exact HB.out | apply below_alloc | apply pw_below_drewN | apply below_drew1 | refine below_set ?_ GE560.out | refine below_set ?_ GE571.out) | exact HB.out)⟩
      ·rw [if_neg c219] at H
       have c219b0 : (t583 == 2) = false := beq_eq_false_iff_ne.mpr c219
       have c219b1 : (t583 != 2) = true := bne_iff_ne.mpr c219
       exact absurd ((Option.some.inj H).trans HRT.out) (by decide)
     ·rw [if_neg c218] at H
      have c218b0 : (t570 == 2) = false := beq_eq_false_iff_ne.mpr c218
      have c218b1 : (t570 != 2) = true := bne_iff_ne.mpr c218
      exact absurd ((Option.some.inj H).trans HRT.out) (by decide)
   ·rw [if_neg c197] at H
    have c197b0 : (t581 == 0) = false := beq_eq_false_iff_ne.mpr c197
    have c197b1 : (t581 != 0) = true := bne_iff_ne.mpr c197
    exact absurd ((Option.some.inj H).trans HRT.out) (by decide)
  ·replace c196 := Bool.eq_false_iff.mpr c196
   subst c196
   have H1 : (some false) = some r := by rw [if_neg (show ¬ (false = true) by decide)] at H; exact H
   clear H
   have H := H1
   clear H1
   exact absurd ((Option.some.inj H).trans HRT.out) (by decide)
end
end Go.Proofs.YtoffehihicabcaaDoor.X
end
section
namespace Go.Proofs.YtoffehihicabcaaDoor.X
open Go.RowKit YtoffehihicabcaaDoorW.PrintWords YtoffehihicabcaaDoorW.PrintLast YtoffehihicabcaaDoorW.PrintMore YtoffehihicabcaaDoor.T
theorem isGraph_l1 (m : Nat) (g : List Int) (hn : g.length ≤ 13) (i : Nat) (hi : i < g.length) (r : Bool)
  (hrest : Ev (fun k => lampblackref01_IsGraph.l0 k g (m : Int) g (g.length : Int) ((i + 1 : Nat) : Int)) r) :
  ∀ d j, j + d = g.length → Ev (fun k => lampblackref01_IsGraph.l1 k g (m : Int) (i : Int) (rd g (i : Int)) g (g.length : Int) (i : Int) (g.length : Int) (j : Int))
   (allFrom (fun j => decide (ibit (rd g (i : Int)) j = ibit (rd g (j : Int)) i)) g.length d j && r) := by
 intro d
 induction d with
 | zero =>
  intro j hj
  refine Ev.step (fun k => ?_) hrest
  rw [lampblackref01_IsGraph.l1, if_neg (by omega), wrap_succ i (by omega)]
 | succ d ih =>
  intro j hj
  simp only [allFrom]
  by_cases hb : ibit (rd g (i : Int)) j = ibit (rd g (j : Int)) i
  ·refine Ev.step (f := fun k => lampblackref01_IsGraph.l1 k g (m : Int) (i : Int) (rd g (i : Int)) g (g.length : Int) (i : Int) (g.length : Int) ((j + 1 : Nat) : Int)) (fun k => ?_) ?_
   ·rw [lampblackref01_IsGraph.l1, if_pos (by omega), if_pos (by omega), if_pos (by omega), if_pos (by omega), wrap_succ j (by omega)]
    exact if_pos hb
   ·have := ih (j + 1) (by omega)
    simpa [hb] using this
  ·refine Ev.step (f := fun _ => some false) (fun k => ?_) (Ev.some (by simp [hb]))
   rw [lampblackref01_IsGraph.l1, if_pos (by omega), if_pos (by omega), if_pos (by omega), if_pos (by omega)]
   exact if_neg hb
theorem isGraph_l0 (m : Nat) (hm : m ≤ 13) (g : List Int) (h1 : 1 ≤ g.length) (hn : g.length ≤ m) :
  ∀ d i, i + d = g.length → Ev (fun k => lampblackref01_IsGraph.l0 k g (m : Int) g (g.length : Int) (i : Int)) (allFrom (rowOk g) g.length d i) := by
 intro d
 induction d with
 | zero =>
  intro i hi
  refine Ev.step (f := fun _ => some true) (fun k => ?_) (Ev.some (by simp [allFrom]))
  rw [lampblackref01_IsGraph.l0, if_neg (by omega), if_pos (by omega), decide_eq_true (by omega)]
 | succ d ih =>
  intro i hi
  have stop : ∀ k, lampblackref01_IsGraph.j1 (k + 1) g (m : Int) (i : Int) (rd g (i : Int)) g (g.length : Int) (i : Int) true = some false := fun k => by
   rw [lampblackref01_IsGraph.j1, if_pos rfl]
  simp only [allFrom, rowOk]
  by_cases h1' : rd g (i : Int) < 0
  ·refine Ev.step (fun k => ?_) (f := fun k => lampblackref01_IsGraph.j1 k g (m : Int) (i : Int) (rd g (i : Int)) g (g.length : Int) (i : Int) true) ?_
   ·rw [lampblackref01_IsGraph.l0, if_pos (by omega), if_pos (by omega), if_pos (by omega), if_neg (by omega), if_pos h1']
   ·exact Ev.step stop (Ev.some (by simp [h1']))
  ·by_cases h2 : rd g (i : Int) ≥ shl .i64 1 (g.length : Int)
   ·refine Ev.step (fun k => ?_) (f := fun k => lampblackref01_IsGraph.j1 k g (m : Int) (i : Int) (rd g (i : Int)) g (g.length : Int) (i : Int) true) ?_
    ·rw [lampblackref01_IsGraph.l0, if_pos (by omega), if_pos (by omega), if_pos (by omega), if_neg (by omega), if_neg h1', if_pos h2]
    ·exact Ev.step stop (Ev.some (by simp [h2]))
   ·refine Ev.step (fun k => ?_) (f := fun k => lampblackref01_IsGraph.j1 k g (m : Int) (i : Int) (rd g (i : Int)) g (g.length : Int) (i : Int) (ibit (rd g (i : Int)) i == 1)) ?_
    ·rw [lampblackref01_IsGraph.l0, if_pos (by omega), if_pos (by omega), if_pos (by omega), if_neg (by omega), if_neg h1', if_neg h2]
     rfl
    ·by_cases h3 : (ibit (rd g (i : Int)) i == 1) = true
     ·simp only [h3]
      exact Ev.step stop (Ev.some (by simp))
     ·refine Ev.step (fun k => by rw [lampblackref01_IsGraph.j1, if_neg h3]) ?_
      have := isGraph_l1 m g (by omega) i (by omega) _ (ih (i + 1) (by omega)) g.length 0 (by omega)
      have h3' : (ibit (rd g (i : Int)) i == 1) = false := by simpa using h3
      simp only [h1', h2, h3', decide_false, Bool.not_false, Bool.true_and]
      exact this
theorem isGraph_ev (m : Nat) (hm : m ≤ 13) (g : List Int) (hg : g.length < 2 ^ 60) : Ev (fun k => lampblackref01_IsGraph.f k g (m : Int)) (chk m g) := by
 unfold lampblackref01_IsGraph.f
 by_cases h1 : 1 ≤ g.length
 ·by_cases h2 : g.length ≤ m
  ·have := isGraph_l0 m hm g h1 h2 g.length 0 (by omega)
   simpa [chk, h1, h2] using this
  ·refine Ev.step (f := fun k => lampblackref01_IsGraph.j1 k g (m : Int) 0 (rd g 0) g (g.length : Int) 0 true) (fun k => ?_) (Ev.step (f := fun _ => some false) (fun k => ?_) (Ev.some (by simp [chk, h2])))
   ·rw [lampblackref01_IsGraph.l0, if_pos (by omega), if_pos (by omega), if_pos (by omega), if_pos (by omega)]
   ·rw [lampblackref01_IsGraph.j1, if_pos rfl]
 ·refine Ev.step (f := fun _ => some false) (fun k => ?_) (Ev.some (by simp [chk, h1]))
  rw [lampblackref01_IsGraph.l0, if_neg (by omega), if_neg (by omega)]
theorem reached_l1 (m : Nat) (G : List Nat) (hG : Gr m G) (hm : m ≤ 13) (w : Nat) (hw : w < 2 ^ G.length) (c : Nat) (x0 : Nat) (Q : Int → Prop)
  (cont : ∀ x' : Nat, x' < 2 ^ G.length → (∀ j, bset x0 j → bset x' j) → (∀ s, (∀ j, bset x0 j → Con (Adj G) (bset w) s j) → ∀ j, bset x' j → Con (Adj G) (bset w) s j) → (∀ i j, bset x0 i → Adj G i j → bset w j → bset x' j) →
   ∃ r, Ev (fun k => lampblackref01_Reached.l0 k (gi G) (w : Int) (x' : Int) (G.length : Int) ((c + 1 : Nat) : Int)) r ∧ Q r) (hc : c < 2 ^ 50) :
  ∀ d i (x : Nat), i + d = G.length → x < 2 ^ G.length → (∀ j, bset x0 j → bset x j) → (∀ s, (∀ j, bset x0 j → Con (Adj G) (bset w) s j) → ∀ j, bset x j → Con (Adj G) (bset w) s j) →
   (∀ i' j, i' < i → bset x0 i' → Adj G i' j → bset w j → bset x j) →
   ∃ r, Ev (fun k => lampblackref01_Reached.l1 k (gi G) (w : Int) (x : Int) (G.length : Int) (c : Int) (G.length : Int) (i : Int)) r ∧ Q r := by
 have p62 : ∀ y : Nat, y < 2 ^ G.length → y < 2 ^ 62 := fun y hy => Nat.lt_trans hy (Nat.pow_lt_pow_right (by omega) (by have := hG.most; omega))
 have hmost := hG.most
 intro d
 induction d with
 | zero =>
  intro i x hi hx h1 h2 h3
  obtain ⟨r, e1, e2⟩ := cont x hx h1 h2 (fun i' j hi' ha hj => h3 i' j (by have := hG.adj_lt' ha; omega) hi' ha hj)
  refine ⟨r, Ev.step (fun k => ?_) e1, e2⟩
  rw [lampblackref01_Reached.l1, if_neg (by omega), wrap_succ c (by omega)]
 | succ d ih =>
  intro i x hi hx h1 h2 h3
  by_cases hb : x.testBit i = true
  ·have hrow := hG.row i
   have hA : G.getD i 0 &&& w < 2 ^ G.length := Nat.lt_of_le_of_lt Nat.and_le_left hrow
   obtain ⟨r, e1, e2⟩ := ih (i + 1) (x ||| (G.getD i 0 &&& w)) (by omega) (or_lt hx hA) (fun j hj => (or_bset _ _ _).2 (.inl (h1 j hj)))
    (fun s hs j hj => by
     rcases (or_bset _ _ _).1 hj with h | h
     ·exact h2 s hs j h
     ·obtain ⟨ha, hb'⟩ := (and_bset _ _ _).1 h
      exact .step (h2 s hs i hb) ha hb')
    (fun i' j hi' hx0 ha hj => by
     by_cases e : i' = i
     ·subst e; exact (or_bset _ _ _).2 (.inr ((and_bset _ _ _).2 ⟨ha, hj⟩))
     ·exact (or_bset _ _ _).2 (.inl (h3 i' j (by omega) hx0 ha hj)))
   refine ⟨r, Ev.step (fun k => ?_) e1, e2⟩
   rw [lampblackref01_Reached.l1, if_pos (by omega), if_pos (by omega), if_pos ((bit_one x i (p62 x hx) (by omega)).2 hb), if_pos (by rw [gi_length]; omega), rd_gi,
    b_and _ _ (p62 _ hrow) (p62 _ hw), b_or _ _ (p62 _ hx) (p62 _ hA), wrap_succ i (by omega)]
  ·obtain ⟨r, e1, e2⟩ := ih (i + 1) x (by omega) hx h1 h2
    (fun i' j hi' hx0 ha hj => by
     by_cases e : i' = i
     ·subst e; exact (hb (h1 _ hx0)).elim
     ·exact h3 i' j (by omega) hx0 ha hj)
   refine ⟨r, Ev.step (fun k => ?_) e1, e2⟩
   rw [lampblackref01_Reached.l1, if_pos (by omega), if_pos (by omega), if_neg (fun h => hb ((bit_one x i (p62 x hx) (by omega)).1 h)), wrap_succ i (by omega)]
theorem reached_l0 (m : Nat) (G : List Nat) (hG : Gr m G) (hm : m ≤ 13) (w v : Nat) (hw : w < 2 ^ G.length) (hv : v < G.length) :
  ∀ d c (x : Nat), c + d = G.length → x < 2 ^ G.length → bset x v → (∀ j, bset x j → Con (Adj G) (bset w) (bset (2 ^ v)) j) →
   ((∀ i j, bset x i → Adj G i j → bset w j → bset x j) ∨ c + 1 ≤ pc x G.length) →
   ∃ r, Ev (fun k => lampblackref01_Reached.l0 k (gi G) (w : Int) (x : Int) (G.length : Int) (c : Int)) r ∧ r = ((conset G (2 ^ v) w : Nat) : Int) := by
 have hp : 2 ^ v < 2 ^ G.length := Nat.pow_lt_pow_right (by omega) hv
 have hmost := hG.most
 intro d
 induction d with
 | zero =>
  intro c x hc hx hv' h1 h2
  refine ⟨(x : Int), Ev.step (f := fun _ => some (x : Int)) (fun k => ?_) (Ev.some rfl), ?_⟩
  ·rw [lampblackref01_Reached.l0, if_neg (by omega)]
  ·have hcl : ∀ i j, bset x i → Adj G i j → bset w j → bset x j := by
    rcases h2 with h | h
    ·exact h
    ·have := pc_le x G.length; omega
   congr 1
   exact conset_eq hG hp hx (fun j hj => by rw [(two_pow_bit v j).1 hj]; exact hv') h1 hcl
 | succ d ih =>
  intro c x hc hx hv' h1 h2
  obtain ⟨r, e1, e2⟩ := reached_l1 m G hG hm w hw c x (fun r => r = ((conset G (2 ^ v) w : Nat) : Int))
   (fun x' hx' g1 g2 g3 => by
    refine ih (c + 1) x' (by omega) hx' (g1 v hv') (g2 _ h1) ?_
    by_cases hcl : ∀ i j, bset x i → Adj G i j → bset w j → bset x j
    ·-- closed: nothing came
     refine .inl fun i j hi ha hj => ?_
     have key : ∀ u, Con (Adj G) (bset w) (bset x) u → bset x u := fun u hu => by
      induction hu with
      | base h => exact h
      | step _ a b ih => exact hcl _ _ ih a b
     have this : ∀ j, bset x' j → bset x j := fun j hj => key j (g2 (bset x) (fun j hj => .base hj) j hj)
     exact g1 _ (hcl i j (this i hi) ha hj)
    ·right
     have hcount : c + 1 ≤ pc x G.length := h2.resolve_left hcl
     have : ∃ i j, bset x i ∧ Adj G i j ∧ bset w j ∧ ¬ bset x j := Classical.byContradiction fun hno => hcl fun i j a b c => Classical.byContradiction fun h => hno ⟨i, j, a, b, c, h⟩
     obtain ⟨i, j, a, b, c', h⟩ := this
     have hj : x.testBit j = false := by unfold bset at h; simpa using h
     have := pc_lt (x := x) (y := x') j G.length (fun q _ hq => g1 q hq) (hG.adj_lt b) hj (g3 i j a b c')
     omega) (by omega) G.length 0 x (by omega) hx (fun _ h => h) (fun s hs j hj => hs j hj) (fun i' j hi' => by omega)
  refine ⟨r, Ev.step (fun k => ?_) e1, e2⟩
  rw [lampblackref01_Reached.l0, if_pos (by omega), gi_length]
  rfl
theorem reached_ev (m : Nat) (G : List Nat) (hG : Gr m G) (hm : m ≤ 13) (w v : Nat) (hw : w < 2 ^ G.length) (hv : v < G.length) :
  Ev (fun k => lampblackref01_Reached.f k (gi G) (w : Int) (v : Int)) ((conset G (2 ^ v) w : Nat) : Int) := by
 have hp : 2 ^ v < 2 ^ G.length := Nat.pow_lt_pow_right (by omega) hv
 have hmost := hG.most
 have h1 : 1 ≤ pc (2 ^ v) G.length := by
  have := pc_lt (x := 0) (y := 2 ^ v) v G.length (fun j _ h => by simp at h) hv (by simp) ((two_pow_bit v v).2 rfl)
  omega
 obtain ⟨r, e1, e2⟩ := reached_l0 m G hG hm w v hw hv G.length 0 (2 ^ v) (by omega) hp ((two_pow_bit v v).2 rfl) (fun j hj => .base hj) (.inr h1)
 subst e2
 unfold lampblackref01_Reached.f
 refine Ev.if_pos (by omega) ?_
 rw [s_one v (by omega), gi_length]
 exact e1
end Go.Proofs.YtoffehihicabcaaDoor.X
end
section
namespace Go.Proofs.YtoffehihicabcaaDoor.X
open Go.RowKit YtoffehihicabcaaDoorW.PrintWords YtoffehihicabcaaDoorW.PrintLast YtoffehihicabcaaDoorW.PrintMore
attribute [local go_sem] max2_int min2_int max_two min_two max_three min_three max_four min_four
noncomputable section
mutual
def lampblackref02_Connected.j0 : Nat → List Int → Int → Bool → Option (Bool)
 | 0, _, _, _ => none
 | k + 1, x0, x1, x14 => if x14 = true then (some false) else (lampblackref02_Connected.l0 k x0 x1 0)
def lampblackref02_Connected.l0 : Nat → List Int → Int → Int → Option (Bool)
 | 0, _, _, _ => none
 | k + 1, x0, x1, x5 => if 0 ≤ x5 then (if (Go.bits .and .i64 (shr .i64 x1 x5) 1) = 0 then (lampblackref02_Connected.l0 k x0 x1 (wrap64 (x5 + 1))) else ((lampblackref01_Reached.f k x0 x1 x5).bind fun t219 => (some (t219 == x1)))) else (none)
end
def lampblackref02_Connected.f (k : Nat) (l0 : List Int) (a1 : Int) : Option (Bool) := if a1 ≤ 0 then (lampblackref02_Connected.j0 k l0 a1 true) else (lampblackref02_Connected.j0 k l0 a1 (decide (a1 ≥ (shl .i64 1 (l0.length : Int)))))
end
noncomputable section
def lampblackref02_Touch.f (k : Nat) (l0 : List Int) (a1 : Int) (a2 : Int) : Option (Bool) := (lampblackref02_Around.f k l0 a1).bind fun t221 => (some ((Go.bits .and .i64 (Go.bits .or .i64 a1 t221) a2) != 0))
end
noncomputable section
end
end Go.Proofs.YtoffehihicabcaaDoor.X
end
section
namespace Go.Proofs.YtoffehihicabcaaDoor.X
open Go.RowKit YtoffehihicabcaaDoorW.PrintWords YtoffehihicabcaaDoorW.PrintLast YtoffehihicabcaaDoorW.PrintMore YtoffehihicabcaaDoor.T
def low (a : Nat) : Nat := (els a 9).headD 0
theorem size_all : ∀ x : Fin 512, lampblackref02_Size.f 12 (x.val : Int) = some (pc x.val 9 : Int) := by decide +kernel
theorem size_ev (x : Nat) (hx : x < 512) : Ev (fun k => lampblackref02_Size.f k (x : Int)) ((pc x 9 : Nat) : Int) := Ev.of (lampblackref02_Size.mono _) (size_all ⟨x, hx⟩)
theorem refAround_l0 (G : List Nat) (hG : Gr 9 G) (s : Nat) (hs : s < 2 ^ G.length) : ∀ d i, i + d = G.length →
  Ev (fun k => lampblackref02_Around.l0 k (gi G) (s : Int) ((around G s i : Nat) : Int) (G.length : Int) (i : Int)) ((Around G s : Nat) : Int) := by
 have hn := hG.most
 have hbig := big (small G hn hs)
 have hlt : ∀ i, around G s i < 2 ^ G.length := fun i => lt_of_bits fun j hj => by
  obtain ⟨x, _, _, h⟩ := (around_bit G s i j).1 hj; exact hG.adj_lt h
 intro d
 induction d with
 | zero =>
  intro i hi
  obtain rfl : i = G.length := by omega
  exact Ev.step (f := fun _ => some ((around G s G.length : Nat) : Int)) (fun k => by rw [lampblackref02_Around.l0, if_neg (by omega)]) (Ev.some rfl)
 | succ d ih =>
  intro i hi
  refine Ev.step (fun k => ?_) (ih (i + 1) (by omega))
  by_cases hb : s.testBit i = true
  ·rw [lampblackref02_Around.l0, if_pos (by omega), if_pos (by omega), if_pos ((bit_one s i hbig (by omega)).2 hb), if_pos (by rw [gi_length]; omega), rd_gi,
    b_or _ _ (big (small G hn (hlt i))) (big (small G hn (hG.row i))), wrap_succ i (by omega)]
   simp only [around, hb, if_true]
  ·rw [lampblackref02_Around.l0, if_pos (by omega), if_pos (by omega), if_neg (fun h => hb ((bit_one s i hbig (by omega)).1 h)), wrap_succ i (by omega)]
   simp only [around, hb]
   simp
theorem refAround (G : List Nat) (hG : Gr 9 G) (s : Nat) (hs : s < 2 ^ G.length) : Ev (fun k => lampblackref02_Around.f k (gi G) (s : Int)) ((Around G s : Nat) : Int) := by
 have := refAround_l0 G hG s hs G.length 0 (by omega)
 unfold lampblackref02_Around.f
 rw [gi_length]
 exact this
theorem valid_ev (g : List Int) (hg : g.length < 2 ^ 60) : Ev (fun k => lampblackref02_Valid.f k g) (chk 9 g) := by
 unfold lampblackref02_Valid.f
 exact Ev.bind (isGraph_ev 9 (by omega) g hg) (Ev.some rfl)
theorem few_eq (g : List Int) (hg : g.length < 2 ^ 44) : ∃ h, lampblacklaw02_Few.f g = some h ∧ (chk 9 g = true → h = g) ∧ (chk 9 g = false → chk 9 h = false) ∧ h.length ≤ 13 := by
 have hm : mn (g.length : Int) 13 = ((min g.length 13 : Nat) : Int) := mn_nat g.length 13
 refine ⟨g.take (min g.length 13), ?_, ?_, ?_, ?_⟩
 ·unfold lampblacklaw02_Few.f slices_Clone_Graph.f
  simp only [hm, Int.toNat_natCast]
  rw [if_pos (by omega), if_pos (by omega)]
  simp only [Option.bind_some, List.length_nil, List.nil_append]
  rw [if_pos (by rw [List.length_take]; omega)]
  rfl
 ·intro h
  simp only [chk, Bool.and_eq_true, decide_eq_true_eq] at h
  exact List.take_of_length_le (by omega)
 ·intro h
  by_cases hl : g.length ≤ 13
  ·rw [List.take_of_length_le (by omega)]; exact h
  ·unfold chk
   have : ¬ (List.take (min g.length 13) g).length ≤ 9 := by rw [List.length_take]; omega
   rw [decide_eq_false this, Bool.and_false, Bool.false_and]
 ·rw [List.length_take]; omega
end Go.Proofs.YtoffehihicabcaaDoor.X
end
