/- Part 1 of what SweepChecks rests on: contracts of the functions that it reaches, and what they compute, in plain words. -/
import Derived.Test.YtijfddobandcdaaDoorZSweepChecks0
import Derived.ArgAppend
import Derived.OwnWalk
import Derived.Maps.AppendAt
import Derived.Deep.RegionHeld3
import Derived.WalkSpells
section
/- border, count, layout: what they compute, in plain words; Layout, Least, awake, Few. -/
set_option linter.unusedVariables false
namespace Go.Proofs.YtijfddobandcdaaDoor.X
open Go.RowKit Go.Proofs.YtijfddobandcdaaDoorW.PrintWords Go.Proofs.YtijfddobandcdaaDoorW.PrintLast Go.Proofs.YtijfddobandcdaaDoorW.PrintMore Go.Proofs.YtijfddobandcdaaDoor.T

theorem mn_nat (a b : Nat) : mn (a : Int) (b : Int) = ((min a b : Nat) : Int) := by unfold mn; split <;> omega
theorem small (G : List Nat) (h : G.length ≤ 9) {x : Nat} (hx : x < 2 ^ G.length) : x < 512 := Nat.lt_of_lt_of_le hx (show 2 ^ G.length ≤ 2 ^ 9 from Nat.pow_le_pow_right (by omega) h)
theorem big {x : Nat} (h : x < 512) : x < 2 ^ 62 := by omega
theorem ctz_all : ∀ z : Fin 512, 0 < z.val → Lib.ctz 64 z.val < 9 ∧ z.val.testBit (Lib.ctz 64 z.val) = true ∧ rest z.val = diff z.val (2 ^ Lib.ctz 64 z.val) ∧ ∀ j : Fin 9, z.val.testBit j.val = true → Lib.ctz 64 z.val ≤ j.val := by decide +kernel
theorem ctz_bit {z : Nat} (hz : z < 512) (h0 : z ≠ 0) : bset z (Lib.ctz 64 z) := (ctz_all ⟨z, hz⟩ (by show 0 < z; omega)).2.1
theorem rest_diff {z : Nat} (hz : z < 512) (h0 : z ≠ 0) : rest z = diff z (2 ^ Lib.ctz 64 z) := (ctz_all ⟨z, hz⟩ (by show 0 < z; omega)).2.2.1
theorem rest_bset {z : Nat} (hz : z < 512) (h0 : z ≠ 0) (j : Nat) : bset (rest z) j ↔ bset z j ∧ j ≠ Lib.ctz 64 z := by
  rw [rest_diff hz h0, diff_bset, two_pow_bit]
theorem rest_pc {z : Nat} (hz : z < 512) (h0 : z ≠ 0) : pc (rest z) 9 < pc z 9 := by
  have h1 := ctz_bit hz h0
  refine pc_lt (Lib.ctz 64 z) 9 (fun j _ h => ((rest_bset hz h0 j).1 h).1) (bit_lt (n := 9) (by omega) h1) ?_ h1
  have := rest_bset hz h0 (Lib.ctz 64 z)
  cases h : (rest z).testBit (Lib.ctz 64 z)
  · rfl
  · exact ((this.1 h).2 rfl).elim
theorem diff_ne {a b : Nat} : diff a b ≠ 0 ↔ ∃ u, bset a u ∧ ¬ bset b u := by
  constructor
  · intro h
    obtain ⟨i, hi⟩ := Nat.exists_testBit_of_ne_zero h
    exact ⟨i, (diff_bset a b i).1 hi⟩
  · rintro ⟨u, hu⟩ h
    have := (diff_bset a b u).2 hu
    rw [h] at this
    unfold bset at this
    simp at this

theorem count_all : ∀ x : Fin 512, sweep_count.f (x.val : Int) = some (pc x.val 9 : Int) := by decide +kernel
theorem count_eq (x : Nat) (hx : x < 512) : sweep_count.f (x : Int) = some (pc x 9 : Int) := count_all ⟨x, hx⟩

theorem rest_lt' {s n : Nat} (hs5 : s < 512) (h0 : s ≠ 0) (hs : s < 2 ^ n) : rest s < 2 ^ n := lt_of_bits fun j hj => bit_lt hs ((rest_bset hs5 h0 j).1 hj).1
theorem bordTo_eq (G : List Nat) (hG : Gr 7 G) (S : Nat) (hS : S < 2 ^ G.length) : ∀ (k s o : Nat), pc s 9 < k → s < 2 ^ G.length → o < 2 ^ G.length → (∀ j, bset s j → bset S j) →
    ∃ r : Nat, bordTo (gi G) S k s (o : Int) = some (r : Int) ∧ r < 2 ^ G.length ∧ ∀ j, bset r j ↔ bset o j ∨ (bset s j ∧ ∃ u, Adj G j u ∧ ¬ bset S u) := by
  have hn := hG.most
  intro k
  induction k with
  | zero => intro s o h; omega
  | succ k ih =>
    intro s o hk hs ho hsS
    have hs5 := small G (by omega) hs
    by_cases h0 : s = 0
    · subst h0
      refine ⟨o, by rw [bordTo, if_pos rfl], ho, fun j => ⟨.inl, fun h => h.elim id (fun h => ?_)⟩⟩
      have := h.1
      unfold bset at this
      simp at this
    · have hb := ctz_bit hs5 h0
      have hp := rest_pc hs5 h0
      have hr := rest_bset hs5 h0
      have hrl := rest_lt' hs5 h0 hs
      rw [bordTo, if_neg h0]
      generalize Lib.ctz 64 s = v at *
      have hv : v < G.length := bit_lt hs hb
      have hpv : 2 ^ v < 2 ^ G.length := Nat.pow_lt_pow_right (by omega) hv
      have hrow := hG.row v
      rw [if_pos (by rw [gi_length]; omega), rd_gi, b_andNot _ _ (big (small G (by omega) hrow)) (big (small G (by omega) hS)), s_one v (by omega), b_or _ _ (big (small G (by omega) ho)) (big (small G (by omega) hpv))]
      by_cases hd : diff (G.getD v 0) S = 0
      · rw [hd, if_neg (by decide)]
        obtain ⟨r, h1, h2, h3⟩ := ih (rest s) o (by omega) hrl ho (fun j hj => hsS j ((hr j).1 hj).1)
        refine ⟨r, h1, h2, fun j => ?_⟩
        rw [h3, hr]
        constructor
        · rintro (h | ⟨h, h'⟩)
          · exact .inl h
          · exact .inr ⟨h.1, h'⟩
        · rintro (h | ⟨h, u, hu, hu'⟩)
          · exact .inl h
          · refine .inr ⟨⟨h, fun e => ?_⟩, u, hu, hu'⟩
            subst e
            exact (diff_ne.2 ⟨u, hu, hu'⟩ hd).elim
      · have hd' : ((diff (G.getD v 0) S : Nat) : Int) ≠ 0 := by omega
        rw [if_pos (by simpa using hd)]
        obtain ⟨r, h1, h2, h3⟩ := ih (rest s) (o ||| 2 ^ v) (by omega) hrl (or_lt ho hpv) (fun j hj => hsS j ((hr j).1 hj).1)
        refine ⟨r, h1, h2, fun j => ?_⟩
        rw [h3, hr, or_bset, two_pow_bit]
        obtain ⟨u, hu, hu'⟩ := diff_ne.1 hd
        constructor
        · rintro ((h | h) | ⟨h, h'⟩)
          · exact .inl h
          · subst h; exact .inr ⟨hb, u, hu, hu'⟩
          · exact .inr ⟨h.1, h'⟩
        · rintro (h | ⟨h, h'⟩)
          · exact .inl (.inl h)
          · by_cases e : j = v
            · exact .inl (.inr e)
            · exact .inr ⟨⟨h, e⟩, h'⟩
theorem border_eq (G : List Nat) (hG : Gr 7 G) (S : Nat) (hS : S < 2 ^ G.length) : sweep_town_border.f (gi G) (S : Int) = some ((bor G S : Nat) : Int) := by
  have hn := hG.most
  have hS5 := small G (by omega) hS
  unfold sweep_town_border.f
  rw [if_pos (by omega), if_pos (by have := big hS5; omega), Int.toNat_natCast]
  obtain ⟨r, h1, h2, h3⟩ := bordTo_eq G hG S hS 64 S 0 (by have := pc_le S 9; omega) hS (Nat.two_pow_pos _) (fun _ h => h)
  have e : r = bor G S := eq_of_bits fun j => by
    have a := h3 j
    have b := bor_bit hG S j
    unfold bset at *
    rw [a, b]
    simp
  subst e
  exact h1
theorem awake_ev : Ev (fun k => lampblacklaw03_awake.f k) true := by
  exact Ev.of (lampblacklaw03_awake.mono) (k := 40) (by decide +kernel)
theorem valid_ev (g : List Int) (hg : g.length < 2 ^ 60) : Ev (fun k => lampblackref03_Valid.f k g) (chk 7 g) := by
  unfold lampblackref03_Valid.f
  exact Ev.bind (isGraph_ev 7 (by omega) g hg) (Ev.some rfl)
/-- Few hands on a beginning; what is valid it hands on whole, and what isn't stays so. -/
theorem few_eq (g : List Int) (hg : g.length < 2 ^ 44) : ∃ h, lampblacklaw03_Few.f g = some h ∧ (chk 7 g = true → h = g) ∧ (chk 7 g = false → chk 7 h = false) ∧ h.length ≤ 11 := by
  have hm : mn (g.length : Int) 11 = ((min g.length 11 : Nat) : Int) := mn_nat g.length 11
  refine ⟨g.take (min g.length 11), ?_, ?_, ?_, ?_⟩
  · unfold lampblacklaw03_Few.f slices_Clone_Graph.f
    simp only [hm, Int.toNat_natCast]
    rw [if_pos (by omega), if_pos (by omega)]
    simp only [Option.bind_some, List.length_nil, List.nil_append]
    rw [if_pos (by rw [List.length_take]; omega)]
    rfl
  · intro h
    simp only [chk, Bool.and_eq_true, decide_eq_true_eq] at h
    exact List.take_of_length_le (by omega)
  · intro h
    by_cases hl : g.length ≤ 11
    · rw [List.take_of_length_le (by omega)]; exact h
    · unfold chk
      have : ¬ (List.take (min g.length 11) g).length ≤ 7 := by rw [List.length_take]; omega
      rw [decide_eq_false this, Bool.and_false, Bool.false_and]
  · rw [List.length_take]; omega
end Go.Proofs.YtijfddobandcdaaDoor.X
end
section
/- lampblackref03.layouts, by hand: all orders that begin in some way. -/
namespace Go.Proofs.YtijfddobandcdaaDoor.X
open Go.RowKit Go.Proofs.YtijfddobandcdaaDoorW.PrintWords Go.Proofs.YtijfddobandcdaaDoorW.PrintLast Go.Proofs.YtijfddobandcdaaDoorW.PrintMore Go.Proofs.YtijfddobandcdaaDoor.T
attribute [local go_sem] max2_int min2_int max_two min_two max_three min_three max_four min_four
set_option linter.unusedVariables false
set_option linter.unusedSimpArgs false

/-- The rows of a slice of slices: each is a row of its own, in a block from B on. -/
def Rows (B : Nat) (W : World) (rows : List Value) (Ls : List (List Int)) : Prop := rows.length = Ls.length ∧ ∀ (i : Nat) (L : List Int), Ls[i]? = some L → ∃ v, rows[i]? = some v ∧ W.ownsRow B 3 1 v L.length (L.map (Value.int .i64))
theorem Rows.append {B : Nat} {W : World} {r1 r2 : List Value} {L1 L2 : List (List Int)} (h1 : Rows B W r1 L1) (h2 : Rows B W r2 L2) : Rows B W (r1 ++ r2) (L1 ++ L2) := by
  refine ⟨by simp [h1.1, h2.1], fun i L hL => ?_⟩
  by_cases hi : i < L1.length
  · rw [List.getElem?_append_left hi] at hL
    rw [List.getElem?_append_left (by rw [h1.1]; exact hi)]
    exact h1.2 i L hL
  · rw [List.getElem?_append_right (by omega)] at hL
    rw [List.getElem?_append_right (by rw [h1.1]; omega), h1.1]
    exact h2.2 _ L hL
theorem Rows.imp {B : Nat} {W V : World} {rows : List Value} {Ls : List (List Int)} (h : Rows B W rows Ls) (hk : ∀ (v : Value) (L : List Int), W.ownsRow B 3 1 v L.length (L.map (Value.int .i64)) → V.ownsRow B 3 1 v L.length (L.map (Value.int .i64))) : Rows B V rows Ls :=
  ⟨h.1, fun i L hL => by obtain ⟨v, h1, h2⟩ := h.2 i L hL; exact ⟨v, h1, hk v L h2⟩⟩
theorem ownsRow_below {W V : World} {base : Nat} {e : TypeId} {size : Nat} {v : Value} {k : Nat} {xs : List Value} (h : W.ownsRow base e size v k xs) (hb : Below W.heap.size W V) : V.ownsRow base e size v k xs := by
  obtain ⟨h1, h2⟩ := h
  refine ⟨h1, ?_⟩
  rcases h2 with h2 | ⟨g, cap, cur, e1, hb1, hg, r⟩
  · exact .inl h2
  · exact .inr ⟨g, cap, cur, e1, hb1, (hb.block g (Array.getElem?_eq_some_iff.1 hg).1).trans hg, r⟩
/-- A turn of a row of another type leaves a row as it is. -/
theorem ownsRow_other {W V : World} {base base2 : Nat} {e e2 : TypeId} {size size2 : Nat} {v v2 : Value} {k k2 : Nat} {xs ys : List Value} (h : W.ownsRow base e size v k xs) (h2 : W.ownsRow base2 e2 size2 v2 k2 ys) (hne : e ≠ e2) (hg : W.grownBy V v2.ownBlock) : V.ownsRow base e size v k xs := by
  refine h.kept hg ?_
  rcases h.2 with ⟨rfl, _⟩ | ⟨g, cap, cur, rfl, _, hgb, _⟩
  · exact .inl rfl
  · refine .inr fun e' => ?_
    rcases h2.2 with ⟨rfl, _⟩ | ⟨g2, cap2, cur2, rfl, _, hgb2, _⟩
    · simp [Value.ownBlock] at e'
    · obtain rfl : g = g2 := by simpa [Value.ownBlock] using e'
      rw [hgb] at hgb2
      cases hgb2
      exact hne rfl
theorem ownsRow_reads {W : World} {base : Nat} {A : Option Addr} {cap : Nat} {l : List Int} (h : W.ownsRow base 3 1 (.slice A l.length cap) l.length (l.map (Value.int .i64))) : l.length ≤ cap ∧ (A = none → l.length = 0 ∧ cap = 0) ∧ ∀ (i : Nat), i < l.length → ∃ ad, A = some ad ∧ W.cell? (ad.add i) = some (.int .i64 (rd l (i : Int))) := by
  rcases h.2 with ⟨e, h0⟩ | ⟨g, cap', cur, e, _, hg, h1, _, h3, h4⟩
  · injection e with e1 e2 e3
    subst e1 e3
    exact ⟨by omega, fun _ => ⟨h0, rfl⟩, fun i hi => by omega⟩
  · injection e with e1 e2 e3
    subst e1 e3
    refine ⟨h1, (fun e => by cases e), fun i hi => ⟨_, rfl, ?_⟩⟩
    have h5 : (l.map (Value.int .i64))[i]? = some (.int .i64 (rd l (i : Int))) := by
      unfold rd
      rw [Int.toNat_natCast, List.getD_eq_getElem?_getD, List.getElem?_map, List.getElem?_eq_getElem hi]
      rfl
    rw [← h4, List.getElem?_take, if_pos (by omega)] at h5
    rw [Addr.add_lit, Nat.zero_add]
    unfold World.cell?
    rw [show W.heap[(⟨g, i, none⟩ : Addr).block]? = _ from hg]
    simpa using h5
theorem ownsRow_cells {W : World} {base : Nat} {e : TypeId} {g k cap : Nat} {xs : List Value} (h : W.ownsRow base e 1 (.slice (some ⟨g, 0, none⟩) k cap) k xs) (j : Nat) (u : Value) (hu : xs[j]? = some u) : W.cell? ((⟨g, 0, none⟩ : Addr).add j) = some u := by
  have hl := h.1
  have hj := (List.getElem?_eq_some_iff.1 hu).1
  rcases h.2 with ⟨e, h0⟩ | ⟨g', cap', cur, e, _, hg, h1, _, h3, h4⟩
  · cases e
  · injection e with e1 e2 e3
    injection e1 with e1
    injection e1 with e1
    subst e1
    rw [← h4, List.getElem?_take, if_pos (by omega)] at hu
    rw [Addr.add_lit, Nat.zero_add]
    unfold World.cell?
    rw [show W.heap[(⟨g, j, none⟩ : Addr).block]? = _ from hg]
    simpa using hu
theorem ownsRow_mono {W : World} {base base' : Nat} {e : TypeId} {size : Nat} {v : Value} {k : Nat} {xs : List Value} (h : W.ownsRow base e size v k xs) (hb : base' ≤ base) : W.ownsRow base' e size v k xs := by
  obtain ⟨h1, h2⟩ := h
  refine ⟨h1, ?_⟩
  rcases h2 with h2 | ⟨g, cap, cur, e1, hb1, r⟩
  · exact .inl h2
  · exact .inr ⟨g, cap, cur, e1, by omega, r⟩
theorem info22 : (Tryd.prog.info? 22).map (fun i => (i.zero, i.size, i.bytes)) = some (some (.slice none 0 0), 1, 24) := by kernel_rfl

end Go.Proofs.YtijfddobandcdaaDoor.X
end
section
-- by ownprint.py (wip/tool), over the kit's print
namespace Go.Proofs.YtijfddobandcdaaDoor.X
open Go.RowKit Go.Proofs.YtijfddobandcdaaDoorW.PrintWords Go.Proofs.YtijfddobandcdaaDoorW.PrintLast Go.Proofs.YtijfddobandcdaaDoorW.PrintMore
attribute [local go_sem] max2_int min2_int max_two min_two max_three min_three max_four min_four
set_option linter.unusedVariables false
set_option linter.unusedSimpArgs false

/-! ### lampblackref02_Size: function 53 -/
def lampblackref02_Size.l0 : Nat → Int → Int → Option (Int)
  | 0, _, _ => none
  | k + 1, x0, x3 => if x0 > 0 then (lampblackref02_Size.l0 k (Go.bits .and .i64 x0 (wrap64 (x0 - 1))) (wrap64 (x3 + 1))) else (some x3)
def lampblackref02_Size.f (k : Nat) (a0 : Int) : Option (Int) := lampblackref02_Size.l0 k a0 0
theorem lampblackref02_Size.mono_l : ∀ k, (∀ y0 y1, LeO (lampblackref02_Size.l0 k y0 y1) (lampblackref02_Size.l0 (k + 1) y0 y1))
  | 0 => fun _ _ r h => by simp [lampblackref02_Size.l0] at h
  | k + 1 => by
    have ih0 := lampblackref02_Size.mono_l k
    · intro y0 y1
      unfold lampblackref02_Size.l0
      repeat' first
      | (with_reducible exact ih0 _ _)
      | (with_reducible exact LeO.refl _)
      | (with_reducible exact LeO.none _)
      | (with_reducible refine LeO.ite ?_ ?_)
      | (with_reducible refine LeO.bind ?_ (fun _ => ?_))
      | exact ih0 _ _
      | exact LeO.none _
      | refine LeO.ite ?_ ?_
      | refine LeO.bind ?_ (fun _ => ?_)
theorem lampblackref02_Size.mono : ∀ a0 k, LeO (lampblackref02_Size.f k a0) (lampblackref02_Size.f (k + 1) a0) := by
  intro a0 k
  have ih0 := lampblackref02_Size.mono_l k
  unfold lampblackref02_Size.f
  repeat' first
      | (with_reducible exact ih0 _ _)
      | (with_reducible exact LeO.refl _)
      | (with_reducible exact LeO.none _)
      | (with_reducible refine LeO.ite ?_ ?_)
      | (with_reducible refine LeO.bind ?_ (fun _ => ?_))
      | exact ih0 _ _
      | exact LeO.none _
      | refine LeO.ite ?_ ?_
      | refine LeO.bind ?_ (fun _ => ?_)
set_option maxHeartbeats 8000000 in
set_option maxRecDepth 100000 in
theorem lampblackref02_Size.calls (k : Nat) (a0 : Int) (r : Int) (w : World) (h : lampblackref02_Size.f k a0 = some r) :
    Calls Tryd.prog 53 #[.int .i64 a0] w fun e w' => e = .returned (.int .i64 r) ∧ Drawn0 w w' := by
  have H : (lampblackref02_Size.l0 k a0 0) = some r := h
  clear h
  have H' := Aside0.mk H
  clear H
  go_enter Tryd.func53, Tryd.ntmps53
  go_wp2
  go_loopg [0, 3] k (fun kq v0 v3 w' => ∃ (x0_1 : Int) (x3_1 : Int), v0 = .int .i64 x0_1 ∧ v3 = .int .i64 x3_1 ∧ Aside0 (lampblackref02_Size.l0 kq x0_1 x3_1 = some r) ∧ Aside0 (kq ≤ k) ∧ Drawn0 w w')
  case atStart => exact ⟨(a0), (0), (by first | rfl | (simp; done) | (simp [*]; done)), (by first | rfl | (simp; done) | (simp [*]; done)), H', ⟨Nat.le_refl _⟩, by repeat (first | exact Drawn0.refl _ | apply Drawn0.step)⟩
  case round =>
    clear H'
    obtain ⟨x0_1, x3_1, rfl, rfl, HA, HK1, ⟨m1, rfl⟩⟩ := hrel
    cases gk with
    | zero => exact absurd HA.out (by simp [lampblackref02_Size.l0])
    | succ k1 =>
      have H := HA.out
      clear HA
      simp only [lampblackref02_Size.l0] at H
      by_cases c2 : x0_1 > 0
      · rw [if_pos c2] at H
        have c2b0 : decide (0 < x0_1) = true := decide_eq_true c2
        clear c2
        have H' := Aside0.mk H
        clear H
        go_wp2
        go_roundg k1
        case measure => have := HK1.out; omega
        case rel => exact ⟨(Go.bits .and .i64 x0_1 (wrap64 (x0_1 - 1))), (wrap64 (x3_1 + 1)), (by first | rfl | (simp; done) | (simp [*]; done)), (by first | rfl | (simp; done) | (simp [*]; done)), H', ⟨by have := HK1.out; omega⟩, by repeat (first | exact Drawn0.refl _ | apply Drawn0.step)⟩
      · rw [if_neg c2] at H
        have c2b0 : decide (0 < x0_1) = false := decide_eq_false c2
        clear c2
        obtain rfl := Option.some.inj H
        go_wp2
        go_ret
        exact ⟨by first | rfl | (simp; done) | (simp [*]; done), by repeat (first | exact Drawn0.refl _ | apply Drawn0.step)⟩

end Go.Proofs.YtijfddobandcdaaDoor.X
end
section
/- lampblackref03.smoky and Play, by hand: a plan played street by street. -/
namespace Go.Proofs.YtijfddobandcdaaDoor.X
open Go.RowKit Go.Proofs.YtijfddobandcdaaDoorW.PrintWords Go.Proofs.YtijfddobandcdaaDoorW.PrintLast Go.Proofs.YtijfddobandcdaaDoorW.PrintMore Go.Proofs.YtijfddobandcdaaDoor.T
attribute [local go_sem] max2_int min2_int max_two min_two max_three min_three max_four min_four
set_option linter.unusedVariables false
set_option linter.unusedSimpArgs false

theorem shJ (v : Nat) (hv : v < 62) : ∃ J : Int, (wrap64 (2 ^ v) = J ∧ wrap64 (2 ^ min v 64) = J ∧ shl .i64 1 (v : Int) = J) ∧ J = ((2 ^ v : Nat) : Int) := by
  have e := s_one v hv
  have h : (2 : Nat) ^ v < 2 ^ 62 := Nat.pow_lt_pow_right (by omega) hv
  have h2 : wrap64 (2 ^ v) = ((2 ^ v : Nat) : Int) := by
    rw [show ((2 : Int) ^ v) = ((2 ^ v : Nat) : Int) by simp]
    generalize 2 ^ v = x at *
    exact w64_small _ (by omega) (by omega)
  exact ⟨_, ⟨h2, by rw [Nat.min_eq_left (by omega)]; exact h2, e⟩, rfl⟩
/-- Block g holds the 64 marks. -/
def BRow (W : World) (g : Nat) (C : List Bool) : Prop := W.heap[g]? = some (.cells (C.map Value.bool).toArray 81 (0, 0))
theorem BRow.lt {W : World} {g : Nat} {C : List Bool} (h : BRow W g C) : g < W.heap.size := (Array.getElem?_eq_some_iff.1 h).1
theorem BRow.cell {W : World} {g : Nat} {C : List Bool} (h : BRow W g C) (i : Nat) (hi : i < C.length) : W.cell? ⟨g, i, none⟩ = some (.bool (C.getD i false)) := by
  unfold World.cell?
  rw [show W.heap[(⟨g, i, none⟩ : Addr).block]? = _ from h]
  simp only [Option.isSome_none, Bool.false_eq_true, if_false]
  simp [List.getElem?_eq_getElem hi]
theorem BRow.frozen {W : World} {g : Nat} {C : List Bool} (h : BRow W g C) (i : Nat) : W.frozen? ⟨g, i, none⟩ = false := by
  unfold World.frozen?
  rw [show W.heap[(⟨g, i, none⟩ : Addr).block]? = _ from h]
  simp
theorem BRow.below {W V : World} {g : Nat} {C : List Bool} (h : BRow W g C) (hb : Below W.heap.size W V) : BRow V g C := (hb.block g h.lt).trans h
theorem BRow.other {W : World} {g : Nat} {C : List Bool} (h : BRow W g C) {p : Addr} (hne : g ≠ p.block) (u : Value) : BRow (W.setCell p u) g C := (Below.heap_setCell W p u g hne).trans h
theorem BRow.set {W : World} {g : Nat} {C : List Bool} (h : BRow W g C) (i : Nat) (v : Bool) : BRow (W.setCell ⟨g, i, none⟩ (.bool v)) g (C.set i v) := by
  obtain ⟨hlt, hk⟩ := Array.getElem?_eq_some_iff.1 h
  show (W.heap.modify g _)[g]? = _
  rw [Array.getElem?_eq_getElem (by rw [Array.size_modify]; exact hlt), Array.getElem_modify_self, hk]
  simp [List.map_set]

/-- Where a plan stands: who stands where, how many at most, where somebody stood, whether smoke came back, and which streets are clear. -/
structure PS where
  gd : Nat
  most : Nat
  had : Nat
  bk : Bool
  C : List Bool
def p0 : PS := ⟨0, 0, 0, false, List.replicate 64 false⟩
theorem gi_toNat (G : List Nat) : (gi G).map Int.toNat = G := by
  unfold gi
  rw [List.map_map]
  conv => rhs; rw [← List.map_id G]
  exact List.map_congr_left fun x _ => by simp
end Go.Proofs.YtijfddobandcdaaDoor.X
end
section
-- by ownprint.py (wip/tool), over the kit's print
namespace Go.Proofs.YtijfddobandcdaaDoor.X
open Go.RowKit Go.Proofs.YtijfddobandcdaaDoorW.PrintWords Go.Proofs.YtijfddobandcdaaDoorW.PrintLast Go.Proofs.YtijfddobandcdaaDoorW.PrintMore
attribute [local go_sem] max2_int min2_int max_two min_two max_three min_three max_four min_four
set_option linter.unusedVariables false
set_option linter.unusedSimpArgs false

/-! ### lampblackref03_Border: function 59 -/
def lampblackref03_Border.l0 : Nat → List Int → Int → Int → Int → Int → Option (Int)
  | 0, _, _, _, _, _ => none
  | k + 1, x0, x1, x5, x8, x9 => if x9 < x8 then (if 0 ≤ x9 then (if (Go.bits .and .i64 (shr .i64 x1 x9) 1) = 1 then (if x9 < (x0.length : Int) then (if (Go.bits .andNot .i64 (rd x0 x9) x1) = 0 then (lampblackref03_Border.l0 k x0 x1 x5 x8 (wrap64 (x9 + 1))) else (lampblackref03_Border.l0 k x0 x1 (Go.bits .or .i64 x5 (shl .i64 1 x9)) x8 (wrap64 (x9 + 1)))) else (none)) else (lampblackref03_Border.l0 k x0 x1 x5 x8 (wrap64 (x9 + 1)))) else (none)) else (some x5)
def lampblackref03_Border.f (k : Nat) (l0 : List Int) (a1 : Int) : Option (Int) := lampblackref03_Border.l0 k l0 a1 0 (l0.length : Int) 0
set_option maxHeartbeats 8000000 in
set_option maxRecDepth 100000 in
theorem lampblackref03_Border.calls (k : Nat) (A0 : Option Addr) (c0 : Nat) (l0 : List Int) (a1 : Int) (r : Int) (w : World) (hr0 : Kd.C (Kd.int .i64) w A0 l0.length l0) (hc0 : l0.length ≤ c0) (h : lampblackref03_Border.f k l0 a1 = some r) :
    Calls Tryd.prog 59 #[.slice A0 l0.length c0, .int .i64 a1] w fun e w' => e = .returned (.int .i64 r) ∧ Drawn0 w w' := by
  have HR0 := Aside0.mk hr0
  have HC0 := Aside0.mk hc0
  clear hr0 hc0
  have H : (lampblackref03_Border.l0 k l0 a1 0 (l0.length : Int) 0) = some r := h
  clear h
  have H' := Aside0.mk H
  clear H
  go_enter Tryd.func59, Tryd.ntmps59
  go_wp2
  go_loopg [5, 9] k (fun kq v5 v9 w' => ∃ (x5_1 : Int) (x9_1 : Int), v5 = .int .i64 x5_1 ∧ v9 = .int .i64 x9_1 ∧ Aside0 (lampblackref03_Border.l0 kq l0 a1 x5_1 (l0.length : Int) x9_1 = some r) ∧ Aside0 (kq ≤ k) ∧ Drawn0 w w')
  case atStart => exact ⟨(0), (0), (by first | rfl | (simp; done) | (simp [*]; done)), (by first | rfl | (simp; done) | (simp [*]; done)), H', ⟨Nat.le_refl _⟩, by repeat (first | exact Drawn0.refl _ | apply Drawn0.step)⟩
  case round =>
    clear H'
    try clear p2
    obtain ⟨x5_1, x9_1, rfl, rfl, HA, HK1, ⟨m1, rfl⟩⟩ := hrel
    cases gk with
    | zero => exact absurd HA.out (by simp [lampblackref03_Border.l0])
    | succ k1 =>
      have H := HA.out
      clear HA
      simp only [lampblackref03_Border.l0] at H
      by_cases c3 : x9_1 < (l0.length : Int)
      · rw [if_pos c3] at H
        have c3b0 : decide (x9_1 < (l0.length : Int)) = true := decide_eq_true c3
        clear c3
        by_cases c4 : 0 ≤ x9_1
        · rw [if_pos c4] at H
          have c4b0 := eq_true c4
          have c4b1 : decide (0 ≤ x9_1) = true := decide_eq_true c4
          clear c4
          obtain ⟨ji5, hji5⟩ : ∃ j_ : Int, (shr .i64 a1 x9_1) = j_ := ⟨_, rfl⟩
          replace H : (if (Go.bits .and .i64 (ji5) 1) = 1 then (if x9_1 < (l0.length : Int) then (if (Go.bits .andNot .i64 (rd l0 x9_1) a1) = 0 then (lampblackref03_Border.l0 k1 l0 a1 x5_1 (l0.length : Int) (wrap64 (x9_1 + 1))) else (lampblackref03_Border.l0 k1 l0 a1 (Go.bits .or .i64 x5_1 (shl .i64 1 x9_1)) (l0.length : Int) (wrap64 (x9_1 + 1)))) else (none)) else (lampblackref03_Border.l0 k1 l0 a1 x5_1 (l0.length : Int) (wrap64 (x9_1 + 1)))) = some r := by first | (rw [hji5] at H; exact H) | (simp only [hji5] at H ⊢; exact H)
          have hji5_ : (a1 / 2 ^ min x9_1.toNat 64) = ji5 := hji5
          have hji5z : x9_1 ≤ 64 → (a1 / 2 ^ x9_1.toNat) = ji5 := shr_small hji5
          by_cases c6 : (Go.bits .and .i64 (ji5) 1) = 1
          · rw [if_pos c6] at H
            have c6b0 : ((Go.bits .and .i64 (ji5) 1) == 1) = true := beq_iff_eq.mpr c6
            have c6b1 : ((Go.bits .and .i64 (ji5) 1) != 1) = false := bne_eq_false_iff_eq.mpr c6
            clear c6
            by_cases c7 : x9_1 < (l0.length : Int)
            · rw [if_pos c7] at H
              have c7b0 : decide (x9_1 < (l0.length : Int)) = true := decide_eq_true c7
              clear c7
              by_cases c8 : (Go.bits .andNot .i64 (rd l0 x9_1) a1) = 0
              · rw [if_pos c8] at H
                have c8b0 : ((Go.bits .andNot .i64 (rd l0 x9_1) a1) == 0) = true := beq_iff_eq.mpr c8
                have c8b1 : ((Go.bits .andNot .i64 (rd l0 x9_1) a1) != 0) = false := bne_eq_false_iff_eq.mpr c8
                clear c8
                have H' := Aside0.mk H
                clear H
                have p136 : 0 ≤ (x9_1 : Int) := of_decide_eq_true (by first | (with_reducible assumption) | assumption)
                have q136 : x9_1 < (l0.length : Int) := of_decide_eq_true (by first | (with_reducible assumption) | assumption)
                obtain ⟨ad136, e136, hx136_0⟩ := Kd.at_int HR0.out x9_1 p136 q136
                cases e136
                replace p136 := eq_true p136
                replace q136 := eq_true q136
                go_wp2
                go_roundg k1
                case measure => have := HK1.out; omega
                case rel => exact ⟨(x5_1), (wrap64 (x9_1 + 1)), (by first | rfl | (simp; done) | (simp [*]; done)), (by first | rfl | (simp; done) | (simp [*]; done)), H', ⟨by have := HK1.out; omega⟩, by repeat (first | exact Drawn0.refl _ | apply Drawn0.step)⟩
              · rw [if_neg c8] at H
                have c8b0 : ((Go.bits .andNot .i64 (rd l0 x9_1) a1) == 0) = false := beq_eq_false_iff_ne.mpr c8
                have c8b1 : ((Go.bits .andNot .i64 (rd l0 x9_1) a1) != 0) = true := bne_iff_ne.mpr c8
                have c9b0 := eq_true (of_decide_eq_true (by first | (with_reducible assumption) | assumption) : 0 ≤ x9_1)
                obtain ⟨ji10, hji10⟩ : ∃ j_ : Int, (shl .i64 1 x9_1) = j_ := ⟨_, rfl⟩
                replace H : (lampblackref03_Border.l0 k1 l0 a1 (Go.bits .or .i64 x5_1 (ji10)) (l0.length : Int) (wrap64 (x9_1 + 1))) = some r := by first | (rw [hji10] at H; exact H) | (simp only [hji10] at H ⊢; exact H)
                have hji10_ : (IntKind.i64.wrap (1 * 2 ^ min x9_1.toNat 64)) = ji10 := hji10
                have hji10z : x9_1 ≤ 64 → (IntKind.i64.wrap (1 * 2 ^ x9_1.toNat)) = ji10 := shl_small hji10
                have hji10u : (IntKind.i64.wrap (2 ^ min x9_1.toNat 64)) = ji10 := by have h_ := hji10_; rw [Int.one_mul] at h_; exact h_
                have hji10v : x9_1 ≤ 64 → (IntKind.i64.wrap (2 ^ x9_1.toNat)) = ji10 := fun hle_ => by have h_ := hji10z hle_; rw [Int.one_mul] at h_; exact h_
                have hji10y : (wrap64 (1 * 2 ^ min x9_1.toNat 64)) = ji10 := (i64_w _).symm.trans hji10_
                have hji10x : x9_1 ≤ 64 → (wrap64 (1 * 2 ^ x9_1.toNat)) = ji10 := fun h_ => (i64_w _).symm.trans (hji10z h_)
                have H' := Aside0.mk H
                clear H
                have p136 : 0 ≤ (x9_1 : Int) := of_decide_eq_true (by first | (with_reducible assumption) | assumption)
                have q136 : x9_1 < (l0.length : Int) := of_decide_eq_true (by first | (with_reducible assumption) | assumption)
                obtain ⟨ad136, e136, hx136_0⟩ := Kd.at_int HR0.out x9_1 p136 q136
                cases e136
                replace p136 := eq_true p136
                replace q136 := eq_true q136
                go_wp2
                go_roundg k1
                case measure => have := HK1.out; omega
                case rel => exact ⟨(Go.bits .or .i64 x5_1 (ji10)), (wrap64 (x9_1 + 1)), (by first | rfl | (simp; done) | (simp only [← hji10] <;> (first | rfl | simp)) | (simp [*]; done)), (by first | rfl | (simp; done) | (simp [*]; done)), H', ⟨by have := HK1.out; omega⟩, by repeat (first | exact Drawn0.refl _ | apply Drawn0.step)⟩
            · rw [if_neg c7] at H
              exact absurd H (by simp)
          · rw [if_neg c6] at H
            have c6b0 : ((Go.bits .and .i64 (ji5) 1) == 1) = false := beq_eq_false_iff_ne.mpr c6
            have c6b1 : ((Go.bits .and .i64 (ji5) 1) != 1) = true := bne_iff_ne.mpr c6
            have H' := Aside0.mk H
            clear H
            go_wp2
            go_roundg k1
            case measure => have := HK1.out; omega
            case rel => exact ⟨(x5_1), (wrap64 (x9_1 + 1)), (by first | rfl | (simp; done) | (simp [*]; done)), (by first | rfl | (simp; done) | (simp [*]; done)), H', ⟨by have := HK1.out; omega⟩, by repeat (first | exact Drawn0.refl _ | apply Drawn0.step)⟩
        · rw [if_neg c4] at H
          exact absurd H (by simp)
      · rw [if_neg c3] at H
        have c3b0 : decide (x9_1 < (l0.length : Int)) = false := decide_eq_false c3
        clear c3
        obtain rfl := Option.some.inj H
        go_wp2
        go_ret
        exact ⟨by first | rfl | (simp; done) | (simp [*]; done), by repeat (first | exact Drawn0.refl _ | apply Drawn0.step)⟩

end Go.Proofs.YtijfddobandcdaaDoor.X
end
section
-- by ownprint.py (wip/tool), over the kit's print
namespace Go.Proofs.YtijfddobandcdaaDoor.X
open Go.RowKit Go.Proofs.YtijfddobandcdaaDoorW.PrintWords Go.Proofs.YtijfddobandcdaaDoorW.PrintLast Go.Proofs.YtijfddobandcdaaDoorW.PrintMore
attribute [local go_sem] max2_int min2_int max_two min_two max_three min_three max_four min_four
set_option linter.unusedVariables false
set_option linter.unusedSimpArgs false

/-! ### lampblackref03_Breadth: function 31 -/
def lampblackref03_Breadth.l0 : Nat → List Int → Int → Int → List Int → Int → Int → Option (Int)
  | 0, _, _, _, _, _, _ => none
  | k + 1, x0, x5, x6, x9, x10, x11 => if x11 < x10 then (if 0 ≤ x11 then (if x11 < (x9.length : Int) then (if 0 ≤ (rd x9 x11) then ((lampblackref03_Border.f k x0 (Go.bits .or .i64 x6 (shl .i64 1 (rd x9 x11)))).bind fun t138 => ((lampblackref02_Size.f k t138).bind fun t139 => (lampblackref03_Breadth.l0 k x0 (mx x5 t139) (Go.bits .or .i64 x6 (shl .i64 1 (rd x9 x11))) x9 x10 (wrap64 (x11 + 1))))) else (none)) else (none)) else (none)) else (some x5)
end Go.Proofs.YtijfddobandcdaaDoor.X
end
section
/- lampblackref03.Layout, by hand: the first of all orders with the least breadth. -/
namespace Go.Proofs.YtijfddobandcdaaDoor.X
open Go.RowKit Go.Proofs.YtijfddobandcdaaDoorW.PrintWords Go.Proofs.YtijfddobandcdaaDoorW.PrintLast Go.Proofs.YtijfddobandcdaaDoorW.PrintMore Go.Proofs.YtijfddobandcdaaDoor.T
attribute [local go_sem] max2_int min2_int max_two min_two max_three min_three max_four min_four
set_option linter.unusedVariables false
set_option linter.unusedSimpArgs false

theorem ownsRow_form {W : World} {base : Nat} {e : TypeId} {size : Nat} {v : Value} {k : Nat} {xs : List Value} (h : W.ownsRow base e size v k xs) : ∃ A cap, v = .slice A k cap := by
  rcases h.2 with ⟨rfl, rfl⟩ | ⟨g, cap, cur, rfl, _⟩
  · exact ⟨none, 0, rfl⟩
  · exact ⟨_, cap, rfl⟩
end Go.Proofs.YtijfddobandcdaaDoor.X
end
section
/- (family).sides and (town).family, by hand. -/
namespace Go.Proofs.YtijfddobandcdaaDoor.X
open Go.RowKit Go.Proofs.YtijfddobandcdaaDoorW.PrintWords Go.Proofs.YtijfddobandcdaaDoorW.PrintLast Go.Proofs.YtijfddobandcdaaDoorW.PrintMore Go.Proofs.YtijfddobandcdaaDoor.T
attribute [local go_sem] max2_int min2_int max_two min_two max_three min_three max_four min_four
set_option linter.unusedVariables false
set_option linter.unusedSimpArgs false

/-- The border of a set, as a number that can be reckoned. -/
def bo (G : List Nat) (x : Nat) : Nat := ((sweep_town_border.f (gi G) (x : Int)).getD 0).toNat
theorem bo_eq {G : List Nat} (hG : Gr 7 G) {x : Nat} (hx : x < 2 ^ G.length) : bo G x = bor G x := by
  unfold bo
  rw [border_eq G hG x hx]
  simp
theorem bo_f {G : List Nat} (hG : Gr 7 G) {x : Nat} (hx : x < 2 ^ G.length) : sweep_town_border.f (gi G) (x : Int) = some ((bo G x : Nat) : Int) := by
  rw [bo_eq hG hx, border_eq G hG x hx]
theorem bo_lt {G : List Nat} (hG : Gr 7 G) {x : Nat} (hx : x < 2 ^ G.length) : bo G x < 2 ^ G.length := by rw [bo_eq hG hx]; exact bor_lt G x
theorem p7 {G : List Nat} (hn : G.length ≤ 7) : 2 ^ G.length ≤ 128 := Nat.pow_le_pow_right (n := 2) (by omega) hn
theorem all_f {G : List Nat} (hG : Gr 7 G) : sweep_town_all.f (gi G) = some ((2 ^ G.length - 1 : Nat) : Int) := by
  have hn := hG.most
  have hp := p7 hn
  have h0 := Nat.two_pow_pos G.length
  unfold sweep_town_all.f
  rw [gi_length, s_one _ (by omega)]
  generalize 2 ^ G.length = P at *
  rw [w64_small _ (by omega) (by omega)]
  congr 1
  omega
/-- Two sets are the two sides of something. -/
def sidesB (G : List Nat) (k x y : Nat) : Bool := (x ||| y == 2 ^ G.length - 1) && (diff (bo G x) y == 0) && decide (pc (x &&& y) 9 ≤ k)

set_option maxHeartbeats 4000000 in
set_option maxRecDepth 100000 in
theorem sides_calls (A0 : Option Addr) (c0 : Nat) (G : List Nat) (hG : Gr 7 G) (hc0 : G.length ≤ c0) (f k x y : Nat) (w : World) (hGL : GL w) (hr0 : Kd.C (Kd.int .i64) w A0 (gi G).length (gi G)) (h0 : w.cell? ⟨f, 0, none⟩ = some (.slice A0 G.length c0)) (h1 : w.cell? ⟨f, 1, none⟩ = some (.int .i64 (k : Int)))
    (hx : x < 2 ^ G.length) (hy : y < 2 ^ G.length) (R : Bool) (hR : sidesB G k x y = R) :
    Calls Tryd.prog 74 #[.pointer (some ⟨f, 0, none⟩), .int .i64 (x : Int), .int .i64 (y : Int)] w fun e w' => e = .returned (.bool R) ∧ Below w.heap.size w w' := by
  have hn := hG.most
  have hp := p7 hn
  have hx7 : x < 128 := Nat.lt_of_lt_of_le hx hp
  have hy7 : y < 128 := Nat.lt_of_lt_of_le hy hp
  have hblt := Nat.lt_of_lt_of_le (bo_lt hG hx) hp
  have hand : x &&& y < 128 := Nat.lt_of_le_of_lt Nat.and_le_left hx7
  have hor := b_or x y (by omega) (by omega)
  have han := b_and x y (by omega) (by omega)
  have hdi := b_andNot (bo G x) y (by omega) (by omega)
  have HALL := Aside0.mk (all_f hG)
  have HBO := Aside0.mk (bo_f hG hx)
  have HCN := Aside0.mk (count_eq (x &&& y) (by omega))
  have HGL := Aside0.mk hGL
  have HR := Aside0.mk hr0
  have HC0 := Aside0.mk hc0
  have HL := Aside0.mk (gi_length G)
  have f0 := World.block_lt_of_cell? w _ h0
  unfold sidesB at hR
  generalize x ||| y = o at *
  generalize x &&& y = an at *
  generalize bo G x = bx at *
  generalize diff bx y = dx at *
  generalize pc an 9 = pa at *
  generalize 2 ^ G.length - 1 = P at *
  clear hGL hr0 hc0 hp hx hy hn hG hand hblt
  have f1 := World.block_lt_of_cell? w _ h1
  have KEEP : Aside0 (∀ W, Below w.heap.size w W → W.cell? ⟨f, 0, none⟩ = some (.slice A0 G.length c0) ∧ W.cell? ⟨f, 1, none⟩ = some (.int .i64 (k : Int)) ∧ Below w.heap.size w W) := ⟨fun W hW => ⟨(hW.cell f0).trans h0, (hW.cell f1).trans h1, hW⟩⟩
  have CALL : Aside0 (∀ W, Below w.heap.size w W → Calls Tryd.prog 61 #[.slice A0 G.length c0] W fun e w' => e = .returned (.int .i64 (P : Int)) ∧ w'.cell? ⟨f, 0, none⟩ = some (.slice A0 G.length c0) ∧ w'.cell? ⟨f, 1, none⟩ = some (.int .i64 (k : Int)) ∧ Below w.heap.size w w') := ⟨fun W hW => by
    have := sweep_town_all.calls A0 c0 (gi G) _ W (Kd.C_below HR.out hW) (by rw [HL.out]; exact HC0.out) HALL.out
    rw [HL.out] at this
    exact this.mono fun e w' ⟨h, m, hm⟩ => ⟨h, KEEP.out w' (by rw [hm]; exact pw_below_drewN hW m)⟩⟩
  have CBOR : Aside0 (∀ W, Below w.heap.size w W → Calls Tryd.prog 73 #[.slice A0 G.length c0, .int .i64 (x : Int)] W fun e w' => e = .returned (.int .i64 (bx : Int)) ∧ w'.cell? ⟨f, 0, none⟩ = some (.slice A0 G.length c0) ∧ w'.cell? ⟨f, 1, none⟩ = some (.int .i64 (k : Int)) ∧ Below w.heap.size w w') := ⟨fun W hW => by
    have := sweep_town_border.calls A0 c0 (gi G) (x : Int) _ W (GL_below HGL.out hW) (Kd.C_below HR.out hW) (by rw [HL.out]; exact HC0.out) HBO.out
    rw [HL.out] at this
    exact this.mono fun e w' ⟨h, hb⟩ => ⟨h, KEEP.out w' (below_step hW hb)⟩⟩
  have CCNT : Aside0 (∀ W, Below w.heap.size w W → Calls Tryd.prog 63 #[.int .i64 (an : Int)] W fun e w' => e = .returned (.int .i64 (pa : Int)) ∧ w'.cell? ⟨f, 0, none⟩ = some (.slice A0 G.length c0) ∧ w'.cell? ⟨f, 1, none⟩ = some (.int .i64 (k : Int)) ∧ Below w.heap.size w w') := ⟨fun W hW =>
    (sweep_count.calls (an : Int) _ W HCN.out).mono fun e w' ⟨h, m, hm⟩ => ⟨h, KEEP.out w' (by rw [hm]; exact pw_below_drewN hW m)⟩⟩
  have HB0 : Below w.heap.size w w.drew := below_drew (Below.refl _ _)
  have h0d : w.drew.cell? ⟨f, 0, none⟩ = some (.slice A0 G.length c0) := h0
  have h1d : w.drew.cell? ⟨f, 1, none⟩ = some (.int .i64 (k : Int)) := h1
  clear h0 h1
  by_cases c1 : o = P
  · have t1 : ((o : Int) == (P : Int)) = true := by simp [c1]
    by_cases c2 : dx = 0
    · have t2 : ((dx : Int) == 0) = true := by simp [c2]
      have T3 : Aside0 (decide (pa ≤ k) = R) := ⟨by
        rw [← hR, c1, c2]
        simp⟩
      clear c1 c2 hR
      go_enter Tryd.func74, Tryd.ntmps74
      go_wp2_with (fail)
      refine start_ (n := 32) (S := fun w' => w'.cell? ⟨f, 0, none⟩ = some (.slice A0 G.length c0) ∧ w'.cell? ⟨f, 1, none⟩ = some (.int .i64 (k : Int)) ∧ Below w.heap.size w w') (ds := []) #[false, false, false, false, false, false, false, false, false, false, false, false, false, false, false, false, false, false, false, false, false, false, false, false, false, false, false, false, false, false, false, false] (by kernel_rfl) rfl rfl ⟨h0d, h1d, HB0⟩ (fun hHeld => ?_)
      refine pure_ (i := 0) (N := some 7) (v := ?_) (a' := ?_) #[true, false, false, false, false, false, false, false, false, false, false, false, false, false, false, false, false, false, false, false, false, false, false, false, false, false, false, false, false, false, false, false] rfl rfl (by kernel_rfl) (fun _ _ _ h => h) (Or.inl ⟨by rfl, ?_⟩) ?_ ?_
      rotate_left
      · intro w'
        go_simp
        with_reducible rfl
      rotate_left
      · simp only [Act.put, List.setIfInBounds_toArray, List.set_cons_zero, List.set_cons_succ, i64_w, i32_w]
        rfl
      refine pure_ (i := 1) (N := some 8) (v := ?_) (a' := ?_) #[true, true, false, false, false, false, false, false, false, false, false, false, false, false, false, false, false, false, false, false, false, false, false, false, false, false, false, false, false, false, false, false] rfl rfl (by kernel_rfl) (fun _ _ _ h => h) (Or.inl ⟨by rfl, ?_⟩) ?_ ?_
      rotate_left
      · intro w'
        go_simp
        with_reducible rfl
      rotate_left
      · simp only [Act.put, List.setIfInBounds_toArray, List.set_cons_zero, List.set_cons_succ, i64_w, i32_w]
        rfl
      refine pure_ (i := 2) (N := some 9) (v := ?_) (a' := ?_) #[true, true, true, false, false, false, false, false, false, false, false, false, false, false, false, false, false, false, false, false, false, false, false, false, false, false, false, false, false, false, false, false] rfl rfl (by kernel_rfl) (fun _ _ _ h => h) (Or.inl ⟨by rfl, ?_⟩) ?_ ?_
      rotate_left
      · intro w'
        go_simp
        with_reducible rfl
      rotate_left
      · simp only [Act.put, List.setIfInBounds_toArray, List.set_cons_zero, List.set_cons_succ, i64_w, i32_w]
        rfl
      refine pure_ (i := 3) (N := some 10) (v := ?_) (a' := ?_) #[true, true, true, true, false, false, false, false, false, false, false, false, false, false, false, false, false, false, false, false, false, false, false, false, false, false, false, false, false, false, false, false] rfl rfl (by kernel_rfl) (fun _ _ _ h => h) (Or.inl ⟨by rfl, ?_⟩) ?_ ?_
      rotate_left
      · intro w'
        go_simp
        with_reducible rfl
      rotate_left
      · simp only [Act.put, List.setIfInBounds_toArray, List.set_cons_zero, List.set_cons_succ, i64_w, i32_w]
        rfl
      refine pure_ (i := 4) (N := some 11) (v := ?_) (a' := ?_) #[true, true, true, true, true, false, false, false, false, false, false, false, false, false, false, false, false, false, false, false, false, false, false, false, false, false, false, false, false, false, false, false] rfl rfl (by kernel_rfl) (fun _ _ _ h => h) (Or.inl ⟨by rfl, ?_⟩) ?_ ?_
      rotate_left
      · intro w'
        go_simp
        with_reducible rfl
      rotate_left
      · simp only [Act.put, List.setIfInBounds_toArray, List.set_cons_zero, List.set_cons_succ, i64_w, i32_w]
        rfl
      refine pure_ (i := 5) (N := some 12) (v := ?_) (a' := ?_) #[true, true, true, true, true, true, false, false, false, false, false, false, false, false, false, false, false, false, false, false, false, false, false, false, false, false, false, false, false, false, false, false] rfl rfl (by kernel_rfl) (fun _ _ _ h => h) (Or.inl ⟨by rfl, ?_⟩) ?_ ?_
      rotate_left
      · intro w'
        go_simp
        with_reducible rfl
      rotate_left
      · simp only [Act.put, List.setIfInBounds_toArray, List.set_cons_zero, List.set_cons_succ, i64_w, i32_w]
        rfl
      refine take_ (i := 6) (N := some 13) (v := ?_) (a' := ?_) #[true, true, true, true, true, true, true, false, false, false, false, false, false, false, false, false, false, false, false, false, false, false, false, false, false, false, false, false, false, false, false, false] rfl rfl (by kernel_rfl) (fun _ _ _ h => h) (Or.inl ⟨by rfl, ?_⟩) hHeld ?_ ?_
      rotate_left
      · rintro w' ⟨s0, s1, s2⟩
        go_simp
        with_reducible rfl
      rotate_left
      · simp only [Act.put, List.setIfInBounds_toArray, List.set_cons_zero, List.set_cons_succ, i64_w, i32_w]
        rfl
      refine one_ (i := 7) (N := some 14) #[true, true, true, true, true, true, true, true, false, false, false, false, false, false, false, false, false, false, false, false, false, false, false, false, false, false, false, false, false, false, false, false] rfl rfl (by kernel_rfl) (by decide) (fun K hK => ?_)
      refine goes_ Tryd.func61 (by kernel_rfl) rfl #[.slice A0 G.length c0] (by rfl) rfl rfl (by simp only [List.map_toArray, List.map_cons, List.map_nil]; rfl) ?_
      with_reducible refine (CALL.out _ hHeld.2.2).mono ?_
      rintro e w3 ⟨rfl, f0', f1', fb'⟩
      refine ⟨_, rfl, ?_⟩
      refine hK.out _ _ ⟨f0', f1', fb'⟩ (fun hHeld => ?_)
      clear hK K
      refine norm_ (a' := ?_) ?_ ?_
      rotate_left
      · show Act.put _ (some 14) _ = _
        simp only [Act.put, List.setIfInBounds_toArray, List.set_cons_zero, List.set_cons_succ, i64_w, i32_w]
        rfl
      refine pure_ (i := 8) (N := some 15) (v := ?_) (a' := ?_) #[true, true, true, true, true, true, true, true, true, false, false, false, false, false, false, false, false, false, false, false, false, false, false, false, false, false, false, false, false, false, false, false] rfl rfl (by kernel_rfl) (fun _ _ _ h => h) (Or.inl ⟨by rfl, ?_⟩) ?_ ?_
      rotate_left
      · intro w'
        go_simp
        with_reducible rfl
      rotate_left
      · simp only [Act.put, List.setIfInBounds_toArray, List.set_cons_zero, List.set_cons_succ, i64_w, i32_w]
        rfl
      refine pure_ (i := 9) (N := some 16) (v := ?_) (a' := ?_) #[true, true, true, true, true, true, true, true, true, true, false, false, false, false, false, false, false, false, false, false, false, false, false, false, false, false, false, false, false, false, false, false] rfl rfl (by kernel_rfl) (fun _ _ _ h => h) (Or.inl ⟨by rfl, ?_⟩) ?_ ?_
      rotate_left
      · intro w'
        go_simp
        with_reducible rfl
      rotate_left
      · simp only [Act.put, List.setIfInBounds_toArray, List.set_cons_zero, List.set_cons_succ, i64_w, i32_w]
        rfl
      refine pure_ (i := 10) (N := some 17) (v := ?_) (a' := ?_) #[true, true, true, true, true, true, true, true, true, true, true, false, false, false, false, false, false, false, false, false, false, false, false, false, false, false, false, false, false, false, false, false] rfl rfl (by kernel_rfl) (fun _ _ _ h => h) (Or.inl ⟨by rfl, ?_⟩) ?_ ?_
      rotate_left
      · intro w'
        go_simp
        with_reducible rfl
      rotate_left
      · simp only [Act.put, List.setIfInBounds_toArray, List.set_cons_zero, List.set_cons_succ, i64_w, i32_w]
        rfl
      refine pure_ (i := 11) (N := some 18) (v := ?_) (a' := ?_) #[true, true, true, true, true, true, true, true, true, true, true, true, false, false, false, false, false, false, false, false, false, false, false, false, false, false, false, false, false, false, false, false] rfl rfl (by kernel_rfl) (fun _ _ _ h => h) (Or.inl ⟨by rfl, ?_⟩) ?_ ?_
      rotate_left
      · intro w'
        go_simp
        with_reducible rfl
      rotate_left
      · simp only [Act.put, List.setIfInBounds_toArray, List.set_cons_zero, List.set_cons_succ, i64_w, i32_w]
        rfl
      refine pure_ (i := 12) (N := some 19) (v := ?_) (a' := ?_) #[true, true, true, true, true, true, true, true, true, true, true, true, true, false, false, false, false, false, false, false, false, false, false, false, false, false, false, false, false, false, false, false] rfl rfl (by kernel_rfl) (fun _ _ _ h => h) (Or.inl ⟨by rfl, ?_⟩) ?_ ?_
      rotate_left
      · intro w'
        go_simp
        with_reducible rfl
      rotate_left
      · simp only [Act.put, List.setIfInBounds_toArray, List.set_cons_zero, List.set_cons_succ, i64_w, i32_w]
        rfl
      refine pure_ (i := 14) (N := some 21) (v := ?_) (a' := ?_) #[true, true, true, true, true, true, true, true, true, true, true, true, true, false, true, false, false, false, false, false, false, false, false, false, false, false, false, false, false, false, false, false] rfl rfl (by kernel_rfl) (fun _ _ _ h => h) (Or.inl ⟨by rfl, ?_⟩) ?_ ?_
      rotate_left
      · intro w'
        go_simp
        with_reducible rfl
      rotate_left
      · simp only [Act.put, List.setIfInBounds_toArray, List.set_cons_zero, List.set_cons_succ, i64_w, i32_w]
        rfl
      refine pure_ (i := 16) (N := some 23) (v := ?_) (a' := ?_) #[true, true, true, true, true, true, true, true, true, true, true, true, true, false, true, false, true, false, false, false, false, false, false, false, false, false, false, false, false, false, false, false] rfl rfl (by kernel_rfl) (fun _ _ _ h => h) (Or.inl ⟨by rfl, ?_⟩) ?_ ?_
      rotate_left
      · intro w'
        go_simp
        with_reducible rfl
      rotate_left
      · simp only [Act.put, List.setIfInBounds_toArray, List.set_cons_zero, List.set_cons_succ, i64_w, i32_w]
        rfl
      refine take_ (i := 13) (N := some 20) (v := ?_) (a' := ?_) #[true, true, true, true, true, true, true, true, true, true, true, true, true, true, true, false, true, false, false, false, false, false, false, false, false, false, false, false, false, false, false, false] rfl rfl (by kernel_rfl) (fun _ _ _ h => h) (Or.inl ⟨by rfl, ?_⟩) hHeld ?_ ?_
      rotate_left
      · rintro w' ⟨s0, s1, s2⟩
        go_simp
        with_reducible rfl
      rotate_left
      · simp only [Act.put, List.setIfInBounds_toArray, List.set_cons_zero, List.set_cons_succ, i64_w, i32_w]
        rfl
      refine one_ (i := 15) (N := some 22) #[true, true, true, true, true, true, true, true, true, true, true, true, true, true, true, true, true, false, false, false, false, false, false, false, false, false, false, false, false, false, false, false] rfl rfl (by kernel_rfl) (by decide) (fun K hK => ?_)
      refine goes_ Tryd.func73 (by kernel_rfl) rfl #[.slice A0 G.length c0, .int .i64 (x : Int)] (by rfl) rfl rfl (by simp only [List.map_toArray, List.map_cons, List.map_nil]; rfl) ?_
      with_reducible refine (CBOR.out _ hHeld.2.2).mono ?_
      rintro e w3 ⟨rfl, f0', f1', fb'⟩
      refine ⟨_, rfl, ?_⟩
      refine hK.out _ _ ⟨f0', f1', fb'⟩ (fun hHeld => ?_)
      clear hK K
      refine norm_ (a' := ?_) ?_ ?_
      rotate_left
      · show Act.put _ (some 22) _ = _
        simp only [Act.put, List.setIfInBounds_toArray, List.set_cons_zero, List.set_cons_succ, i64_w, i32_w]
        rfl
      refine pure_ (i := 17) (N := some 24) (v := ?_) (a' := ?_) #[true, true, true, true, true, true, true, true, true, true, true, true, true, true, true, true, true, true, false, false, false, false, false, false, false, false, false, false, false, false, false, false] rfl rfl (by kernel_rfl) (fun _ _ _ h => h) (Or.inl ⟨by rfl, ?_⟩) ?_ ?_
      rotate_left
      · intro w'
        go_simp
        with_reducible rfl
      rotate_left
      · simp only [Act.put, List.setIfInBounds_toArray, List.set_cons_zero, List.set_cons_succ, i64_w, i32_w]
        rfl
      refine pure_ (i := 18) (N := some 25) (v := ?_) (a' := ?_) #[true, true, true, true, true, true, true, true, true, true, true, true, true, true, true, true, true, true, true, false, false, false, false, false, false, false, false, false, false, false, false, false] rfl rfl (by kernel_rfl) (fun _ _ _ h => h) (Or.inl ⟨by rfl, ?_⟩) ?_ ?_
      rotate_left
      · intro w'
        go_simp
        with_reducible rfl
      rotate_left
      · simp only [Act.put, List.setIfInBounds_toArray, List.set_cons_zero, List.set_cons_succ, i64_w, i32_w]
        rfl
      refine pure_ (i := 19) (N := some 26) (v := ?_) (a' := ?_) #[true, true, true, true, true, true, true, true, true, true, true, true, true, true, true, true, true, true, true, true, false, false, false, false, false, false, false, false, false, false, false, false] rfl rfl (by kernel_rfl) (fun _ _ _ h => h) (Or.inl ⟨by rfl, ?_⟩) ?_ ?_
      rotate_left
      · intro w'
        go_simp
        with_reducible rfl
      rotate_left
      · simp only [Act.put, List.setIfInBounds_toArray, List.set_cons_zero, List.set_cons_succ, i64_w, i32_w]
        rfl
      refine pure_ (i := 20) (N := some 27) (v := ?_) (a' := ?_) #[true, true, true, true, true, true, true, true, true, true, true, true, true, true, true, true, true, true, true, true, true, false, false, false, false, false, false, false, false, false, false, false] rfl rfl (by kernel_rfl) (fun _ _ _ h => h) (Or.inl ⟨by rfl, ?_⟩) ?_ ?_
      rotate_left
      · intro w'
        go_simp
        with_reducible rfl
      rotate_left
      · simp only [Act.put, List.setIfInBounds_toArray, List.set_cons_zero, List.set_cons_succ, i64_w, i32_w]
        rfl
      refine pure_ (i := 21) (N := some 28) (v := ?_) (a' := ?_) #[true, true, true, true, true, true, true, true, true, true, true, true, true, true, true, true, true, true, true, true, true, true, false, false, false, false, false, false, false, false, false, false] rfl rfl (by kernel_rfl) (fun _ _ _ h => h) (Or.inl ⟨by rfl, ?_⟩) ?_ ?_
      rotate_left
      · intro w'
        go_simp
        with_reducible rfl
      rotate_left
      · simp only [Act.put, List.setIfInBounds_toArray, List.set_cons_zero, List.set_cons_succ, i64_w, i32_w]
        rfl
      refine pure_ (i := 22) (N := some 29) (v := ?_) (a' := ?_) #[true, true, true, true, true, true, true, true, true, true, true, true, true, true, true, true, true, true, true, true, true, true, true, false, false, false, false, false, false, false, false, false] rfl rfl (by kernel_rfl) (fun _ _ _ h => h) (Or.inl ⟨by rfl, ?_⟩) ?_ ?_
      rotate_left
      · intro w'
        go_simp
        with_reducible rfl
      rotate_left
      · simp only [Act.put, List.setIfInBounds_toArray, List.set_cons_zero, List.set_cons_succ, i64_w, i32_w]
        rfl
      refine pure_ (i := 23) (N := some 30) (v := ?_) (a' := ?_) #[true, true, true, true, true, true, true, true, true, true, true, true, true, true, true, true, true, true, true, true, true, true, true, true, false, false, false, false, false, false, false, false] rfl rfl (by kernel_rfl) (fun _ _ _ h => h) (Or.inl ⟨by rfl, ?_⟩) ?_ ?_
      rotate_left
      · intro w'
        go_simp
        with_reducible rfl
      rotate_left
      · simp only [Act.put, List.setIfInBounds_toArray, List.set_cons_zero, List.set_cons_succ, i64_w, i32_w]
        rfl
      refine pure_ (i := 25) (N := some 32) (v := ?_) (a' := ?_) #[true, true, true, true, true, true, true, true, true, true, true, true, true, true, true, true, true, true, true, true, true, true, true, true, false, true, false, false, false, false, false, false] rfl rfl (by kernel_rfl) (fun _ _ _ h => h) (Or.inl ⟨by rfl, ?_⟩) ?_ ?_
      rotate_left
      · intro w'
        go_simp
        with_reducible rfl
      rotate_left
      · simp only [Act.put, List.setIfInBounds_toArray, List.set_cons_zero, List.set_cons_succ, i64_w, i32_w]
        rfl
      refine pure_ (i := 26) (N := some 33) (v := ?_) (a' := ?_) #[true, true, true, true, true, true, true, true, true, true, true, true, true, true, true, true, true, true, true, true, true, true, true, true, false, true, true, false, false, false, false, false] rfl rfl (by kernel_rfl) (fun _ _ _ h => h) (Or.inl ⟨by rfl, ?_⟩) ?_ ?_
      rotate_left
      · intro w'
        go_simp
        with_reducible rfl
      rotate_left
      · simp only [Act.put, List.setIfInBounds_toArray, List.set_cons_zero, List.set_cons_succ, i64_w, i32_w]
        rfl
      refine pure_ (i := 27) (N := some 34) (v := ?_) (a' := ?_) #[true, true, true, true, true, true, true, true, true, true, true, true, true, true, true, true, true, true, true, true, true, true, true, true, false, true, true, true, false, false, false, false] rfl rfl (by kernel_rfl) (fun _ _ _ h => h) (Or.inl ⟨by rfl, ?_⟩) ?_ ?_
      rotate_left
      · intro w'
        go_simp
        with_reducible rfl
      rotate_left
      · simp only [Act.put, List.setIfInBounds_toArray, List.set_cons_zero, List.set_cons_succ, i64_w, i32_w]
        rfl
      refine take_ (i := 28) (N := some 35) (v := ?_) (a' := ?_) #[true, true, true, true, true, true, true, true, true, true, true, true, true, true, true, true, true, true, true, true, true, true, true, true, false, true, true, true, true, false, false, false] rfl rfl (by kernel_rfl) (fun _ _ _ h => h) (Or.inl ⟨by rfl, ?_⟩) hHeld ?_ ?_
      rotate_left
      · rintro w' ⟨s0, s1, s2⟩
        go_simp
        with_reducible rfl
      rotate_left
      · simp only [Act.put, List.setIfInBounds_toArray, List.set_cons_zero, List.set_cons_succ, i64_w, i32_w]
        rfl
      refine one_ (i := 24) (N := some 31) #[true, true, true, true, true, true, true, true, true, true, true, true, true, true, true, true, true, true, true, true, true, true, true, true, true, true, true, true, true, false, false, false] rfl rfl (by kernel_rfl) (by decide) (fun K hK => ?_)
      refine goes_ Tryd.func63 (by kernel_rfl) rfl #[.int .i64 (an : Int)] (by rfl) rfl rfl (by simp only [List.map_toArray, List.map_cons, List.map_nil]; rfl) ?_
      with_reducible refine (CCNT.out _ hHeld.2.2).mono ?_
      rintro e w3 ⟨rfl, f0', f1', fb'⟩
      refine ⟨_, rfl, ?_⟩
      refine hK.out _ _ ⟨f0', f1', fb'⟩ (fun hHeld => ?_)
      clear hK K
      refine norm_ (a' := ?_) ?_ ?_
      rotate_left
      · show Act.put _ (some 31) _ = _
        simp only [Act.put, List.setIfInBounds_toArray, List.set_cons_zero, List.set_cons_succ, i64_w, i32_w]
        rfl
      refine pure_ (i := 29) (N := some 36) (v := ?_) (a' := ?_) #[true, true, true, true, true, true, true, true, true, true, true, true, true, true, true, true, true, true, true, true, true, true, true, true, true, true, true, true, true, true, false, false] rfl rfl (by kernel_rfl) (fun _ _ _ h => h) (Or.inl ⟨by rfl, ?_⟩) ?_ ?_
      rotate_left
      · intro w'
        go_simp
        with_reducible rfl
      rotate_left
      · simp only [Act.put, List.setIfInBounds_toArray, List.set_cons_zero, List.set_cons_succ, i64_w, i32_w]
        rfl
      refine pure_ (i := 30) (N := some 37) (v := ?_) (a' := ?_) #[true, true, true, true, true, true, true, true, true, true, true, true, true, true, true, true, true, true, true, true, true, true, true, true, true, true, true, true, true, true, true, false] rfl rfl (by kernel_rfl) (fun _ _ _ h => h) (Or.inl ⟨by rfl, ?_⟩) ?_ ?_
      rotate_left
      · intro w'
        go_simp
        with_reducible rfl
      rotate_left
      · simp only [Act.put, List.setIfInBounds_toArray, List.set_cons_zero, List.set_cons_succ, i64_w, i32_w]
        rfl
      refine pure_ (i := 31) (N := some 6) (v := ?_) (a' := ?_) #[true, true, true, true, true, true, true, true, true, true, true, true, true, true, true, true, true, true, true, true, true, true, true, true, true, true, true, true, true, true, true, true] rfl rfl (by kernel_rfl) (fun _ _ _ h => h) (Or.inl ⟨by rfl, ?_⟩) ?_ ?_
      rotate_left
      · intro w'
        go_simp
        with_reducible rfl
      rotate_left
      · simp only [Act.put, List.setIfInBounds_toArray, List.set_cons_zero, List.set_cons_succ, i64_w, i32_w]
        rfl
      refine done_ (by kernel_rfl) ?_

      go_wp2
      go_ret
      refine ⟨?_, by assumption⟩
      show Ending.returned (Value.bool (decide (pa ≤ k))) = _
      rw [T3.out]
    · have t2 : ((dx : Int) == 0) = false := by simp; omega
      obtain rfl : false = R := by
        rw [← hR]
        simp [c2]
      clear c1 c2 hR
      go_enter Tryd.func74, Tryd.ntmps74
      go_wp2_with (fail)
      refine start_ (n := 32) (S := fun w' => w'.cell? ⟨f, 0, none⟩ = some (.slice A0 G.length c0) ∧ w'.cell? ⟨f, 1, none⟩ = some (.int .i64 (k : Int)) ∧ Below w.heap.size w w') (ds := []) #[false, false, false, false, false, false, false, false, false, false, false, false, false, false, false, false, false, false, false, false, false, false, false, false, false, false, false, false, false, false, false, false] (by kernel_rfl) rfl rfl ⟨h0d, h1d, HB0⟩ (fun hHeld => ?_)
      refine pure_ (i := 0) (N := some 7) (v := ?_) (a' := ?_) #[true, false, false, false, false, false, false, false, false, false, false, false, false, false, false, false, false, false, false, false, false, false, false, false, false, false, false, false, false, false, false, false] rfl rfl (by kernel_rfl) (fun _ _ _ h => h) (Or.inl ⟨by rfl, ?_⟩) ?_ ?_
      rotate_left
      · intro w'
        go_simp
        with_reducible rfl
      rotate_left
      · simp only [Act.put, List.setIfInBounds_toArray, List.set_cons_zero, List.set_cons_succ, i64_w, i32_w]
        rfl
      refine pure_ (i := 1) (N := some 8) (v := ?_) (a' := ?_) #[true, true, false, false, false, false, false, false, false, false, false, false, false, false, false, false, false, false, false, false, false, false, false, false, false, false, false, false, false, false, false, false] rfl rfl (by kernel_rfl) (fun _ _ _ h => h) (Or.inl ⟨by rfl, ?_⟩) ?_ ?_
      rotate_left
      · intro w'
        go_simp
        with_reducible rfl
      rotate_left
      · simp only [Act.put, List.setIfInBounds_toArray, List.set_cons_zero, List.set_cons_succ, i64_w, i32_w]
        rfl
      refine pure_ (i := 2) (N := some 9) (v := ?_) (a' := ?_) #[true, true, true, false, false, false, false, false, false, false, false, false, false, false, false, false, false, false, false, false, false, false, false, false, false, false, false, false, false, false, false, false] rfl rfl (by kernel_rfl) (fun _ _ _ h => h) (Or.inl ⟨by rfl, ?_⟩) ?_ ?_
      rotate_left
      · intro w'
        go_simp
        with_reducible rfl
      rotate_left
      · simp only [Act.put, List.setIfInBounds_toArray, List.set_cons_zero, List.set_cons_succ, i64_w, i32_w]
        rfl
      refine pure_ (i := 3) (N := some 10) (v := ?_) (a' := ?_) #[true, true, true, true, false, false, false, false, false, false, false, false, false, false, false, false, false, false, false, false, false, false, false, false, false, false, false, false, false, false, false, false] rfl rfl (by kernel_rfl) (fun _ _ _ h => h) (Or.inl ⟨by rfl, ?_⟩) ?_ ?_
      rotate_left
      · intro w'
        go_simp
        with_reducible rfl
      rotate_left
      · simp only [Act.put, List.setIfInBounds_toArray, List.set_cons_zero, List.set_cons_succ, i64_w, i32_w]
        rfl
      refine pure_ (i := 4) (N := some 11) (v := ?_) (a' := ?_) #[true, true, true, true, true, false, false, false, false, false, false, false, false, false, false, false, false, false, false, false, false, false, false, false, false, false, false, false, false, false, false, false] rfl rfl (by kernel_rfl) (fun _ _ _ h => h) (Or.inl ⟨by rfl, ?_⟩) ?_ ?_
      rotate_left
      · intro w'
        go_simp
        with_reducible rfl
      rotate_left
      · simp only [Act.put, List.setIfInBounds_toArray, List.set_cons_zero, List.set_cons_succ, i64_w, i32_w]
        rfl
      refine pure_ (i := 5) (N := some 12) (v := ?_) (a' := ?_) #[true, true, true, true, true, true, false, false, false, false, false, false, false, false, false, false, false, false, false, false, false, false, false, false, false, false, false, false, false, false, false, false] rfl rfl (by kernel_rfl) (fun _ _ _ h => h) (Or.inl ⟨by rfl, ?_⟩) ?_ ?_
      rotate_left
      · intro w'
        go_simp
        with_reducible rfl
      rotate_left
      · simp only [Act.put, List.setIfInBounds_toArray, List.set_cons_zero, List.set_cons_succ, i64_w, i32_w]
        rfl
      refine take_ (i := 6) (N := some 13) (v := ?_) (a' := ?_) #[true, true, true, true, true, true, true, false, false, false, false, false, false, false, false, false, false, false, false, false, false, false, false, false, false, false, false, false, false, false, false, false] rfl rfl (by kernel_rfl) (fun _ _ _ h => h) (Or.inl ⟨by rfl, ?_⟩) hHeld ?_ ?_
      rotate_left
      · rintro w' ⟨s0, s1, s2⟩
        go_simp
        with_reducible rfl
      rotate_left
      · simp only [Act.put, List.setIfInBounds_toArray, List.set_cons_zero, List.set_cons_succ, i64_w, i32_w]
        rfl
      refine one_ (i := 7) (N := some 14) #[true, true, true, true, true, true, true, true, false, false, false, false, false, false, false, false, false, false, false, false, false, false, false, false, false, false, false, false, false, false, false, false] rfl rfl (by kernel_rfl) (by decide) (fun K hK => ?_)
      refine goes_ Tryd.func61 (by kernel_rfl) rfl #[.slice A0 G.length c0] (by rfl) rfl rfl (by simp only [List.map_toArray, List.map_cons, List.map_nil]; rfl) ?_
      with_reducible refine (CALL.out _ hHeld.2.2).mono ?_
      rintro e w3 ⟨rfl, f0', f1', fb'⟩
      refine ⟨_, rfl, ?_⟩
      refine hK.out _ _ ⟨f0', f1', fb'⟩ (fun hHeld => ?_)
      clear hK K
      refine norm_ (a' := ?_) ?_ ?_
      rotate_left
      · show Act.put _ (some 14) _ = _
        simp only [Act.put, List.setIfInBounds_toArray, List.set_cons_zero, List.set_cons_succ, i64_w, i32_w]
        rfl
      refine pure_ (i := 8) (N := some 15) (v := ?_) (a' := ?_) #[true, true, true, true, true, true, true, true, true, false, false, false, false, false, false, false, false, false, false, false, false, false, false, false, false, false, false, false, false, false, false, false] rfl rfl (by kernel_rfl) (fun _ _ _ h => h) (Or.inl ⟨by rfl, ?_⟩) ?_ ?_
      rotate_left
      · intro w'
        go_simp
        with_reducible rfl
      rotate_left
      · simp only [Act.put, List.setIfInBounds_toArray, List.set_cons_zero, List.set_cons_succ, i64_w, i32_w]
        rfl
      refine pure_ (i := 9) (N := some 16) (v := ?_) (a' := ?_) #[true, true, true, true, true, true, true, true, true, true, false, false, false, false, false, false, false, false, false, false, false, false, false, false, false, false, false, false, false, false, false, false] rfl rfl (by kernel_rfl) (fun _ _ _ h => h) (Or.inl ⟨by rfl, ?_⟩) ?_ ?_
      rotate_left
      · intro w'
        go_simp
        with_reducible rfl
      rotate_left
      · simp only [Act.put, List.setIfInBounds_toArray, List.set_cons_zero, List.set_cons_succ, i64_w, i32_w]
        rfl
      refine pure_ (i := 10) (N := some 17) (v := ?_) (a' := ?_) #[true, true, true, true, true, true, true, true, true, true, true, false, false, false, false, false, false, false, false, false, false, false, false, false, false, false, false, false, false, false, false, false] rfl rfl (by kernel_rfl) (fun _ _ _ h => h) (Or.inl ⟨by rfl, ?_⟩) ?_ ?_
      rotate_left
      · intro w'
        go_simp
        with_reducible rfl
      rotate_left
      · simp only [Act.put, List.setIfInBounds_toArray, List.set_cons_zero, List.set_cons_succ, i64_w, i32_w]
        rfl
      refine pure_ (i := 11) (N := some 18) (v := ?_) (a' := ?_) #[true, true, true, true, true, true, true, true, true, true, true, true, false, false, false, false, false, false, false, false, false, false, false, false, false, false, false, false, false, false, false, false] rfl rfl (by kernel_rfl) (fun _ _ _ h => h) (Or.inl ⟨by rfl, ?_⟩) ?_ ?_
      rotate_left
      · intro w'
        go_simp
        with_reducible rfl
      rotate_left
      · simp only [Act.put, List.setIfInBounds_toArray, List.set_cons_zero, List.set_cons_succ, i64_w, i32_w]
        rfl
      refine pure_ (i := 12) (N := some 19) (v := ?_) (a' := ?_) #[true, true, true, true, true, true, true, true, true, true, true, true, true, false, false, false, false, false, false, false, false, false, false, false, false, false, false, false, false, false, false, false] rfl rfl (by kernel_rfl) (fun _ _ _ h => h) (Or.inl ⟨by rfl, ?_⟩) ?_ ?_
      rotate_left
      · intro w'
        go_simp
        with_reducible rfl
      rotate_left
      · simp only [Act.put, List.setIfInBounds_toArray, List.set_cons_zero, List.set_cons_succ, i64_w, i32_w]
        rfl
      refine pure_ (i := 14) (N := some 21) (v := ?_) (a' := ?_) #[true, true, true, true, true, true, true, true, true, true, true, true, true, false, true, false, false, false, false, false, false, false, false, false, false, false, false, false, false, false, false, false] rfl rfl (by kernel_rfl) (fun _ _ _ h => h) (Or.inl ⟨by rfl, ?_⟩) ?_ ?_
      rotate_left
      · intro w'
        go_simp
        with_reducible rfl
      rotate_left
      · simp only [Act.put, List.setIfInBounds_toArray, List.set_cons_zero, List.set_cons_succ, i64_w, i32_w]
        rfl
      refine pure_ (i := 16) (N := some 23) (v := ?_) (a' := ?_) #[true, true, true, true, true, true, true, true, true, true, true, true, true, false, true, false, true, false, false, false, false, false, false, false, false, false, false, false, false, false, false, false] rfl rfl (by kernel_rfl) (fun _ _ _ h => h) (Or.inl ⟨by rfl, ?_⟩) ?_ ?_
      rotate_left
      · intro w'
        go_simp
        with_reducible rfl
      rotate_left
      · simp only [Act.put, List.setIfInBounds_toArray, List.set_cons_zero, List.set_cons_succ, i64_w, i32_w]
        rfl
      refine take_ (i := 13) (N := some 20) (v := ?_) (a' := ?_) #[true, true, true, true, true, true, true, true, true, true, true, true, true, true, true, false, true, false, false, false, false, false, false, false, false, false, false, false, false, false, false, false] rfl rfl (by kernel_rfl) (fun _ _ _ h => h) (Or.inl ⟨by rfl, ?_⟩) hHeld ?_ ?_
      rotate_left
      · rintro w' ⟨s0, s1, s2⟩
        go_simp
        with_reducible rfl
      rotate_left
      · simp only [Act.put, List.setIfInBounds_toArray, List.set_cons_zero, List.set_cons_succ, i64_w, i32_w]
        rfl
      refine one_ (i := 15) (N := some 22) #[true, true, true, true, true, true, true, true, true, true, true, true, true, true, true, true, true, false, false, false, false, false, false, false, false, false, false, false, false, false, false, false] rfl rfl (by kernel_rfl) (by decide) (fun K hK => ?_)
      refine goes_ Tryd.func73 (by kernel_rfl) rfl #[.slice A0 G.length c0, .int .i64 (x : Int)] (by rfl) rfl rfl (by simp only [List.map_toArray, List.map_cons, List.map_nil]; rfl) ?_
      with_reducible refine (CBOR.out _ hHeld.2.2).mono ?_
      rintro e w3 ⟨rfl, f0', f1', fb'⟩
      refine ⟨_, rfl, ?_⟩
      refine hK.out _ _ ⟨f0', f1', fb'⟩ (fun hHeld => ?_)
      clear hK K
      refine norm_ (a' := ?_) ?_ ?_
      rotate_left
      · show Act.put _ (some 22) _ = _
        simp only [Act.put, List.setIfInBounds_toArray, List.set_cons_zero, List.set_cons_succ, i64_w, i32_w]
        rfl
      refine pure_ (i := 17) (N := some 24) (v := ?_) (a' := ?_) #[true, true, true, true, true, true, true, true, true, true, true, true, true, true, true, true, true, true, false, false, false, false, false, false, false, false, false, false, false, false, false, false] rfl rfl (by kernel_rfl) (fun _ _ _ h => h) (Or.inl ⟨by rfl, ?_⟩) ?_ ?_
      rotate_left
      · intro w'
        go_simp
        with_reducible rfl
      rotate_left
      · simp only [Act.put, List.setIfInBounds_toArray, List.set_cons_zero, List.set_cons_succ, i64_w, i32_w]
        rfl
      refine pure_ (i := 18) (N := some 25) (v := ?_) (a' := ?_) #[true, true, true, true, true, true, true, true, true, true, true, true, true, true, true, true, true, true, true, false, false, false, false, false, false, false, false, false, false, false, false, false] rfl rfl (by kernel_rfl) (fun _ _ _ h => h) (Or.inl ⟨by rfl, ?_⟩) ?_ ?_
      rotate_left
      · intro w'
        go_simp
        with_reducible rfl
      rotate_left
      · simp only [Act.put, List.setIfInBounds_toArray, List.set_cons_zero, List.set_cons_succ, i64_w, i32_w]
        rfl
      refine pure_ (i := 19) (N := some 26) (v := ?_) (a' := ?_) #[true, true, true, true, true, true, true, true, true, true, true, true, true, true, true, true, true, true, true, true, false, false, false, false, false, false, false, false, false, false, false, false] rfl rfl (by kernel_rfl) (fun _ _ _ h => h) (Or.inl ⟨by rfl, ?_⟩) ?_ ?_
      rotate_left
      · intro w'
        go_simp
        with_reducible rfl
      rotate_left
      · simp only [Act.put, List.setIfInBounds_toArray, List.set_cons_zero, List.set_cons_succ, i64_w, i32_w]
        rfl
      refine pure_ (i := 20) (N := some 27) (v := ?_) (a' := ?_) #[true, true, true, true, true, true, true, true, true, true, true, true, true, true, true, true, true, true, true, true, true, false, false, false, false, false, false, false, false, false, false, false] rfl rfl (by kernel_rfl) (fun _ _ _ h => h) (Or.inl ⟨by rfl, ?_⟩) ?_ ?_
      rotate_left
      · intro w'
        go_simp
        with_reducible rfl
      rotate_left
      · simp only [Act.put, List.setIfInBounds_toArray, List.set_cons_zero, List.set_cons_succ, i64_w, i32_w]
        rfl
      refine pure_ (i := 21) (N := some 28) (v := undef) (a' := ?_) #[true, true, true, true, true, true, true, true, true, true, true, true, true, true, true, true, true, true, true, true, true, true, false, false, false, false, false, false, false, false, false, false] rfl rfl (by kernel_rfl) (fun _ _ _ h => h) (Or.inr ⟨by rfl, rfl⟩) ?_ ?_
      rotate_left
      · simp only [Act.put, List.setIfInBounds_toArray, List.set_cons_zero, List.set_cons_succ, i64_w, i32_w]
        rfl
      refine pure_ (i := 22) (N := some 29) (v := undef) (a' := ?_) #[true, true, true, true, true, true, true, true, true, true, true, true, true, true, true, true, true, true, true, true, true, true, true, false, false, false, false, false, false, false, false, false] rfl rfl (by kernel_rfl) (fun _ _ _ h => h) (Or.inr ⟨by rfl, rfl⟩) ?_ ?_
      rotate_left
      · simp only [Act.put, List.setIfInBounds_toArray, List.set_cons_zero, List.set_cons_succ, i64_w, i32_w]
        rfl
      refine pure_ (i := 23) (N := some 30) (v := undef) (a' := ?_) #[true, true, true, true, true, true, true, true, true, true, true, true, true, true, true, true, true, true, true, true, true, true, true, true, false, false, false, false, false, false, false, false] rfl rfl (by kernel_rfl) (fun _ _ _ h => h) (Or.inr ⟨by rfl, rfl⟩) ?_ ?_
      rotate_left
      · simp only [Act.put, List.setIfInBounds_toArray, List.set_cons_zero, List.set_cons_succ, i64_w, i32_w]
        rfl
      refine pure_ (i := 24) (N := some 31) (v := undef) (a' := ?_) #[true, true, true, true, true, true, true, true, true, true, true, true, true, true, true, true, true, true, true, true, true, true, true, true, true, false, false, false, false, false, false, false] rfl rfl (by kernel_rfl) (fun _ _ _ h => h) (Or.inr ⟨by rfl, rfl⟩) ?_ ?_
      rotate_left
      · simp only [Act.put, List.setIfInBounds_toArray, List.set_cons_zero, List.set_cons_succ, i64_w, i32_w]
        rfl
      refine pure_ (i := 25) (N := some 32) (v := undef) (a' := ?_) #[true, true, true, true, true, true, true, true, true, true, true, true, true, true, true, true, true, true, true, true, true, true, true, true, true, true, false, false, false, false, false, false] rfl rfl (by kernel_rfl) (fun _ _ _ h => h) (Or.inr ⟨by rfl, rfl⟩) ?_ ?_
      rotate_left
      · simp only [Act.put, List.setIfInBounds_toArray, List.set_cons_zero, List.set_cons_succ, i64_w, i32_w]
        rfl
      refine pure_ (i := 26) (N := some 33) (v := undef) (a' := ?_) #[true, true, true, true, true, true, true, true, true, true, true, true, true, true, true, true, true, true, true, true, true, true, true, true, true, true, true, false, false, false, false, false] rfl rfl (by kernel_rfl) (fun _ _ _ h => h) (Or.inr ⟨by rfl, rfl⟩) ?_ ?_
      rotate_left
      · simp only [Act.put, List.setIfInBounds_toArray, List.set_cons_zero, List.set_cons_succ, i64_w, i32_w]
        rfl
      refine pure_ (i := 27) (N := some 34) (v := undef) (a' := ?_) #[true, true, true, true, true, true, true, true, true, true, true, true, true, true, true, true, true, true, true, true, true, true, true, true, true, true, true, true, false, false, false, false] rfl rfl (by kernel_rfl) (fun _ _ _ h => h) (Or.inr ⟨by rfl, rfl⟩) ?_ ?_
      rotate_left
      · simp only [Act.put, List.setIfInBounds_toArray, List.set_cons_zero, List.set_cons_succ, i64_w, i32_w]
        rfl
      refine pure_ (i := 28) (N := some 35) (v := undef) (a' := ?_) #[true, true, true, true, true, true, true, true, true, true, true, true, true, true, true, true, true, true, true, true, true, true, true, true, true, true, true, true, true, false, false, false] rfl rfl (by kernel_rfl) (fun _ _ _ h => h) (Or.inr ⟨by rfl, rfl⟩) ?_ ?_
      rotate_left
      · simp only [Act.put, List.setIfInBounds_toArray, List.set_cons_zero, List.set_cons_succ, i64_w, i32_w]
        rfl
      refine pure_ (i := 29) (N := some 36) (v := undef) (a' := ?_) #[true, true, true, true, true, true, true, true, true, true, true, true, true, true, true, true, true, true, true, true, true, true, true, true, true, true, true, true, true, true, false, false] rfl rfl (by kernel_rfl) (fun _ _ _ h => h) (Or.inr ⟨by rfl, rfl⟩) ?_ ?_
      rotate_left
      · simp only [Act.put, List.setIfInBounds_toArray, List.set_cons_zero, List.set_cons_succ, i64_w, i32_w]
        rfl
      refine pure_ (i := 30) (N := some 37) (v := ?_) (a' := ?_) #[true, true, true, true, true, true, true, true, true, true, true, true, true, true, true, true, true, true, true, true, true, true, true, true, true, true, true, true, true, true, true, false] rfl rfl (by kernel_rfl) (fun _ _ _ h => h) (Or.inl ⟨by rfl, ?_⟩) ?_ ?_
      rotate_left
      · intro w'
        go_simp
        with_reducible rfl
      rotate_left
      · simp only [Act.put, List.setIfInBounds_toArray, List.set_cons_zero, List.set_cons_succ, i64_w, i32_w]
        rfl
      refine pure_ (i := 31) (N := some 6) (v := ?_) (a' := ?_) #[true, true, true, true, true, true, true, true, true, true, true, true, true, true, true, true, true, true, true, true, true, true, true, true, true, true, true, true, true, true, true, true] rfl rfl (by kernel_rfl) (fun _ _ _ h => h) (Or.inl ⟨by rfl, ?_⟩) ?_ ?_
      rotate_left
      · intro w'
        go_simp
        with_reducible rfl
      rotate_left
      · simp only [Act.put, List.setIfInBounds_toArray, List.set_cons_zero, List.set_cons_succ, i64_w, i32_w]
        rfl
      refine done_ (by kernel_rfl) ?_

      go_wp2
      go_ret
      exact ⟨rfl, by assumption⟩
  · have t1 : ((o : Int) == (P : Int)) = false := by simp; omega
    obtain rfl : false = R := by
      rw [← hR]
      simp [c1]
    clear c1 hR
    go_enter Tryd.func74, Tryd.ntmps74
    go_wp2_with (fail)
    refine start_ (n := 32) (S := fun w' => w'.cell? ⟨f, 0, none⟩ = some (.slice A0 G.length c0) ∧ w'.cell? ⟨f, 1, none⟩ = some (.int .i64 (k : Int)) ∧ Below w.heap.size w w') (ds := []) #[false, false, false, false, false, false, false, false, false, false, false, false, false, false, false, false, false, false, false, false, false, false, false, false, false, false, false, false, false, false, false, false] (by kernel_rfl) rfl rfl ⟨h0d, h1d, HB0⟩ (fun hHeld => ?_)
    refine pure_ (i := 0) (N := some 7) (v := ?_) (a' := ?_) #[true, false, false, false, false, false, false, false, false, false, false, false, false, false, false, false, false, false, false, false, false, false, false, false, false, false, false, false, false, false, false, false] rfl rfl (by kernel_rfl) (fun _ _ _ h => h) (Or.inl ⟨by rfl, ?_⟩) ?_ ?_
    rotate_left
    · intro w'
      go_simp
      with_reducible rfl
    rotate_left
    · simp only [Act.put, List.setIfInBounds_toArray, List.set_cons_zero, List.set_cons_succ, i64_w, i32_w]
      rfl
    refine pure_ (i := 1) (N := some 8) (v := ?_) (a' := ?_) #[true, true, false, false, false, false, false, false, false, false, false, false, false, false, false, false, false, false, false, false, false, false, false, false, false, false, false, false, false, false, false, false] rfl rfl (by kernel_rfl) (fun _ _ _ h => h) (Or.inl ⟨by rfl, ?_⟩) ?_ ?_
    rotate_left
    · intro w'
      go_simp
      with_reducible rfl
    rotate_left
    · simp only [Act.put, List.setIfInBounds_toArray, List.set_cons_zero, List.set_cons_succ, i64_w, i32_w]
      rfl
    refine pure_ (i := 2) (N := some 9) (v := ?_) (a' := ?_) #[true, true, true, false, false, false, false, false, false, false, false, false, false, false, false, false, false, false, false, false, false, false, false, false, false, false, false, false, false, false, false, false] rfl rfl (by kernel_rfl) (fun _ _ _ h => h) (Or.inl ⟨by rfl, ?_⟩) ?_ ?_
    rotate_left
    · intro w'
      go_simp
      with_reducible rfl
    rotate_left
    · simp only [Act.put, List.setIfInBounds_toArray, List.set_cons_zero, List.set_cons_succ, i64_w, i32_w]
      rfl
    refine pure_ (i := 3) (N := some 10) (v := ?_) (a' := ?_) #[true, true, true, true, false, false, false, false, false, false, false, false, false, false, false, false, false, false, false, false, false, false, false, false, false, false, false, false, false, false, false, false] rfl rfl (by kernel_rfl) (fun _ _ _ h => h) (Or.inl ⟨by rfl, ?_⟩) ?_ ?_
    rotate_left
    · intro w'
      go_simp
      with_reducible rfl
    rotate_left
    · simp only [Act.put, List.setIfInBounds_toArray, List.set_cons_zero, List.set_cons_succ, i64_w, i32_w]
      rfl
    refine pure_ (i := 4) (N := some 11) (v := ?_) (a' := ?_) #[true, true, true, true, true, false, false, false, false, false, false, false, false, false, false, false, false, false, false, false, false, false, false, false, false, false, false, false, false, false, false, false] rfl rfl (by kernel_rfl) (fun _ _ _ h => h) (Or.inl ⟨by rfl, ?_⟩) ?_ ?_
    rotate_left
    · intro w'
      go_simp
      with_reducible rfl
    rotate_left
    · simp only [Act.put, List.setIfInBounds_toArray, List.set_cons_zero, List.set_cons_succ, i64_w, i32_w]
      rfl
    refine pure_ (i := 5) (N := some 12) (v := ?_) (a' := ?_) #[true, true, true, true, true, true, false, false, false, false, false, false, false, false, false, false, false, false, false, false, false, false, false, false, false, false, false, false, false, false, false, false] rfl rfl (by kernel_rfl) (fun _ _ _ h => h) (Or.inl ⟨by rfl, ?_⟩) ?_ ?_
    rotate_left
    · intro w'
      go_simp
      with_reducible rfl
    rotate_left
    · simp only [Act.put, List.setIfInBounds_toArray, List.set_cons_zero, List.set_cons_succ, i64_w, i32_w]
      rfl
    refine take_ (i := 6) (N := some 13) (v := ?_) (a' := ?_) #[true, true, true, true, true, true, true, false, false, false, false, false, false, false, false, false, false, false, false, false, false, false, false, false, false, false, false, false, false, false, false, false] rfl rfl (by kernel_rfl) (fun _ _ _ h => h) (Or.inl ⟨by rfl, ?_⟩) hHeld ?_ ?_
    rotate_left
    · rintro w' ⟨s0, s1, s2⟩
      go_simp
      with_reducible rfl
    rotate_left
    · simp only [Act.put, List.setIfInBounds_toArray, List.set_cons_zero, List.set_cons_succ, i64_w, i32_w]
      rfl
    refine one_ (i := 7) (N := some 14) #[true, true, true, true, true, true, true, true, false, false, false, false, false, false, false, false, false, false, false, false, false, false, false, false, false, false, false, false, false, false, false, false] rfl rfl (by kernel_rfl) (by decide) (fun K hK => ?_)
    refine goes_ Tryd.func61 (by kernel_rfl) rfl #[.slice A0 G.length c0] (by rfl) rfl rfl (by simp only [List.map_toArray, List.map_cons, List.map_nil]; rfl) ?_
    with_reducible refine (CALL.out _ hHeld.2.2).mono ?_
    rintro e w3 ⟨rfl, f0', f1', fb'⟩
    refine ⟨_, rfl, ?_⟩
    refine hK.out _ _ ⟨f0', f1', fb'⟩ (fun hHeld => ?_)
    clear hK K
    refine norm_ (a' := ?_) ?_ ?_
    rotate_left
    · show Act.put _ (some 14) _ = _
      simp only [Act.put, List.setIfInBounds_toArray, List.set_cons_zero, List.set_cons_succ, i64_w, i32_w]
      rfl
    refine pure_ (i := 8) (N := some 15) (v := ?_) (a' := ?_) #[true, true, true, true, true, true, true, true, true, false, false, false, false, false, false, false, false, false, false, false, false, false, false, false, false, false, false, false, false, false, false, false] rfl rfl (by kernel_rfl) (fun _ _ _ h => h) (Or.inl ⟨by rfl, ?_⟩) ?_ ?_
    rotate_left
    · intro w'
      go_simp
      with_reducible rfl
    rotate_left
    · simp only [Act.put, List.setIfInBounds_toArray, List.set_cons_zero, List.set_cons_succ, i64_w, i32_w]
      rfl
    refine pure_ (i := 9) (N := some 16) (v := ?_) (a' := ?_) #[true, true, true, true, true, true, true, true, true, true, false, false, false, false, false, false, false, false, false, false, false, false, false, false, false, false, false, false, false, false, false, false] rfl rfl (by kernel_rfl) (fun _ _ _ h => h) (Or.inl ⟨by rfl, ?_⟩) ?_ ?_
    rotate_left
    · intro w'
      go_simp
      with_reducible rfl
    rotate_left
    · simp only [Act.put, List.setIfInBounds_toArray, List.set_cons_zero, List.set_cons_succ, i64_w, i32_w]
      rfl
    refine pure_ (i := 10) (N := some 17) (v := undef) (a' := ?_) #[true, true, true, true, true, true, true, true, true, true, true, false, false, false, false, false, false, false, false, false, false, false, false, false, false, false, false, false, false, false, false, false] rfl rfl (by kernel_rfl) (fun _ _ _ h => h) (Or.inr ⟨by rfl, rfl⟩) ?_ ?_
    rotate_left
    · simp only [Act.put, List.setIfInBounds_toArray, List.set_cons_zero, List.set_cons_succ, i64_w, i32_w]
      rfl
    refine pure_ (i := 11) (N := some 18) (v := undef) (a' := ?_) #[true, true, true, true, true, true, true, true, true, true, true, true, false, false, false, false, false, false, false, false, false, false, false, false, false, false, false, false, false, false, false, false] rfl rfl (by kernel_rfl) (fun _ _ _ h => h) (Or.inr ⟨by rfl, rfl⟩) ?_ ?_
    rotate_left
    · simp only [Act.put, List.setIfInBounds_toArray, List.set_cons_zero, List.set_cons_succ, i64_w, i32_w]
      rfl
    refine pure_ (i := 12) (N := some 19) (v := undef) (a' := ?_) #[true, true, true, true, true, true, true, true, true, true, true, true, true, false, false, false, false, false, false, false, false, false, false, false, false, false, false, false, false, false, false, false] rfl rfl (by kernel_rfl) (fun _ _ _ h => h) (Or.inr ⟨by rfl, rfl⟩) ?_ ?_
    rotate_left
    · simp only [Act.put, List.setIfInBounds_toArray, List.set_cons_zero, List.set_cons_succ, i64_w, i32_w]
      rfl
    refine pure_ (i := 13) (N := some 20) (v := undef) (a' := ?_) #[true, true, true, true, true, true, true, true, true, true, true, true, true, true, false, false, false, false, false, false, false, false, false, false, false, false, false, false, false, false, false, false] rfl rfl (by kernel_rfl) (fun _ _ _ h => h) (Or.inr ⟨by rfl, rfl⟩) ?_ ?_
    rotate_left
    · simp only [Act.put, List.setIfInBounds_toArray, List.set_cons_zero, List.set_cons_succ, i64_w, i32_w]
      rfl
    refine pure_ (i := 14) (N := some 21) (v := undef) (a' := ?_) #[true, true, true, true, true, true, true, true, true, true, true, true, true, true, true, false, false, false, false, false, false, false, false, false, false, false, false, false, false, false, false, false] rfl rfl (by kernel_rfl) (fun _ _ _ h => h) (Or.inr ⟨by rfl, rfl⟩) ?_ ?_
    rotate_left
    · simp only [Act.put, List.setIfInBounds_toArray, List.set_cons_zero, List.set_cons_succ, i64_w, i32_w]
      rfl
    refine pure_ (i := 15) (N := some 22) (v := undef) (a' := ?_) #[true, true, true, true, true, true, true, true, true, true, true, true, true, true, true, true, false, false, false, false, false, false, false, false, false, false, false, false, false, false, false, false] rfl rfl (by kernel_rfl) (fun _ _ _ h => h) (Or.inr ⟨by rfl, rfl⟩) ?_ ?_
    rotate_left
    · simp only [Act.put, List.setIfInBounds_toArray, List.set_cons_zero, List.set_cons_succ, i64_w, i32_w]
      rfl
    refine pure_ (i := 16) (N := some 23) (v := undef) (a' := ?_) #[true, true, true, true, true, true, true, true, true, true, true, true, true, true, true, true, true, false, false, false, false, false, false, false, false, false, false, false, false, false, false, false] rfl rfl (by kernel_rfl) (fun _ _ _ h => h) (Or.inr ⟨by rfl, rfl⟩) ?_ ?_
    rotate_left
    · simp only [Act.put, List.setIfInBounds_toArray, List.set_cons_zero, List.set_cons_succ, i64_w, i32_w]
      rfl
    refine pure_ (i := 17) (N := some 24) (v := undef) (a' := ?_) #[true, true, true, true, true, true, true, true, true, true, true, true, true, true, true, true, true, true, false, false, false, false, false, false, false, false, false, false, false, false, false, false] rfl rfl (by kernel_rfl) (fun _ _ _ h => h) (Or.inr ⟨by rfl, rfl⟩) ?_ ?_
    rotate_left
    · simp only [Act.put, List.setIfInBounds_toArray, List.set_cons_zero, List.set_cons_succ, i64_w, i32_w]
      rfl
    refine pure_ (i := 18) (N := some 25) (v := undef) (a' := ?_) #[true, true, true, true, true, true, true, true, true, true, true, true, true, true, true, true, true, true, true, false, false, false, false, false, false, false, false, false, false, false, false, false] rfl rfl (by kernel_rfl) (fun _ _ _ h => h) (Or.inr ⟨by rfl, rfl⟩) ?_ ?_
    rotate_left
    · simp only [Act.put, List.setIfInBounds_toArray, List.set_cons_zero, List.set_cons_succ, i64_w, i32_w]
      rfl
    refine pure_ (i := 19) (N := some 26) (v := ?_) (a' := ?_) #[true, true, true, true, true, true, true, true, true, true, true, true, true, true, true, true, true, true, true, true, false, false, false, false, false, false, false, false, false, false, false, false] rfl rfl (by kernel_rfl) (fun _ _ _ h => h) (Or.inl ⟨by rfl, ?_⟩) ?_ ?_
    rotate_left
    · intro w'
      go_simp
      with_reducible rfl
    rotate_left
    · simp only [Act.put, List.setIfInBounds_toArray, List.set_cons_zero, List.set_cons_succ, i64_w, i32_w]
      rfl
    refine pure_ (i := 20) (N := some 27) (v := ?_) (a' := ?_) #[true, true, true, true, true, true, true, true, true, true, true, true, true, true, true, true, true, true, true, true, true, false, false, false, false, false, false, false, false, false, false, false] rfl rfl (by kernel_rfl) (fun _ _ _ h => h) (Or.inl ⟨by rfl, ?_⟩) ?_ ?_
    rotate_left
    · intro w'
      go_simp
      with_reducible rfl
    rotate_left
    · simp only [Act.put, List.setIfInBounds_toArray, List.set_cons_zero, List.set_cons_succ, i64_w, i32_w]
      rfl
    refine pure_ (i := 21) (N := some 28) (v := undef) (a' := ?_) #[true, true, true, true, true, true, true, true, true, true, true, true, true, true, true, true, true, true, true, true, true, true, false, false, false, false, false, false, false, false, false, false] rfl rfl (by kernel_rfl) (fun _ _ _ h => h) (Or.inr ⟨by rfl, rfl⟩) ?_ ?_
    rotate_left
    · simp only [Act.put, List.setIfInBounds_toArray, List.set_cons_zero, List.set_cons_succ, i64_w, i32_w]
      rfl
    refine pure_ (i := 22) (N := some 29) (v := undef) (a' := ?_) #[true, true, true, true, true, true, true, true, true, true, true, true, true, true, true, true, true, true, true, true, true, true, true, false, false, false, false, false, false, false, false, false] rfl rfl (by kernel_rfl) (fun _ _ _ h => h) (Or.inr ⟨by rfl, rfl⟩) ?_ ?_
    rotate_left
    · simp only [Act.put, List.setIfInBounds_toArray, List.set_cons_zero, List.set_cons_succ, i64_w, i32_w]
      rfl
    refine pure_ (i := 23) (N := some 30) (v := undef) (a' := ?_) #[true, true, true, true, true, true, true, true, true, true, true, true, true, true, true, true, true, true, true, true, true, true, true, true, false, false, false, false, false, false, false, false] rfl rfl (by kernel_rfl) (fun _ _ _ h => h) (Or.inr ⟨by rfl, rfl⟩) ?_ ?_
    rotate_left
    · simp only [Act.put, List.setIfInBounds_toArray, List.set_cons_zero, List.set_cons_succ, i64_w, i32_w]
      rfl
    refine pure_ (i := 24) (N := some 31) (v := undef) (a' := ?_) #[true, true, true, true, true, true, true, true, true, true, true, true, true, true, true, true, true, true, true, true, true, true, true, true, true, false, false, false, false, false, false, false] rfl rfl (by kernel_rfl) (fun _ _ _ h => h) (Or.inr ⟨by rfl, rfl⟩) ?_ ?_
    rotate_left
    · simp only [Act.put, List.setIfInBounds_toArray, List.set_cons_zero, List.set_cons_succ, i64_w, i32_w]
      rfl
    refine pure_ (i := 25) (N := some 32) (v := undef) (a' := ?_) #[true, true, true, true, true, true, true, true, true, true, true, true, true, true, true, true, true, true, true, true, true, true, true, true, true, true, false, false, false, false, false, false] rfl rfl (by kernel_rfl) (fun _ _ _ h => h) (Or.inr ⟨by rfl, rfl⟩) ?_ ?_
    rotate_left
    · simp only [Act.put, List.setIfInBounds_toArray, List.set_cons_zero, List.set_cons_succ, i64_w, i32_w]
      rfl
    refine pure_ (i := 26) (N := some 33) (v := undef) (a' := ?_) #[true, true, true, true, true, true, true, true, true, true, true, true, true, true, true, true, true, true, true, true, true, true, true, true, true, true, true, false, false, false, false, false] rfl rfl (by kernel_rfl) (fun _ _ _ h => h) (Or.inr ⟨by rfl, rfl⟩) ?_ ?_
    rotate_left
    · simp only [Act.put, List.setIfInBounds_toArray, List.set_cons_zero, List.set_cons_succ, i64_w, i32_w]
      rfl
    refine pure_ (i := 27) (N := some 34) (v := undef) (a' := ?_) #[true, true, true, true, true, true, true, true, true, true, true, true, true, true, true, true, true, true, true, true, true, true, true, true, true, true, true, true, false, false, false, false] rfl rfl (by kernel_rfl) (fun _ _ _ h => h) (Or.inr ⟨by rfl, rfl⟩) ?_ ?_
    rotate_left
    · simp only [Act.put, List.setIfInBounds_toArray, List.set_cons_zero, List.set_cons_succ, i64_w, i32_w]
      rfl
    refine pure_ (i := 28) (N := some 35) (v := undef) (a' := ?_) #[true, true, true, true, true, true, true, true, true, true, true, true, true, true, true, true, true, true, true, true, true, true, true, true, true, true, true, true, true, false, false, false] rfl rfl (by kernel_rfl) (fun _ _ _ h => h) (Or.inr ⟨by rfl, rfl⟩) ?_ ?_
    rotate_left
    · simp only [Act.put, List.setIfInBounds_toArray, List.set_cons_zero, List.set_cons_succ, i64_w, i32_w]
      rfl
    refine pure_ (i := 29) (N := some 36) (v := undef) (a' := ?_) #[true, true, true, true, true, true, true, true, true, true, true, true, true, true, true, true, true, true, true, true, true, true, true, true, true, true, true, true, true, true, false, false] rfl rfl (by kernel_rfl) (fun _ _ _ h => h) (Or.inr ⟨by rfl, rfl⟩) ?_ ?_
    rotate_left
    · simp only [Act.put, List.setIfInBounds_toArray, List.set_cons_zero, List.set_cons_succ, i64_w, i32_w]
      rfl
    refine pure_ (i := 30) (N := some 37) (v := ?_) (a' := ?_) #[true, true, true, true, true, true, true, true, true, true, true, true, true, true, true, true, true, true, true, true, true, true, true, true, true, true, true, true, true, true, true, false] rfl rfl (by kernel_rfl) (fun _ _ _ h => h) (Or.inl ⟨by rfl, ?_⟩) ?_ ?_
    rotate_left
    · intro w'
      go_simp
      with_reducible rfl
    rotate_left
    · simp only [Act.put, List.setIfInBounds_toArray, List.set_cons_zero, List.set_cons_succ, i64_w, i32_w]
      rfl
    refine pure_ (i := 31) (N := some 6) (v := ?_) (a' := ?_) #[true, true, true, true, true, true, true, true, true, true, true, true, true, true, true, true, true, true, true, true, true, true, true, true, true, true, true, true, true, true, true, true] rfl rfl (by kernel_rfl) (fun _ _ _ h => h) (Or.inl ⟨by rfl, ?_⟩) ?_ ?_
    rotate_left
    · intro w'
      go_simp
      with_reducible rfl
    rotate_left
    · simp only [Act.put, List.setIfInBounds_toArray, List.set_cons_zero, List.set_cons_succ, i64_w, i32_w]
      rfl
    refine done_ (by kernel_rfl) ?_

    go_wp2
    go_ret
    exact ⟨rfl, by assumption⟩

theorem own_ne_blk {W : World} {base g : Nat} {e t : TypeId} {size : Nat} {v : Value} {k : Nat} {xs : List Value} {cs : Array Value} (h : W.ownsRow base e size v k xs) (hb : W.heap[g]? = some (.cells cs t (0, 0))) (hne : e ≠ t) : v.ownBlock ≠ some g := by
  rcases h.2 with ⟨rfl, _⟩ | ⟨g2, cap, cur, rfl, _, hg, _⟩
  · simp [Value.ownBlock]
  · intro e2
    obtain rfl : g2 = g := by simpa [Value.ownBlock] using e2
    rw [hg] at hb
    injection hb with hb
    injection hb with _ h2
    exact hne h2
/-- Where (town).family stands: its block gf, what it has told of so many sets. All that is its own lies below H. -/
structure FamI (w W : World) (gf H : Nat) (A0 : Option Addr) (c0 n k : Nat) (v2 v3 : Value) (bs : List Bool) (Ls : List (List Int)) : Prop where
  blk : W.heap[gf]? = some (.cells #[.slice A0 n c0, .int .i64 (k : Int), v2, v3] 96 (0, 0))
  ge : w.heap.size ≤ gf
  lt : gf < H
  own2 : W.ownsRow w.heap.size 4 1 v2 bs.length (bs.map Value.bool)
  lt2 : ∀ b, v2.ownBlock = some b → b < H
  own3 : ∃ rows, W.ownsRow w.heap.size 22 1 v3 Ls.length rows ∧ Rows w.heap.size W rows Ls ∧ ∀ v ∈ rows, ∀ b, v.ownBlock = some b → b < H
  lt3 : ∀ b, v3.ownBlock = some b → b < H
  below : Below w.heap.size w W
  top : H ≤ W.heap.size
theorem FamI.kept {w W V : World} {gf H : Nat} {A0 : Option Addr} {c0 n k : Nat} {v2 v3 : Value} {bs : List Bool} {Ls : List (List Int)} {row : Option Nat} (h : FamI w W gf H A0 c0 n k v2 v3 bs Ls) (hg : W.grownBy V row) (hr : ∀ r, row = some r → H ≤ r) : FamI w V gf H A0 c0 n k v2 v3 bs Ls := by
  have ne : ∀ b, b < H → some b ≠ row := fun b hb e => by have := hr b e.symm; omega
  have hlt := h.lt
  have hge := h.ge
  obtain ⟨rows, r1, r2, r3⟩ := h.own3
  refine ⟨blk_grown h.blk hg (ne _ hlt), hge, hlt, own_kept h.own2 hg (fun b hb => ne b (h.lt2 b hb)), h.lt2, ⟨rows, own_kept r1 hg (fun b hb => ne b (h.lt3 b hb)), ⟨r2.1, fun i L hL => ?_⟩, r3⟩, h.lt3, h.below.grown hg h.below.size (fun j e => by have := hr j e; omega), Nat.le_trans h.top hg.size⟩
  obtain ⟨v, q1, q2⟩ := r2.2 i L hL
  exact ⟨v, q1, own_kept q2 hg (fun b hb => ne b (r3 v (List.mem_of_getElem? q1) b hb))⟩
theorem FamI.low {w W V : World} {gf H : Nat} {A0 : Option Addr} {c0 n k : Nat} {v2 v3 : Value} {bs : List Bool} {Ls : List (List Int)} (h : FamI w W gf H A0 c0 n k v2 v3 bs Ls) (hb : Below W.heap.size W V) : FamI w V gf H A0 c0 n k v2 v3 bs Ls := h.kept (grown_of_below hb none) (fun r e => by cases e)
/-- One more set told of: small or not. -/
theorem FamI.small {w W V : World} {gf H : Nat} {A0 : Option Addr} {c0 n k : Nat} {v2 v3 v2' : Value} {bs : List Bool} {Ls : List (List Int)} {b : Bool} {o : Obj} (h : FamI w W gf H A0 c0 n k v2 v3 bs Ls) (hg : (W.alloc o).grownBy V v2.ownBlock) (hown : V.ownsRow w.heap.size 4 1 v2' (bs.length + 1) (bs.map Value.bool ++ [.bool b])) :
    FamI w (V.setCell ⟨gf, 2, none⟩ v2') gf V.heap.size A0 c0 n k v2' v3 (bs ++ [b]) Ls := by
  have hge := h.ge
  have hlt := h.lt
  have htop := h.top
  have hgs := hg.size
  simp only [World.size_alloc] at hgs
  have hsz : (V.setCell ⟨gf, 2, none⟩ v2').heap.size = V.heap.size := World.size_setCell _ _ _
  obtain ⟨rows, r1, r2, r3⟩ := h.own3
  have hb1 : V.heap[gf]? = some (.cells #[.slice A0 n c0, .int .i64 (k : Int), v2, v3] 96 (0, 0)) := blk_grown (blk_alloc h.blk o) hg (fun e => own_ne_blk (h.own2.alloc o) (blk_alloc h.blk o) (by decide) e.symm)
  have hnb := own_ne_blk hown hb1 (by decide)
  have set_kept : ∀ {base : Nat} {e : TypeId} {v : Value} {m : Nat} {xs : List Value}, V.ownsRow base e 1 v m xs → e ≠ 96 → (V.setCell ⟨gf, 2, none⟩ v2').ownsRow base e 1 v m xs := fun ho he =>
    own_kept ho (grownBy_set V _ _) (fun b hb e2 => own_ne_blk ho hb1 he (by rw [hb]; exact e2))
  refine ⟨by simpa using blk_set hb1 2 v2', hge, by omega, ?_, fun b hb => own_lt hown b hb, ⟨rows, ?_, ?_, fun v hv b hb => ?_⟩, fun b hb => ?_, ?_, by omega⟩
  · rw [List.length_append, List.map_append]
    exact set_kept hown (by decide)
  · exact set_kept (ownsRow_other (r1.alloc o) (h.own2.alloc o) (by decide) hg) (by decide)
  · exact r2.imp fun v L hv => set_kept (ownsRow_other (hv.alloc o) (h.own2.alloc o) (by decide) hg) (by decide)
  · have := r3 v hv b hb; omega
  · have := h.lt3 b hb; omega
  · exact below_set ((below_alloc h.below o).grown hg (by have := h.below.size; simp; omega) (fun j e => by
      rcases (h.own2.alloc o).2 with ⟨e1, _⟩ | ⟨g2, cap, cur, e1, hb2, _⟩
      · rw [e1] at e; simp [Value.ownBlock] at e
      · rw [e1] at e
        obtain rfl : g2 = j := by simpa [Value.ownBlock] using e
        exact hb2)) hge
/-- .. and its other sides. -/
theorem FamI.other {w W V : World} {gf H HH : Nat} {A0 : Option Addr} {c0 n k : Nat} {v2 v3 v3' v7 : Value} {bs : List Bool} {Ls : List (List Int)} {rows : List Value} {L : List Int} {o : Obj} (h : FamI w W gf H A0 c0 n k v2 v3 bs Ls) (hHH : w.heap.size ≤ HH) (h7 : W.ownsRow HH 3 1 v7 L.length (L.map (Value.int .i64))) (r1 : W.ownsRow w.heap.size 22 1 v3 Ls.length rows) (r2 : Rows w.heap.size W rows Ls) (r3 : ∀ v ∈ rows, ∀ b, v.ownBlock = some b → b < H)
    (hg : (W.alloc o).grownBy V v3.ownBlock) (hown : V.ownsRow w.heap.size 22 1 v3' (Ls.length + 1) (rows ++ [v7])) :
    FamI w (V.setCell ⟨gf, 3, none⟩ v3') gf V.heap.size A0 c0 n k v2 v3' bs (Ls ++ [L]) := by
  have hge := h.ge
  have hlt := h.lt
  have htop := h.top
  have hgs := hg.size
  simp only [World.size_alloc] at hgs
  have hsz : (V.setCell ⟨gf, 3, none⟩ v3').heap.size = V.heap.size := World.size_setCell _ _ _
  have hb1 : V.heap[gf]? = some (.cells #[.slice A0 n c0, .int .i64 (k : Int), v2, v3] 96 (0, 0)) := blk_grown (blk_alloc h.blk o) hg (fun e => own_ne_blk (r1.alloc o) (blk_alloc h.blk o) (by decide) e.symm)
  have set_kept : ∀ {base : Nat} {e : TypeId} {v : Value} {m : Nat} {xs : List Value}, V.ownsRow base e 1 v m xs → e ≠ 96 → (V.setCell ⟨gf, 3, none⟩ v3').ownsRow base e 1 v m xs := fun ho he =>
    own_kept ho (grownBy_set V _ _) (fun b hb e2 => own_ne_blk ho hb1 he (by rw [hb]; exact e2))
  refine ⟨by simpa using blk_set hb1 3 v3', hge, by omega, ?_, fun b hb => ?_, ⟨rows ++ [v7], ?_, ?_, fun v hv b hb => ?_⟩, fun b hb => own_lt hown b hb, ?_, by omega⟩
  · exact set_kept (ownsRow_other (h.own2.alloc o) (r1.alloc o) (by decide) hg) (by decide)
  · have := h.lt2 b hb; omega
  · rw [List.length_append]
    exact set_kept hown (by decide)
  · have q1 : Rows w.heap.size (V.setCell ⟨gf, 3, none⟩ v3') rows Ls := r2.imp fun v L hv => set_kept (ownsRow_other (hv.alloc o) (r1.alloc o) (by decide) hg) (by decide)
    refine q1.append ⟨rfl, fun i L2 hL => ?_⟩
    cases i with
    | zero =>
      obtain rfl : L = L2 := by simpa using hL
      exact ⟨v7, rfl, set_kept (ownsRow_other ((ownsRow_mono h7 hHH).alloc o) (r1.alloc o) (by decide) hg) (by decide)⟩
    | succ i => simp at hL
  · rcases List.mem_append.1 hv with h1 | h1
    · have := r3 v h1 b hb; omega
    · rw [List.mem_singleton.1 h1] at hb
      have := own_lt h7 b hb; omega
  · exact below_set ((below_alloc h.below o).grown hg (by have := h.below.size; simp; omega) (fun j e => by
      rcases (r1.alloc o).2 with ⟨e1, _⟩ | ⟨g2, cap, cur, e1, hb2, _⟩
      · rw [e1] at e; simp [Value.ownBlock] at e
      · rw [e1] at e
        obtain rfl : g2 = j := by simpa [Value.ownBlock] using e
        exact hb2)) hge
/-- The sets that are the other side of x, from y on. -/
def othTo (G : List Nat) (k x : Nat) : Nat → Nat → List Int
  | 0, _ => []
  | d + 1, y => if sidesB G k x y then (y : Int) :: othTo G k x d (y + 1) else othTo G k x d (y + 1)
def smTo (G : List Nat) (k : Nat) : Nat → Nat → List Bool
  | 0, _ => []
  | d + 1, x => decide (pc (bo G x) 9 ≤ k) :: smTo G k d (x + 1)
def otTo (G : List Nat) (k : Nat) : Nat → Nat → List (List Int)
  | 0, _ => []
  | d + 1, x => othTo G k x (2 ^ G.length) 0 :: otTo G k d (x + 1)
theorem othTo_len (G : List Nat) (k x : Nat) : ∀ d y, (othTo G k x d y).length ≤ d
  | 0, _ => Nat.le_refl _
  | d + 1, y => by
    have := othTo_len G k x d (y + 1)
    simp only [othTo]
    split <;> simp <;> omega

set_option maxHeartbeats 8000000 in
set_option maxRecDepth 100000 in
theorem family_calls (A0 : Option Addr) (c0 : Nat) (G : List Nat) (hG : Gr 7 G) (hc0 : G.length ≤ c0) (k : Nat) (hk : k ≤ 7) (w : World) (hGL : GL w) (hr0 : Kd.C (Kd.int .i64) w A0 (gi G).length (gi G)) :
    Calls Tryd.prog 60 #[.slice A0 G.length c0, .int .i64 (k : Int)] w fun e w' => ∃ gf H v2 v3, e = .returned (.pointer (some ⟨gf, 0, none⟩)) ∧ FamI w w' gf H A0 c0 G.length k v2 v3 (smTo G k (2 ^ G.length) 0) (otTo G k (2 ^ G.length) 0) := by
  have hn := hG.most
  have HP7 := Aside0.mk (p7 hn)
  have HG := Aside0.mk hG
  have HGL := Aside0.mk hGL
  have HR := Aside0.mk hr0
  have HC0 := Aside0.mk hc0
  have HL := Aside0.mk (gi_length G)
  obtain ⟨i4, hi4, hp0, hp1, hp2⟩ := info_parts info4
  obtain ⟨i3, hi3, hq0, hq1, hq2⟩ := info_parts info3
  obtain ⟨i22, hi22, hs0, hs1, hs2⟩ := info_parts info22
  obtain ⟨J, ⟨hS1, hS2, hS3⟩, hS4⟩ := shJ G.length (by omega)
  have HS1 := Aside0.mk hS1
  have HS2 := Aside0.mk hS2
  have HJ := Aside0.mk hS4
  clear hG hGL hr0 hc0 hS1 hS2 hS3 hS4
  obtain ⟨N, hN⟩ : ∃ N, 2 ^ G.length = N := ⟨_, rfl⟩
  have HN := Aside0.mk hN
  have hN7 : N ≤ 128 := by rw [← hN]; exact HP7.out
  rw [hN] at HJ
  rw [hN]
  obtain ⟨BS, hBS⟩ : ∃ b, smTo G k N 0 = b := ⟨_, rfl⟩
  obtain ⟨LS, hLS⟩ : ∃ b, otTo G k N 0 = b := ⟨_, rfl⟩
  rw [hBS, hLS]
  have HBS := Aside0.mk hBS
  have HLS := Aside0.mk hLS
  clear hBS hLS hN
  have hS1 := HS1.out
  have hS2 := HS2.out
  go_enter Tryd.func60, Tryd.ntmps60
  go_wp2
  rw [HS1.out]
  clear hS1 hS2
  have HRC : Aside0 (∀ W gf H v2 v3 bs Ls, FamI w W gf H A0 c0 G.length k v2 v3 bs Ls → ∀ x : Nat, x < 2 ^ G.length → Calls Tryd.prog 73 #[.slice A0 G.length c0, .int .i64 (x : Int)] W fun e w' => e = .returned (.int .i64 ((bo G x : Nat) : Int)) ∧ w'.cell? ⟨gf, 2, none⟩ = some v2 ∧ FamI w w' gf H A0 c0 G.length k v2 v3 bs Ls) := ⟨fun W gf H v2 v3 bs Ls h x hx => by
    have := sweep_town_border.calls A0 c0 (gi G) (x : Int) _ W (GL_below HGL.out h.below) (Kd.C_below HR.out h.below) (by rw [HL.out]; exact HC0.out) (bo_f HG.out hx)
    rw [HL.out] at this
    exact this.mono fun e w' ⟨h1, hb⟩ => ⟨h1, (blk_cell (h.low hb).blk 2).trans rfl, h.low hb⟩⟩
  have HCC : Aside0 (∀ W gf H v2 v3 bs Ls, FamI w W gf H A0 c0 G.length k v2 v3 bs Ls → ∀ b : Nat, b < 128 → Calls Tryd.prog 63 #[.int .i64 (b : Int)] W fun e w' => e = .returned (.int .i64 ((pc b 9 : Nat) : Int)) ∧ w'.cell? ⟨gf, 2, none⟩ = some v2 ∧ FamI w w' gf H A0 c0 G.length k v2 v3 bs Ls) := ⟨fun W gf H v2 v3 bs Ls h b hb => 
by
    have hq := count_eq b (Nat.lt_of_lt_of_le hb (by decide))
    refine (sweep_count.calls (b : Int) _ W hq).mono ?_
    rintro e w' ⟨h1, m, rfl⟩
    exact ⟨h1, (blk_cell h.blk 2).trans rfl, h.low (pw_below_drewN (Below.refl _ _) m)⟩⟩
  have start : FamI w (w.alloc (.cells #[.slice A0 G.length c0, .int .i64 (k : Int), .slice none 0 0, .slice none 0 0] 96)) w.heap.size (w.heap.size + 1) A0 c0 G.length k (.slice none 0 0) (.slice none 0 0) [] [] :=
    ⟨heap_alloc_new w _, Nat.le_refl _, by omega, World.ownsRow_nil _ _ _ _, (fun b hb => by simp [Value.ownBlock] at hb), ⟨[], World.ownsRow_nil _ _ _ _, ⟨rfl, fun i L h => by simp at h⟩, fun v hv => by simp at hv⟩, (fun b hb => by simp [Value.ownBlock] at hb), below_alloc (Below.refl _ _) _, by simp⟩
  have START := Aside0.mk start
  clear start
  go_loopg [16] N (fun kq v16 w' => ∃ (x H : Nat) (v2 v3 : Value) (bs : List Bool) (Ls : List (List Int)), v16 = .int .i64 (x : Int) ∧ x + kq = N ∧ Aside0 (bs.length = x ∧ Ls.length = x ∧ bs ++ smTo G k kq x = BS ∧ Ls ++ otTo G k kq x = LS) ∧ Aside0 (FamI w w' w.heap.size H A0 c0 G.length k v2 v3 bs Ls))
  case atStart => exact ⟨0, w.heap.size + 1, _, _, [], [], rfl, by omega, ⟨rfl, rfl, HBS.out, HLS.out⟩, START⟩
  case round =>
    clear START HBS HLS
    obtain ⟨x, H, v2, v3, bs, Ls, rfl, hx, HX, HF⟩ := hrel
    by_cases hxn : x < N
    · have hj2 : decide ((x : Int) < J) = true := decide_eq_true (by have := HJ.out; omega)
      have hj1 : ((x : Int) < J) = True := eq_true (by have := HJ.out; omega)
      cases gk with
      | zero => omega
      | succ gx =>
      obtain ⟨hx1, hx2, hx3, hx4⟩ := HX.out
      simp only [smTo, otTo] at hx3 hx4
      have HX3 := Aside0.mk hx3
      have HX4 := Aside0.mk hx4
      have HX1 := Aside0.mk hx1
      have HX2 := Aside0.mk hx2
      have hb1 : bs.length ≤ x := by omega
      have hl1 : Ls.length ≤ x := by omega
      clear hx1 hx2
      have hxP : x < 2 ^ G.length := by rw [HN.out]; exact hxn
      have hbl : bo G x < 128 := Nat.lt_of_lt_of_le (bo_lt HG.out hxP) HP7.out
      have hcell : wr.drew.cell? ⟨w.heap.size, 2, none⟩ = some v2 := (blk_cell HF.out.blk 2).trans rfl
      have HFD : FamI w wr.drew w.heap.size H A0 c0 G.length k v2 v3 bs Ls := HF.out.low (below_drew (Below.refl _ _))
      clear hx3 hx4 HX HF
      go_wp2_with (fail)
      refine start_ (n := 16) (S := fun w' => w'.cell? ⟨w.heap.size, 2, none⟩ = some v2 ∧ FamI w w' w.heap.size H A0 c0 G.length k v2 v3 bs Ls) (ds := [12, 15]) #[false, false, false, false, false, false, false, false, false, false, false, false, false, false, false, false] (by kernel_rfl) rfl rfl ⟨hcell, HFD⟩ (fun hHeld => ?_)
      refine pure_ (i := 0) (N := some 19) (v := ?_) (a' := ?_) #[true, false, false, false, false, false, false, false, false, false, false, false, false, false, false, false] rfl rfl (by kernel_rfl) (fun _ _ _ h => h) (Or.inl ⟨by rfl, ?_⟩) ?_ ?_
      rotate_left
      · intro w'
        go_simp
        with_reducible rfl
      rotate_left
      · simp only [Act.put, List.setIfInBounds_toArray, List.set_cons_zero, List.set_cons_succ, i64_w, i32_w]
        rfl
      refine pure_ (i := 1) (N := some 20) (v := ?_) (a' := ?_) #[true, true, false, false, false, false, false, false, false, false, false, false, false, false, false, false] rfl rfl (by kernel_rfl) (fun _ _ _ h => h) (Or.inl ⟨by rfl, ?_⟩) ?_ ?_
      rotate_left
      · intro w'
        go_simp
        with_reducible rfl
      rotate_left
      · simp only [Act.put, List.setIfInBounds_toArray, List.set_cons_zero, List.set_cons_succ, i64_w, i32_w]
        rfl
      refine pure_ (i := 2) (N := some 21) (v := ?_) (a' := ?_) #[true, true, true, false, false, false, false, false, false, false, false, false, false, false, false, false] rfl rfl (by kernel_rfl) (fun _ _ _ h => h) (Or.inl ⟨by rfl, ?_⟩) ?_ ?_
      rotate_left
      · intro w'
        go_simp
        with_reducible rfl
      rotate_left
      · simp only [Act.put, List.setIfInBounds_toArray, List.set_cons_zero, List.set_cons_succ, i64_w, i32_w]
        rfl
      refine pure_ (i := 3) (N := some 22) (v := ?_) (a' := ?_) #[true, true, true, true, false, false, false, false, false, false, false, false, false, false, false, false] rfl rfl (by kernel_rfl) (fun _ _ _ h => h) (Or.inl ⟨by rfl, ?_⟩) ?_ ?_
      rotate_left
      · intro w'
        go_simp
        with_reducible rfl
      rotate_left
      · simp only [Act.put, List.setIfInBounds_toArray, List.set_cons_zero, List.set_cons_succ, i64_w, i32_w]
        rfl
      refine pure_ (i := 5) (N := some 24) (v := ?_) (a' := ?_) #[true, true, true, true, false, true, false, false, false, false, false, false, false, false, false, false] rfl rfl (by kernel_rfl) (fun _ _ _ h => h) (Or.inl ⟨by rfl, ?_⟩) ?_ ?_
      rotate_left
      · intro w'
        go_simp
        with_reducible rfl
      rotate_left
      · simp only [Act.put, List.setIfInBounds_toArray, List.set_cons_zero, List.set_cons_succ, i64_w, i32_w]
        rfl
      refine pure_ (i := 6) (N := some 25) (v := ?_) (a' := ?_) #[true, true, true, true, false, true, true, false, false, false, false, false, false, false, false, false] rfl rfl (by kernel_rfl) (fun _ _ _ h => h) (Or.inl ⟨by rfl, ?_⟩) ?_ ?_
      rotate_left
      · intro w'
        go_simp
        with_reducible rfl
      rotate_left
      · simp only [Act.put, List.setIfInBounds_toArray, List.set_cons_zero, List.set_cons_succ, i64_w, i32_w]
        rfl
      refine pure_ (i := 9) (N := some 28) (v := ?_) (a' := ?_) #[true, true, true, true, false, true, true, false, false, true, false, false, false, false, false, false] rfl rfl (by kernel_rfl) (fun _ _ _ h => h) (Or.inl ⟨by rfl, ?_⟩) ?_ ?_
      rotate_left
      · intro w'
        go_simp
        with_reducible rfl
      rotate_left
      · simp only [Act.put, List.setIfInBounds_toArray, List.set_cons_zero, List.set_cons_succ, i64_w, i32_w]
        rfl
      refine take_ (i := 4) (N := some 23) (v := ?_) (a' := ?_) #[true, true, true, true, true, true, true, false, false, true, false, false, false, false, false, false] rfl rfl (by kernel_rfl) (fun _ _ _ h => h) (Or.inl ⟨by rfl, ?_⟩) hHeld ?_ ?_
      rotate_left
      · rintro w' ⟨s0, s1⟩
        go_simp
        with_reducible rfl
      rotate_left
      · simp only [Act.put, List.setIfInBounds_toArray, List.set_cons_zero, List.set_cons_succ, i64_w, i32_w]
        rfl
      refine one_ (i := 7) (N := some 26) #[true, true, true, true, true, true, true, true, false, true, false, false, false, false, false, false] rfl rfl (by kernel_rfl) (by decide) (fun K hK => ?_)
      refine goes_ Tryd.func73 (by kernel_rfl) rfl #[.slice A0 G.length c0, .int .i64 (x : Int)] (by rfl) rfl rfl (by simp only [List.map_toArray, List.map_cons, List.map_nil]; rfl) ?_
      with_reducible refine (HRC.out _ _ _ _ _ _ _ hHeld.2 x hxP).mono ?_
      rintro e w3 ⟨rfl, hc', hf'⟩
      refine ⟨_, rfl, ?_⟩
      refine hK.out _ _ ⟨hc', hf'⟩ (fun hHeld => ?_)
      clear hK K
      refine norm_ (a' := ?_) ?_ ?_
      rotate_left
      · show Act.put _ (some 26) _ = _
        simp only [Act.put, List.setIfInBounds_toArray, List.set_cons_zero, List.set_cons_succ, i64_w, i32_w]
        rfl
      refine one_ (i := 8) (N := some 27) #[true, true, true, true, true, true, true, true, true, true, false, false, false, false, false, false] rfl rfl (by kernel_rfl) (by decide) (fun K hK => ?_)
      refine goes_ Tryd.func63 (by kernel_rfl) rfl #[.int .i64 ((bo G x : Nat) : Int)] (by rfl) rfl rfl (by simp only [List.map_toArray, List.map_cons, List.map_nil]; rfl) ?_
      with_reducible refine (HCC.out _ _ _ _ _ _ _ hHeld.2 _ hbl).mono ?_
      rintro e w4 ⟨rfl, hc', hf'⟩
      refine ⟨_, rfl, ?_⟩
      refine hK.out _ _ ⟨hc', hf'⟩ (fun hHeld => ?_)
      clear hK K
      refine norm_ (a' := ?_) ?_ ?_
      rotate_left
      · show Act.put _ (some 27) _ = _
        simp only [Act.put, List.setIfInBounds_toArray, List.set_cons_zero, List.set_cons_succ, i64_w, i32_w]
        rfl
      refine pure_ (i := 10) (N := some 29) (v := ?_) (a' := ?_) #[true, true, true, true, true, true, true, true, true, true, true, false, false, false, false, false] rfl rfl (by kernel_rfl) (fun _ _ _ h => h) (Or.inl ⟨by rfl, ?_⟩) ?_ ?_
      rotate_left
      · intro w'
        go_simp
        with_reducible rfl
      rotate_left
      · simp only [Act.put, List.setIfInBounds_toArray, List.set_cons_zero, List.set_cons_succ, i64_w, i32_w]
        rfl
      refine one_ (i := 11) (N := some 30) #[true, true, true, true, true, true, true, true, true, true, true, true, false, false, false, false] rfl rfl (by kernel_rfl) (by decide) (fun K hK => ?_)
      refine value_ (w1 := ?_) (v := ?_) (by rfl) rfl ?_ ?_
      rotate_left 2
      · go_simp
        constructor
        · rfl
        · rfl
      refine hK.out _ _ ⟨(blk_cell (hHeld.2.kept (World.grownBy_alloc _ _ none) (fun r e => by cases e)).blk 2).trans rfl, hHeld.2.kept (World.grownBy_alloc _ _ none) (fun r e => by cases e)⟩ (fun hHeld => ?_)
      clear hK K
      refine norm_ (a' := ?_) ?_ ?_
      rotate_left
      · show Act.put _ (some 30) _ = _
        simp only [Act.put, List.setIfInBounds_toArray, List.set_cons_zero, List.set_cons_succ, i64_w, i32_w]
        rfl
      refine last_ (i := 12) (N := some 31) #[true, true, true, true, true, true, true, true, true, true, true, true, true, false, false, false] rfl rfl (by kernel_rfl) (by decide) (fun K hK => ?_)
      refine step_append_lies _ (by rfl) _ _ 93 (by rfl) w.heap.size 4 i4 (.bool false) 1 1 Tryd.underlying93 hi4 hp0 hp1 hp2 rfl (by decide) v2 bs.length (bs.map Value.bool) rfl hHeld.2.own2 ⟨w4.heap.size, 0, none⟩ 1 1 [.bool (decide (pc (bo G x) 9 ≤ k))] rfl rfl (by intro j u hu; exact cell_one_new _ _ _ j u hu) (by simp [Value.oneCell']) (by omega) (by unfold maxLen; omega) (by omega) (by have := hHeld.2.below.size; simpa using this) (w4.heap.size + 1) (by simp) ?_
      intro g2 cap2 w5 hown5 hgrow5 hat5 hlt5
      have hb5 := blk_grown hHeld.2.blk hgrow5 (fun e => own_ne_blk hHeld.2.own2 hHeld.2.blk (by decide) e.symm)
      have hc5 : w5.cell? ⟨w.heap.size, 2, none⟩ = some v2 := (blk_cell hb5 2).trans rfl
      have hfr5 := blk_frozen hb5 2
      refine hK.out _ _ ?_
      clear hK K
      refine norm_ (a' := ?_) ?_ ?_
      rotate_left
      · show Act.put _ (some 31) _ = _
        simp only [Act.put, List.setIfInBounds_toArray, List.set_cons_zero, List.set_cons_succ, i64_w, i32_w]
        rfl
      refine pure_ (i := 13) (N := some 32) (v := ?_) (a' := ?_) #[true, true, true, true, true, true, true, true, true, true, true, true, true, true, false, false] rfl rfl (by kernel_rfl) (fun _ _ _ h => h) (Or.inl ⟨by rfl, ?_⟩) ?_ ?_
      rotate_left
      · intro w'
        go_simp
        with_reducible rfl
      rotate_left
      · simp only [Act.put, List.setIfInBounds_toArray, List.set_cons_zero, List.set_cons_succ, i64_w, i32_w]
        rfl
      refine pure_ (i := 14) (N := some 33) (v := ?_) (a' := ?_) #[true, true, true, true, true, true, true, true, true, true, true, true, true, true, true, false] rfl rfl (by kernel_rfl) (fun _ _ _ h => h) (Or.inl ⟨by rfl, ?_⟩) ?_ ?_
      rotate_left
      · intro w'
        go_simp
        with_reducible rfl
      rotate_left
      · simp only [Act.put, List.setIfInBounds_toArray, List.set_cons_zero, List.set_cons_succ, i64_w, i32_w]
        rfl
      refine last_ (i := 15) (N := none) #[true, true, true, true, true, true, true, true, true, true, true, true, true, true, true, true] rfl rfl (by kernel_rfl) (by decide) (fun K hK => ?_)
      refine skip_ (w1 := ?_) (by rfl) rfl ?_ ?_
      rotate_left
      · go_simp
        rfl
      refine hK.out _ _ ?_
      clear hK K
      refine done_ (by kernel_rfl) ?_

      have hF6 : FamI w (w5.setCell ⟨w.heap.size, 2, none⟩ (.slice (some ⟨g2, 0, none⟩) (bs.length + 1) cap2)) w.heap.size w5.heap.size A0 c0 G.length k (.slice (some ⟨g2, 0, none⟩) (bs.length + 1) cap2) v3 (bs ++ [decide (pc (bo G x) 9 ≤ k)]) Ls := FamI.small hf' hgrow5 hown5
      have hz6 : (w5.setCell ⟨w.heap.size, 2, none⟩ (.slice (some ⟨g2, 0, none⟩) (bs.length + 1) cap2)).heap.size = w5.heap.size := World.size_setCell _ _ _
      rw [← hz6] at hF6
      clear hz6
      generalize w5.setCell ⟨w.heap.size, 2, none⟩ (.slice (some ⟨g2, 0, none⟩) (bs.length + 1) cap2) = w6 at *
      have HF6 := Aside0.mk hF6
      clear hf' hc' hgrow5 hown5 hb5 hc5 hfr5 hat5 hlt5 hF6
      have hS1 := HS1.out
      have hS2 := HS2.out
      go_wp2
      rw [HS1.out]
      clear hS1 hS2
      obtain ⟨LX, hLX⟩ : ∃ L, othTo G k x N 0 = L := ⟨_, rfl⟩
      have HLX := Aside0.mk hLX
      rw [HN.out, hLX] at HX4
      clear hLX
      obtain ⟨HH, hHH⟩ : ∃ H, w6.heap.size = H := ⟨_, rfl⟩
      rw [hHH] at HF6
      have hwH : w.heap.size ≤ HH := by rw [← hHH]; exact HF6.out.below.size
      clear hHH
      go_loopg [7, 37] N (fun kq v7 v37 w' => ∃ (y : Nat) (ys : List Int), v37 = .int .i64 (y : Int) ∧ y + kq = N ∧ Aside0 (ys ++ othTo G k x kq y = LX ∧ ys.length ≤ y) ∧ Aside0 (FamI w w' w.heap.size HH A0 c0 G.length k (.slice (some ⟨g2, 0, none⟩) (bs.length + 1) cap2) v3 (bs ++ [decide (pc (bo G x) 9 ≤ k)]) Ls) ∧ Aside0 (w'.ownsRow HH 3 1 v7 ys.length (ys.map (Value.int .i64))))
      case atStart => exact ⟨0, [], rfl, by omega, ⟨HLX.out, Nat.le_refl _⟩, HF6, ⟨World.ownsRow_nil _ _ _ _⟩⟩
      case round =>
        clear HLX HF6
        obtain ⟨y, ys, rfl, hy, HY, HFY, HO⟩ := hrel
        have hyl := HY.out.2
        by_cases hyn : y < N
        · have hk2 : decide ((y : Int) < J) = true := decide_eq_true (by have := HJ.out; omega)
          have hk1 : ((y : Int) < J) = True := eq_true (by have := HJ.out; omega)
          cases gk with
          | zero => omega
          | succ gy =>
          have hy1 := HY.out.1
          simp only [othTo] at hy1
          obtain ⟨R, hR⟩ : ∃ R, sidesB G k x y = R := ⟨_, rfl⟩
          rw [hR] at hy1
          have HY1 := Aside0.mk hy1
          have hyP : y < 2 ^ G.length := by rw [HN.out]; exact hyn
          have HSD := Aside0.mk (sides_calls A0 c0 G HG.out HC0.out w.heap.size k x y wr (GL_below HGL.out HFY.out.below) (Kd.C_below HR.out HFY.out.below) ((blk_cell HFY.out.blk 0).trans rfl) ((blk_cell HFY.out.blk 1).trans rfl) hxP hyP R hR)
          clear hR hy1 hyP HY
          cases R
          · go_wp2_with (go_at_call 74; refine HSD.out.mono ?_; rintro e w7 ⟨rfl, hb7⟩)
            go_roundg gy
            case measure => omega
            case rel => exact ⟨y + 1, ys, by go_num, by omega, ⟨by simpa using HY1.out, by omega⟩, ⟨HFY.out.low hb7⟩, ⟨ownsRow_below HO.out hb7⟩⟩
          · go_wp2_with (first
              | (go_at_call 74; refine HSD.out.mono ?_; rintro e w7 ⟨rfl, hb7⟩; have hF7 := Aside0.mk (HFY.out.low hb7); have hO7 := Aside0.mk (ownsRow_below HO.out hb7); clear hb7)
              | (at_builtin; refine wpList_append_own_at _ rfl _ _ 22 rfl HH 3 i3 (.int .i64 0) 1 8 Tryd.underlying22 hi3 hq0 hq1 hq2 rfl (by decide) u7 ys.length (ys.map (Value.int .i64)) rfl (hO7.out.alloc _) ⟨w7.heap.size, 0, none⟩ 1 1 [.int .i64 (y : Int)] rfl rfl (cell_one_new _ _ _) (by simp [Value.oneCell']) (by unfold maxLen; omega) (by omega) (by have := hF7.out.top; simp; omega) ?_; intro v8 w8 hown8 hg8 _ _))
            go_roundg gy
            case measure => omega
            case rel =>
              refine ⟨y + 1, ys ++ [(y : Int)], by go_num, by omega, ⟨by simpa using HY1.out, by simp; omega⟩, ⟨(hF7.out.kept (World.grownBy_alloc _ _ none) (fun r e => by cases e)).kept hg8 (fun r e => own_base hO7.out r e)⟩, ⟨?_⟩⟩
              rw [List.length_append, List.map_append]
              exact hown8
        · have hk2 : decide ((y : Int) < J) = false := decide_eq_false (by have := HJ.out; omega)
          have hk1 : ((y : Int) < J) = False := eq_false (by have := HJ.out; omega)
          obtain rfl : gk = 0 := by omega
          have hy1 := HY.out.1
          simp only [othTo, List.append_nil] at hy1
          obtain rfl : ys = LX := hy1
          obtain ⟨rows, r1, r2, r3⟩ := HFY.out.own3
          have R1 := Aside0.mk r1
          have R2 := Aside0.mk r2
          have R3 := Aside0.mk r3
          have hc3 : wr.cell? ⟨w.heap.size, 3, none⟩ = some v3 := (blk_cell HFY.out.blk 3).trans rfl
          obtain ⟨A7, cp7, rfl⟩ := ownsRow_form HO.out
          have hm9 : Ls.length + 1 ≤ maxLen := by unfold maxLen; omega
          have hn9 : (Ls.length + 1) * 24 ≤ 140737488355328 := by omega
          have ho9 : w.heap.size ≤ (wr.alloc (.cells #[.slice A7 ys.length cp7] 22)).heap.size := by have := HFY.out.below.size; simp; omega
          have HM9 := Aside0.mk hm9
          have HN9 := Aside0.mk hn9
          have HO9 := Aside0.mk ho9
          clear hm9 hn9 ho9
          clear HY r1 r2 r3 hxP hbl
          go_wp2_with (at_builtin; (refine wpList_append_own_at _ rfl _ _ 88 rfl w.heap.size 22 i22 (.slice none 0 0) 1 24 Tryd.underlying88 hi22 hs0 hs1 hs2 rfl (by decide) v3 Ls.length rows rfl (R1.out.alloc (.cells #[.slice A7 ys.length cp7] 22)) ⟨wr.heap.size, 0, none⟩ 1 1 [.slice A7 ys.length cp7] rfl rfl (cell_one_new _ _ _) (by simp [Value.oneCell']) HM9.out HN9.out HO9.out ?_; intro v9 w9 hown9 hg9 _ _; obtain ⟨g9, cap9, rfl⟩ := ownsRow_succ hown9; have hb9 := blk_grown (blk_alloc HFY.out.blk (.cells #[.slice A7 ys.length cp7] 22)) hg9 (fun e => own_ne_blk (R1.out.alloc (.cells #[.slice A7 ys.length cp7] 22)) (blk_alloc HFY.out.blk (.cells #[.slice A7 ys.length cp7] 22)) (by decide) e.symm); have hc9 : w9.cell? ⟨w.heap.size, 3, none⟩ = some v3 := (blk_cell hb9 3).trans rfl; have hf9 := blk_frozen hb9 3))
          have hF9 := FamI.other HFY.out hwH HO.out R1.out R2.out R3.out hg9 hown9
          go_roundg gx
          case measure => omega
          case rel => exact ⟨x + 1, _, _, _, _, _, by go_num, by omega, ⟨by have := HX1.out; simp; omega, by have := HX2.out; simp; omega, by simpa using HX3.out, by simpa using HX4.out⟩, ⟨hF9⟩⟩
    · have hj2 : decide ((x : Int) < J) = false := decide_eq_false (by have := HJ.out; omega)
      have hj1 : ((x : Int) < J) = False := eq_false (by have := HJ.out; omega)
      obtain rfl : gk = 0 := by omega
      obtain ⟨hx1, hx2, hx3, hx4⟩ := HX.out
      simp only [smTo, otTo, List.append_nil] at hx3 hx4
      subst hx3 hx4
      clear HX hx1 hx2
      go_wp2
      go_ret
      exact ⟨_, _, _, _, rfl, HF.out⟩
end Go.Proofs.YtijfddobandcdaaDoor.X
end
section
/- sweep.CheckBlockage, by hand. -/
namespace Go.Proofs.YtijfddobandcdaaDoor.X
open Go.RowKit Go.Proofs.YtijfddobandcdaaDoorW.PrintWords Go.Proofs.YtijfddobandcdaaDoorW.PrintLast Go.Proofs.YtijfddobandcdaaDoorW.PrintMore Go.Proofs.YtijfddobandcdaaDoor.T
attribute [local go_sem] max2_int min2_int max_two min_two max_three min_three max_four min_four
set_option linter.unusedVariables false
set_option linter.unusedSimpArgs false

/-- read, of a valid graph and of another one. -/
theorem read_yes {G : List Nat} (hG : Gr 7 G) (A0 : Option Addr) (c0 : Nat) (w : World) (hr0 : Kd.C (Kd.int .i64) w A0 (gi G).length (gi G)) (hc0 : G.length ≤ c0) :
    Calls Tryd.prog 49 #[.slice A0 G.length c0] w fun e w' => ∃ A1 c1, e = .returned (.tuple #[.slice A1 G.length c1, .bool true]) ∧ G.length ≤ c1 ∧ Kd.C (Kd.int .i64) w' A1 (gi G).length (gi G) ∧ Below w.heap.size w w' := by
  obtain ⟨K, hK⟩ := read_ev (gi G) (by rw [gi_length]; have := hG.most; omega)
  have hk := hK K (Nat.le_refl _)
  rw [(chk_iff 7 (by omega) _).2 ⟨G, rfl, hG⟩] at hk
  have hl := gi_length G
  have := sweep_read.calls K (fun k_ => k_ < w.heap.size) A0 c0 (gi G) (gi G) true w (Kd.V_mk (by rw [hl]; exact hc0) (Kd.F_below (Kd.C_F (Kd.heap_int .i64) hr0) (Below.refl _ _))) hk
  rw [hl] at this
  refine this.mono ?_
  rintro e w' ⟨v, rfl, hv, hb⟩
  obtain ⟨A1, c1, rfl⟩ := Kd.V_slice hv
  have h2 := Kd.V_reads' hv
  rw [hl] at *
  exact ⟨A1, c1, rfl, h2.2.1, h2.2.2, hb⟩
theorem read_no {g : List Int} (hl : g.length < 2 ^ 60) (hg : chk 7 g = false) (A0 : Option Addr) (c0 : Nat) (w : World) (hr0 : Kd.C (Kd.int .i64) w A0 g.length g) (hc0 : g.length ≤ c0) :
    Calls Tryd.prog 49 #[.slice A0 g.length c0] w fun e w' => ∃ v, e = .returned (.tuple #[v, .bool false]) ∧ Below w.heap.size w w' := by
  obtain ⟨K, hK⟩ := read_ev g hl
  have hk := hK K (Nat.le_refl _)
  rw [hg] at hk
  refine (sweep_read.calls K (fun k_ => k_ < w.heap.size) A0 c0 g [] false w (Kd.V_mk hc0 (Kd.F_below (Kd.C_F (Kd.heap_int .i64) hr0) (Below.refl _ _))) hk).mono ?_
  rintro e w' ⟨v, rfl, hv, hb⟩
  exact ⟨v, rfl, hb⟩
/-- Block g holds so many marks. -/
def HRow (W : World) (g : Nat) (C : List Bool) : Prop := W.heap[g]? = some (.cells (C.map Value.bool).toArray 4 (0, 0))
theorem HRow.lt {W : World} {g : Nat} {C : List Bool} (h : HRow W g C) : g < W.heap.size := (Array.getElem?_eq_some_iff.1 h).1
theorem HRow.cell {W : World} {g : Nat} {C : List Bool} (h : HRow W g C) (i : Nat) (hi : i < C.length) : W.cell? ⟨g, i, none⟩ = some (.bool (C.getD i false)) := by
  unfold World.cell?
  rw [show W.heap[(⟨g, i, none⟩ : Addr).block]? = _ from h]
  simp only [Option.isSome_none, Bool.false_eq_true, if_false]
  simp [List.getElem?_eq_getElem hi]
theorem HRow.frozen {W : World} {g : Nat} {C : List Bool} (h : HRow W g C) (i : Nat) : W.frozen? ⟨g, i, none⟩ = false := by
  unfold World.frozen?
  rw [show W.heap[(⟨g, i, none⟩ : Addr).block]? = _ from h]
  simp
theorem HRow.below {W V : World} {g : Nat} {C : List Bool} (h : HRow W g C) (hb : Below W.heap.size W V) : HRow V g C := (hb.block g h.lt).trans h
theorem HRow.set {W : World} {g : Nat} {C : List Bool} (h : HRow W g C) (i : Nat) (v : Bool) : HRow (W.setCell ⟨g, i, none⟩ (.bool v)) g (C.set i v) := by
  obtain ⟨hlt, hk⟩ := Array.getElem?_eq_some_iff.1 h
  show (W.heap.modify g _)[g]? = _
  rw [Array.getElem?_eq_getElem (by rw [Array.size_modify]; exact hlt), Array.getElem_modify_self, hk]
  simp [List.map_set]
theorem HRow.made (W : World) (n : Nat) : HRow (W.alloc (.cells (madeCells #[Value.bool false] n) 4)) W.heap.size (List.replicate n false) := by
  have := heap_alloc_new W (.cells (madeCells #[Value.bool false] n) 4)
  unfold HRow
  rw [this]
  congr 2
  unfold madeCells
  apply Array.ext
  · simp
  · intro i h1 h2
    simp [Nat.mod_one]
theorem smTo_len (G : List Nat) (k : Nat) : ∀ d x, (smTo G k d x).length = d
  | 0, _ => rfl
  | d + 1, x => by rw [smTo, List.length_cons, smTo_len G k d]
theorem otTo_len (G : List Nat) (k : Nat) : ∀ d x, (otTo G k d x).length = d
  | 0, _ => rfl
  | d + 1, x => by rw [otTo, List.length_cons, otTo_len G k d]
theorem smTo_get (G : List Nat) (k : Nat) (d : Nat) : ∀ x i, i < d → (smTo G k d x).getD i false = decide (pc (bo G (x + i)) 9 ≤ k) := by
  induction d with
  | zero => intro x i h; omega
  | succ d ih =>
    intro x i h
    cases i with
    | zero => rw [smTo, List.getD_cons_zero, Nat.add_zero]
    | succ i => rw [smTo, List.getD_cons_succ, ih (x + 1) i (by omega), show x + 1 + i = x + (i + 1) by omega]
theorem otTo_get (G : List Nat) (k : Nat) (d : Nat) : ∀ x i, i < d → (otTo G k d x).getD i [] = othTo G k (x + i) (2 ^ G.length) 0 := by
  induction d with
  | zero => intro x i h; omega
  | succ d ih =>
    intro x i h
    cases i with
    | zero => rw [otTo, List.getD_cons_zero, Nat.add_zero]
    | succ i => rw [otTo, List.getD_cons_succ, ih (x + 1) i (by omega), show x + 1 + i = x + (i + 1) by omega]
/-- What a family tells of a set. -/
theorem FamI.small_at {w W : World} {gf H : Nat} {A0 : Option Addr} {c0 n k : Nat} {v2 v3 : Value} {bs : List Bool} {Ls : List (List Int)} (h : FamI w W gf H A0 c0 n k v2 v3 bs Ls) (hp : 0 < bs.length) : ∃ g2 c2, v2 = .slice (some ⟨g2, 0, none⟩) bs.length c2 ∧ ∀ y, y < bs.length → W.cell? ⟨g2, y, none⟩ = some (.bool (bs.getD y false)) := by
  obtain ⟨m, hm⟩ : ∃ m, bs.length = m + 1 := ⟨bs.length - 1, by omega⟩
  have ho := h.own2
  rw [hm] at ho
  obtain ⟨g2, c2, rfl⟩ := ownsRow_succ ho
  refine ⟨g2, c2, by rw [hm], fun y hy => ?_⟩
  have := ownsRow_cells ho y (.bool (bs.getD y false)) (by
    rw [List.getElem?_map, List.getElem?_eq_getElem hy, List.getD_eq_getElem?_getD, List.getElem?_eq_getElem hy]; rfl)
  rwa [Addr.add_lit, Nat.zero_add] at this
theorem FamI.other_at {w W : World} {gf H : Nat} {A0 : Option Addr} {c0 n k : Nat} {v2 v3 : Value} {bs : List Bool} {Ls : List (List Int)} (h : FamI w W gf H A0 c0 n k v2 v3 bs Ls) (hp : 0 < Ls.length) : ∃ g3 c3, v3 = .slice (some ⟨g3, 0, none⟩) Ls.length c3 ∧ ∀ x, x < Ls.length → ∃ A c, W.cell? ⟨g3, x, none⟩ = some (.slice A (Ls.getD x []).length c) ∧ ∀ i, i < (Ls.getD x []).length → ∃ ad, A = some ad ∧ W.cell? (ad.add i) = some (.int .i64 (rd (Ls.getD x []) (i : Int))) := by
  obtain ⟨rows, r1, r2, _⟩ := h.own3
  obtain ⟨m, hm⟩ : ∃ m, Ls.length = m + 1 := ⟨Ls.length - 1, by omega⟩
  rw [hm] at r1
  obtain ⟨g3, c3, rfl⟩ := ownsRow_succ r1
  refine ⟨g3, c3, by rw [hm], fun x hx => ?_⟩
  have hg : Ls[x]? = some (Ls.getD x []) := by rw [List.getD_eq_getElem?_getD, List.getElem?_eq_getElem hx]; rfl
  obtain ⟨v, q1, q2⟩ := r2.2 x _ hg
  obtain ⟨A, c, rfl⟩ := ownsRow_form q2
  have := ownsRow_cells r1 x _ q1
  rw [Addr.add_lit, Nat.zero_add] at this
  exact ⟨A, c, this, fun i hi => (ownsRow_reads q2).2.2 i hi⟩

theorem othTo_mem (G : List Nat) (k x : Nat) : ∀ (d y : Nat) (z : Int), z ∈ othTo G k x d y → ∃ n : Nat, z = (n : Int) ∧ n < y + d
  | 0, _, z, h => by simp [othTo] at h
  | d + 1, y, z, h => by
    simp only [othTo] at h
    split at h
    · rcases List.mem_cons.1 h with e | e
      · exact ⟨y, e, by omega⟩
      · obtain ⟨n, h1, h2⟩ := othTo_mem G k x d (y + 1) z e
        exact ⟨n, h1, by omega⟩
    · obtain ⟨n, h1, h2⟩ := othTo_mem G k x d (y + 1) z h
      exact ⟨n, h1, by omega⟩
theorem othTo_at (G : List Nat) (k x N i : Nat) (h : i < (othTo G k x N 0).length) : ∃ n : Nat, rd (othTo G k x N 0) (i : Int) = (n : Int) ∧ n < N := by
  have hm : rd (othTo G k x N 0) (i : Int) ∈ othTo G k x N 0 := by
    unfold rd
    rw [Int.toNat_natCast, List.getD_eq_getElem?_getD, List.getElem?_eq_getElem h]
    exact List.getElem_mem h
  obtain ⟨n, h1, h2⟩ := othTo_mem G k x N 0 _ hm
  exact ⟨n, h1, by omega⟩
/-- The list is rising and of small sets; the marks of its sets. -/
def cb1 (G : List Nat) (k : Nat) (l : List Int) : Nat → Nat → List Bool → Option (List Bool)
  | 0, _, H => some H
  | d + 1, i, H => if rd l (i : Int) < 0 then none else if ((2 ^ G.length - 1 : Nat) : Int) < rd l (i : Int) then none else if pc (bo G (rd l (i : Int)).toNat) 9 ≤ k then (if 0 < i ∧ rd l (i : Int) ≤ rd l ((i - 1 : Nat) : Int) then none else cb1 G k l d (i + 1) (H.set (rd l (i : Int)).toNat true)) else none
/-- What is part of x and small is marked if x is; of two sides just one is marked. -/
def cb2a (G : List Nat) (k : Nat) (H : List Bool) (x : Nat) : Nat → Nat → Bool
  | 0, _ => true
  | d + 1, y => !(H.getD x false && decide (pc (bo G y) 9 ≤ k) && (diff y x == 0) && !H.getD y false) && cb2a G k H x d (y + 1)
def cb2b (H : List Bool) (x : Nat) : List Int → Bool
  | [] => true
  | y :: L => !(H.getD x false == H.getD y.toNat false) && cb2b H x L
def cb2 (G : List Nat) (k : Nat) (H : List Bool) : Nat → Nat → Bool
  | 0, _ => true
  | d + 1, x => (cb2a G k H x (2 ^ G.length) 0 && cb2b H x (othTo G k x (2 ^ G.length) 0)) && cb2 G k H d (x + 1)
def cbE (G : List Nat) (k : Nat) : Option (List Bool) → Bool × Int
  | none => (false, 0)
  | some H => (cb2 G k H (2 ^ G.length) 0, 0)
def cbR (G : List Nat) (k : Nat) (l : List Int) : Bool × Int := cbE G k (cb1 G k l l.length 0 (List.replicate (2 ^ G.length) false))
def sweep_CheckBlockage.f (g : List Int) (a : Int) (l : List Int) : Option (Bool × Int) := if g.length < 2 ^ 60 ∧ l.length ≤ 1000 then (if chk 7 g = true then (if a < 0 then some (false, 2) else if 7 < a then some (false, 2) else some (cbR (g.map Int.toNat) a.toNat l)) else some (false, 2)) else none

set_option maxHeartbeats 8000000 in
set_option maxRecDepth 100000 in
theorem sweep_CheckBlockage.calls (A0 : Option Addr) (c0 : Nat) (l0 : List Int) (a1 : Int) (A2 : Option Addr) (c2 : Nat) (l2 : List Int) (r1 : Bool) (r2 : Int) (w : World) (hGL : GL w) (hr0 : Kd.C (Kd.int .i64) w A0 l0.length l0) (hc0 : l0.length ≤ c0) (hr2 : Kd.C (Kd.int .i64) w A2 l2.length l2) (hc2 : l2.length ≤ c2) (h : sweep_CheckBlockage.f l0 a1 l2 = some (r1, r2)) :
    Calls Tryd.prog 34 #[.slice A0 l0.length c0, .int .i64 a1, .slice A2 l2.length c2] w fun e w' => e = .returned (.tuple #[.bool r1, .int .i64 r2]) ∧ Below w.heap.size w w' := by
  unfold sweep_CheckBlockage.f at h
  by_cases hlen0 : l0.length < 2 ^ 60 ∧ l2.length ≤ 1000
  · rw [if_pos hlen0] at h
    have hlen := hlen0.1
    have hl2m := hlen0.2
    clear hlen0
    by_cases hchk : chk 7 l0 = true
    · rw [if_pos hchk] at h
      obtain ⟨G, rfl, hG⟩ := (chk_iff 7 (by omega) _).1 hchk
      rw [gi_toNat] at h
      have hn := hG.most
      rw [gi_length] at hc0
      have HRD := Aside0.mk (read_yes hG A0 c0 w hr0 hc0)
      rw [gi_length]
      clear hr0 hc0 hlen hchk
      by_cases ha0 : a1 < 0
      · rw [if_pos ha0] at h
        injection h with h
        injection h with h1 h2
        subst h1 h2
        have hd1 : decide (a1 < 0) = true := decide_eq_true ha0
        go_enter Tryd.func34, Tryd.ntmps34
        go_wp2_with (go_at_call 49; refine HRD.out.mono ?_; rintro e w1 ⟨A1, c1, rfl, hc1, hC1, hb1⟩)
        go_ret2
        exact ⟨rfl, hb1⟩
      · rw [if_neg ha0] at h
        have hd1 : decide (a1 < 0) = false := decide_eq_false ha0
        by_cases ha7 : 7 < a1
        · rw [if_pos ha7] at h
          injection h with h
          injection h with h1 h2
          subst h1 h2
          have hd2 : decide (a1 > 7) = true := decide_eq_true ha7
          go_enter Tryd.func34, Tryd.ntmps34
          go_wp2_with (go_at_call 49; refine HRD.out.mono ?_; rintro e w1 ⟨A1, c1, rfl, hc1, hC1, hb1⟩)
          go_ret2
          exact ⟨rfl, hb1⟩
        · rw [if_neg ha7] at h
          have hd2 : decide (a1 > 7) = false := decide_eq_false ha7
          obtain ⟨k, rfl⟩ := Int.eq_ofNat_of_zero_le (show 0 ≤ a1 by omega)
          have hk : k ≤ 7 := by omega
          rw [Int.toNat_natCast] at h
          have HF := Aside0.mk (Option.some.inj h)
          clear h ha0 ha7
          have HN7 := Aside0.mk (p7 hn)
          have HG := Aside0.mk hG
          have HGL := Aside0.mk hGL
          have HR2 := Aside0.mk hr2
          have HALL := Aside0.mk (all_f hG)
          have HL := Aside0.mk (gi_length G)
          obtain ⟨i4, hi4, hp0, hp1, hp2⟩ := info_parts info4
          obtain ⟨N, hN⟩ : ∃ N, 2 ^ G.length = N := ⟨_, rfl⟩
          have hN7 : N ≤ 128 := by rw [← hN]; exact HN7.out
          have hN1 : 1 ≤ N := by rw [← hN]; exact Nat.two_pow_pos _
          have hmk : ∀ W : World, (Instr.makeSlice 93 (.int .i64 (N : Int)) (.int .i64 (N : Int))).run Tryd.prog W = .ok (.slice (some ⟨W.heap.size, 0, none⟩) N N) (W.alloc (.cells (madeCells #[.bool false] N) 4)) := fun W => by
            have := run_make (P := Tryd.prog) W 93 4 i4 (.bool false) Tryd.underlying93 hi4 hp0 .i64 .i64 (N : Int) (N : Int) (by omega) (by omega) (by rw [hp2]; omega) (by omega)
            rw [hp1] at this
            simpa [Value.cells] using this
          obtain ⟨J, ⟨hS1, hS2, hS3⟩, hS4⟩ := shJ G.length (by omega)
          rw [hN] at hS4
          have HN := Aside0.mk hN
          have hmake : ∀ W : World, (Instr.makeSlice 93 (.int .i64 (wrap64 (2 ^ G.length))) (.int .i64 (wrap64 (2 ^ G.length)))).run Tryd.prog W = .ok (.slice (some ⟨W.heap.size, 0, none⟩) N N) (W.alloc (.cells (madeCells #[.bool false] N) 4)) := by rw [hS1, hS4]; exact hmk
          clear hG hGL hr2 hS1 hS2 hS3 hS4 hmk hi4 hp0 hp1 hp2
          obtain ⟨BS, hBS⟩ : ∃ b, smTo G k N 0 = b := ⟨_, rfl⟩
          obtain ⟨LS, hLS⟩ : ∃ b, otTo G k N 0 = b := ⟨_, rfl⟩
          have hbl : BS.length = N := by rw [← hBS]; exact smTo_len _ _ _ _
          have hll : LS.length = N := by rw [← hLS]; exact otTo_len _ _ _ _
          have HSG : Aside0 (∀ y, y < N → BS.getD y false = decide (pc (bo G y) 9 ≤ k)) := ⟨fun y hy => by rw [← hBS, smTo_get _ _ _ _ _ hy, Nat.zero_add]⟩
          have HOG : Aside0 (∀ x, x < N → LS.getD x [] = othTo G k x N 0) := ⟨fun y hy => by rw [← hLS, otTo_get _ _ _ _ _ hy, Nat.zero_add, hN]⟩
          have HBS := Aside0.mk hBS
          have HLS := Aside0.mk hLS
          have HBL := Aside0.mk hbl
          have HLL := Aside0.mk hll
          clear hBS hLS hbl hll
          obtain ⟨R1, hR1⟩ : ∃ r, cb1 G k l2 l2.length 0 (List.replicate N false) = r := ⟨_, rfl⟩
          have HRES : cbE G k R1 = (r1, r2) := by
            have := HF.out
            unfold cbR at this
            rwa [hN, hR1] at this
          have HR1 := Aside0.mk hR1
          have HNONE : Aside0 (R1 = none → r1 = false ∧ r2 = 0) := ⟨fun e => by
            rw [e] at HRES
            simp only [cbE, Prod.mk.injEq] at HRES
            exact ⟨HRES.1.symm, HRES.2.symm⟩⟩
          have HSOME : Aside0 (∀ C, R1 = some C → r1 = cb2 G k C N 0 ∧ r2 = 0) := ⟨fun C e => by
            rw [e] at HRES
            simp only [cbE, Prod.mk.injEq, hN] at HRES
            exact ⟨HRES.1.symm, HRES.2.symm⟩⟩
          clear hR1 HF hN HRES
          go_enter Tryd.func34, Tryd.ntmps34
          go_wp2_with (first
            | (go_at_call 49; refine HRD.out.mono ?_; rintro e w1 ⟨A1, c1, rfl, hc1, hC1, hb1⟩; have HFAM := Aside0.mk (family_calls A1 c1 G HG.out hc1 k hk w1 (GL_below HGL.out hb1) hC1); have HB1 := Aside0.mk hb1; have HC1 := Aside0.mk hC1; clear hb1 hC1)
            | (go_at_call 60; refine HFAM.out.mono ?_; rintro e w2 ⟨gf, H, v2, v3, rfl, hf⟩; rw [HN.out, HBS.out, HLS.out] at hf; have HF2 := Aside0.mk hf; clear hf))
          have hzH := HF2.out.top
          have hblw : w.heap.size ≤ w2.heap.size := Nat.le_trans HB1.out.size HF2.out.below.size
          have HF3 : Aside0 (FamI w1 (w2.alloc (.cells (madeCells #[.bool false] N) 4)) gf H A1 c1 G.length k v2 v3 BS LS) := ⟨HF2.out.kept (World.grownBy_alloc _ _ none) (fun r e => by cases e)⟩
          have HH3 : Aside0 (HRow (w2.alloc (.cells (madeCells #[.bool false] N) 4)) w2.heap.size (List.replicate N false)) := ⟨HRow.made w2 N⟩
          have HB3 : Aside0 (Below w.heap.size w (w2.alloc (.cells (madeCells #[.bool false] N) 4))) := ⟨below_alloc (below_then HB1.out HB1.out.size HF2.out.below) _⟩
          clear hmake
          go_loopg [43] l2.length (fun kq v43 w' => ∃ (i : Nat) (Hs : List Bool), v43 = .int .i64 (i : Int) ∧ i + kq = l2.length ∧ Aside0 (cb1 G k l2 kq i Hs = R1 ∧ Hs.length = N) ∧ Aside0 (FamI w1 w' gf H A1 c1 G.length k v2 v3 BS LS) ∧ Aside0 (HRow w' w2.heap.size Hs) ∧ Aside0 (Below w.heap.size w w'))
          case atStart => exact ⟨0, List.replicate N false, rfl, by omega, ⟨HR1.out, by simp⟩, HF3, HH3, HB3⟩
          case round =>
            clear HR1 HF3 HH3 HB3
            obtain ⟨i, Hs, rfl, hi, HY, HF, HH, HB⟩ := hrel
            by_cases hil : i < l2.length
            · have hi1 : ((i : Int) < (l2.length : Int)) = True := eq_true (by omega)
              have hi2 : decide ((i : Int) < (l2.length : Int)) = true := decide_eq_true (by omega)
              cases gk with
              | zero => omega
              | succ gi' =>
              have hy1 := HY.out.1
              simp only [cb1] at hy1
              rw [HN.out] at hy1
              obtain ⟨adx, e0, hgx⟩ := Kd.at_int (Kd.C_below HR2.out HB.out) (i : Int) (by omega) (by omega)
              subst e0
              rw [Int.toNat_natCast] at hgx
              have hprev : 0 < i → wr.cell? (adx.add (i - 1)) = some (.int .i64 (rd l2 ((i - 1 : Nat) : Int))) := fun h0 => by
                obtain ⟨ad2, e2, hg2⟩ := Kd.at_int (Kd.C_below HR2.out HB.out) ((i - 1 : Nat) : Int) (by omega) (by omega)
                injection e2 with e2
                subst e2
                rwa [Int.toNat_natCast] at hg2
              have HPREV := Aside0.mk hprev
              obtain ⟨g2, cp2, hv2, hsm⟩ := HF.out.small_at (by rw [HBL.out]; omega)
              rw [HBL.out] at hv2 hsm
              have HSM := Aside0.mk hsm
              obtain ⟨x, hx⟩ : ∃ x, rd l2 (i : Int) = x := ⟨_, rfl⟩
              have HPX := Aside0.mk hx
              rw [hx] at hgx hy1
              have hfc := blk_cell HF.out.blk 2
              have hfc2 : wr.cell? ⟨gf, 2, none⟩ = some v2 := hfc.trans rfl
              have CAL : Aside0 (∀ W, Below w.heap.size w W → True) := ⟨fun _ _ => trivial⟩
              have HALLC := Aside0.mk (sweep_town_all.calls A1 c1 (gi G) ((N - 1 : Nat) : Int) wr (Kd.C_below HC1.out (HF.out.below)) (by rw [HL.out]; exact hc1) (by rw [← HN.out]; exact HALL.out))
              rw [HL.out] at HALLC
              have HY2 := Aside0.mk HY.out.2
              clear hfc hprev hsm CAL hx HY
              subst hv2
              by_cases hx0 : x < 0
              · rw [if_pos hx0] at hy1
                have HY1 := Aside0.mk hy1
                have hd3 : decide (x < 0) = true := decide_eq_true hx0
                clear hy1
                go_wp2
                go_ret2
                obtain ⟨rfl, rfl⟩ := HNONE.out HY1.out.symm
                exact ⟨rfl, HB.out⟩
              · rw [if_neg hx0] at hy1
                have hd3 : decide (x < 0) = false := decide_eq_false hx0
                by_cases hxN : ((N - 1 : Nat) : Int) < x
                · rw [if_pos hxN] at hy1
                  have HY1 := Aside0.mk hy1
                  have hd4 : decide (x > ((N - 1 : Nat) : Int)) = true := decide_eq_true hxN
                  generalize ((N - 1 : Nat) : Int) = P at *
                  clear hy1
                  go_wp2_with (go_at_call 61; refine HALLC.out.mono ?_; rintro e w' ⟨rfl, m, rfl⟩)
                  go_ret2
                  obtain ⟨rfl, rfl⟩ := HNONE.out HY1.out.symm
                  exact ⟨rfl, pw_below_drewN HB.out _⟩
                · rw [if_neg hxN] at hy1
                  have hd4 : decide (x > ((N - 1 : Nat) : Int)) = false := decide_eq_false hxN
                  obtain ⟨xn, rfl⟩ := Int.eq_ofNat_of_zero_le (show 0 ≤ x by omega)
                  have hxn : xn < N := by omega
                  rw [Int.toNat_natCast] at hy1
                  have hsc := HSM.out xn hxn
                  rw [HSG.out xn hxn] at hsc
                  have hhc := HH.out.frozen xn
                  have hhc2 := HH.out.cell xn (by rw [HY2.out]; exact hxn)
                  generalize ((N - 1 : Nat) : Int) = P at *
                  clear hx0 hxN
                  by_cases hsmall : pc (bo G xn) 9 ≤ k
                  · rw [if_pos hsmall] at hy1
                    rw [decide_eq_true hsmall] at hsc
                    clear hsmall
                    by_cases hi0 : i = 0
                    · have hi3 : decide ((i : Int) > 0) = false := decide_eq_false (by omega)
                      have hi5 : decide (0 < i) = false := decide_eq_false (by omega)
                      have hi6 : (0 < i) = False := eq_false (by omega)
                      rw [if_neg (by omega)] at hy1
                      clear hi0
                      have HY1 := Aside0.mk hy1
                      clear hy1
                      go_wp2_with (go_at_call 61; refine HALLC.out.mono ?_; rintro e w' ⟨rfl, m, rfl⟩)
                      go_roundg gi'
                      case measure => omega
                      case rel => exact ⟨i + 1, Hs.set xn true, by go_num, by omega, ⟨HY1.out, by simpa using HY2.out⟩, ⟨((HF.out.low (pw_below_drewN (Below.refl _ _) m))).kept (grownBy_set _ _ _) (fun r e => by cases e; exact hzH)⟩, ⟨HRow.set (show HRow (wr.drewN m) w2.heap.size Hs from HH.out) _ _⟩, ⟨below_set (pw_below_drewN HB.out m) hblw⟩⟩
                    · have hi3 : decide ((i : Int) > 0) = true := decide_eq_true (by omega)
                      have hi5 : decide (0 < i) = true := decide_eq_true (by omega)
                      have hpc := HPREV.out (by omega)
                      have hm0 : 0 < i := by omega
                      clear hi0
                      have hm1 : ((i : Int) - 1).toNat = i - 1 := by omega
                      have hm2 : ((1 : Int) ≤ (i : Int)) = True := eq_true (by omega)
                      have hm3 : ((0 : Int) ≤ (i : Int) - 1) = True := eq_true (by omega)
                      have hm4 : ((i : Int) - 1 < (l2.length : Int)) = True := eq_true (by omega)
                      generalize rd l2 ((i - 1 : Nat) : Int) = z at *
                      by_cases hz : (xn : Int) ≤ z
                      · rw [if_pos ⟨hm0, hz⟩] at hy1
                        have hd5 : decide (z ≥ (xn : Int)) = true := decide_eq_true hz
                        have HY1 := Aside0.mk hy1
                        clear hy1 hz
                        go_wp2_with (go_at_call 61; refine HALLC.out.mono ?_; rintro e w' ⟨rfl, m, rfl⟩)
                        go_ret2
                        obtain ⟨rfl, rfl⟩ := HNONE.out HY1.out.symm
                        exact ⟨rfl, pw_below_drewN HB.out _⟩
                      · rw [if_neg (fun h => hz h.2)] at hy1
                        have hd5 : decide (z ≥ (xn : Int)) = false := decide_eq_false hz
                        have HY1 := Aside0.mk hy1
                        clear hy1 hz
                        go_wp2_with (go_at_call 61; refine HALLC.out.mono ?_; rintro e w' ⟨rfl, m, rfl⟩)
                        go_roundg gi'
                        case measure => omega
                        case rel => exact ⟨i + 1, Hs.set xn true, by go_num, by omega, ⟨HY1.out, by simpa using HY2.out⟩, ⟨((HF.out.low (pw_below_drewN (Below.refl _ _) m))).kept (grownBy_set _ _ _) (fun r e => by cases e; exact hzH)⟩, ⟨HRow.set (show HRow (wr.drewN m) w2.heap.size Hs from HH.out) _ _⟩, ⟨below_set (pw_below_drewN HB.out m) hblw⟩⟩
                  · rw [if_neg hsmall] at hy1
                    rw [decide_eq_false hsmall] at hsc
                    have HY1 := Aside0.mk hy1
                    clear hsmall hy1
                    go_wp2_with (go_at_call 61; refine HALLC.out.mono ?_; rintro e w' ⟨rfl, m, rfl⟩)
                    go_ret2
                    obtain ⟨rfl, rfl⟩ := HNONE.out HY1.out.symm
                    exact ⟨rfl, pw_below_drewN HB.out _⟩
            · have hi1 : ((i : Int) < (l2.length : Int)) = False := eq_false (by omega)
              have hi2 : decide ((i : Int) < (l2.length : Int)) = false := decide_eq_false (by omega)
              obtain rfl : gk = 0 := by omega
              have hy1 := HY.out.1
              simp only [cb1] at hy1
              have HY1 := Aside0.mk hy1
              clear hy1
              obtain ⟨hr1, hr2⟩ := HSOME.out Hs HY1.out.symm
              subst hr2
              have HHL := Aside0.mk HY.out.2
              have HCB : Aside0 (cb2 G k Hs N 0 = r1) := ⟨hr1.symm⟩
              clear hr1 HY HY1 HNONE HSOME
              go_wp2
              go_loopg [85] N (fun kq v85 w' => ∃ (x : Nat), v85 = .int .i64 (x : Int) ∧ x + kq = N ∧ Aside0 (cb2 G k Hs kq x = r1) ∧ Aside0 (FamI w1 w' gf H A1 c1 G.length k v2 v3 BS LS) ∧ Aside0 (HRow w' w2.heap.size Hs) ∧ Aside0 (Below w.heap.size w w'))
              case atStart => exact ⟨0, rfl, by omega, HCB, HF, HH, HB⟩
              case round =>
                clear HCB HF HH HB
                obtain ⟨x, rfl, hx, HX, HF, HH, HB⟩ := hrel
                by_cases hxn : x < N
                · have hj1 : ((x : Int) < (N : Int)) = True := eq_true (by omega)
                  have hj2 : decide ((x : Int) < (N : Int)) = true := decide_eq_true (by omega)
                  cases gk with
                  | zero => omega
                  | succ gx =>
                  have hx1 := HX.out
                  simp only [cb2] at hx1
                  rw [HN.out] at hx1
                  have HX1 := Aside0.mk hx1
                  have hfc2 : wr.cell? ⟨gf, 2, none⟩ = some v2 := (blk_cell HF.out.blk 2).trans rfl
                  obtain ⟨g2, cp2, hv2, hsm⟩ := HF.out.small_at (by rw [HBL.out]; omega)
                  rw [HBL.out] at hv2
                  clear hx1 HX hsm
                  subst hv2
                  go_wp2
                  go_loopg [93] N (fun kq v93 w' => ∃ (y : Nat), v93 = .int .i64 (y : Int) ∧ y + kq = N ∧ Aside0 (((cb2a G k Hs x kq y && cb2b Hs x (othTo G k x N 0)) && cb2 G k Hs gx (x + 1)) = r1) ∧ Aside0 (FamI w1 w' gf H A1 c1 G.length k (.slice (some ⟨g2, 0, none⟩) N cp2) v3 BS LS) ∧ Aside0 (HRow w' w2.heap.size Hs) ∧ Aside0 (Below w.heap.size w w'))
                  case atStart => exact ⟨0, rfl, by omega, HX1, HF, HH, HB⟩
                  case round =>
                    clear HX1 HF HH HB hfc2
                    obtain ⟨y, rfl, hy, HY, HF, HH, HB⟩ := hrel
                    by_cases hyn : y < N
                    · have hk1 : ((y : Int) < (N : Int)) = True := eq_true (by omega)
                      have hk2 : decide ((y : Int) < (N : Int)) = true := decide_eq_true (by omega)
                      cases gk with
                      | zero => omega
                      | succ gy =>
                      have hy1 := HY.out
                      simp only [cb2a] at hy1
                      obtain ⟨g2b, cp2b, hv2, hsm⟩ := HF.out.small_at (by rw [HBL.out]; omega)
                      rw [HBL.out] at hv2 hsm
                      injection hv2 with e1 e2 e3
                      injection e1 with e1
                      injection e1 with e1
                      subst e1
                      have hsc := hsm y hyn
                      rw [HSG.out y hyn] at hsc
                      have hcx := HH.out.cell x (by rw [HHL.out]; exact hxn)
                      have hcy := HH.out.cell y (by rw [HHL.out]; exact hyn)
                      have hdi := b_andNot y x (by omega) (by omega)
                      generalize decide (pc (bo G y) 9 ≤ k) = sB at *
                      generalize diff y x = df at *
                      clear hsm HY e2 e3
                      cases hq1 : Hs.getD x false
                      · rw [hq1] at hcx hy1
                        have HY1 := Aside0.mk hy1
                        clear hy1 hq1
                        go_wp2
                        go_roundg gy
                        case measure => omega
                        case rel => exact ⟨y + 1, by go_num, by omega, ⟨by simpa using HY1.out⟩, HF, HH, HB⟩
                      · rw [hq1] at hcx hy1
                        clear hq1
                        cases sB
                        · have HY1 := Aside0.mk hy1
                          clear hy1
                          go_wp2
                          go_roundg gy
                          case measure => omega
                          case rel => exact ⟨y + 1, by go_num, by omega, ⟨by simpa using HY1.out⟩, HF, HH, HB⟩
                        · by_cases hd0 : df = 0
                          · have hd3 : ((df : Int) == 0) = true := by simp [hd0]
                            rw [hd0] at hy1
                            clear hd0
                            cases hq4 : Hs.getD y false
                            · rw [hq4] at hcy hy1
                              obtain rfl : false = r1 := by simpa using hy1
                              clear hy1 hq4
                              go_wp2
                              go_ret2
                              exact ⟨rfl, HB.out⟩
                            · rw [hq4] at hcy hy1
                              have HY1 := Aside0.mk hy1
                              clear hy1 hq4
                              go_wp2
                              go_roundg gy
                              case measure => omega
                              case rel => exact ⟨y + 1, by go_num, by omega, ⟨by simpa using HY1.out⟩, HF, HH, HB⟩
                          · have hd3 : ((df : Int) == 0) = false := by simp; omega
                            have hd4 : (df == 0) = false := by simpa using hd0
                            rw [hd4] at hy1
                            have HY1 := Aside0.mk hy1
                            clear hy1 hd0 hd4
                            go_wp2
                            go_roundg gy
                            case measure => omega
                            case rel => exact ⟨y + 1, by go_num, by omega, ⟨by simpa using HY1.out⟩, HF, HH, HB⟩
                    · have hk1 : ((y : Int) < (N : Int)) = False := eq_false (by omega)
                      have hk2 : decide ((y : Int) < (N : Int)) = false := decide_eq_false (by omega)
                      obtain rfl : gk = 0 := by omega
                      have hy1 := HY.out
                      simp only [cb2a, Bool.true_and] at hy1
                      have HY1 := Aside0.mk hy1
                      obtain ⟨wo, rfl⟩ : ∃ wo : World, wo = wr := ⟨_, rfl⟩
                      obtain ⟨g3, cp3, hv3, hot⟩ := HF.out.other_at (by rw [HLL.out]; omega)
                      rw [HLL.out] at hv3 hot
                      obtain ⟨AL, cL, hcL, hLr⟩ := hot x hxn
                      rw [HOG.out x hxn] at hcL hLr
                      have hfc3 : wo.cell? ⟨gf, 3, none⟩ = some v3 := (blk_cell HF.out.blk 3).trans rfl
                      have HLA : Aside0 (∀ i, i < (othTo G k x N 0).length → ∃ n : Nat, rd (othTo G k x N 0) (i : Int) = (n : Int) ∧ n < N) := ⟨fun i hi => othTo_at G k x N i hi⟩
                      have hLl := othTo_len G k x N 0
                      generalize othTo G k x N 0 = L at *
                      have HLR := Aside0.mk hLr
                      clear hot hLr HY hy1
                      subst hv3
                      go_wp2
                      go_loopg [127] L.length (fun kq v127 w' => ∃ (j : Nat), v127 = .int .i64 (j : Int) ∧ j + kq = L.length ∧ Aside0 ((cb2b Hs x (L.drop j) && cb2 G k Hs gx (x + 1)) = r1) ∧ ∃ m, w' = wo.drewN m)
                      case atStart => exact ⟨0, rfl, by omega, HY1, 0, rfl⟩
                      case round =>
                        clear HY1
                        obtain ⟨j, rfl, hj, HJ, m, rfl⟩ := hrel
                        by_cases hjl : j < L.length
                        · have hl1 : ((j : Int) < (L.length : Int)) = True := eq_true (by omega)
                          have hl2 : decide ((j : Int) < (L.length : Int)) = true := decide_eq_true (by omega)
                          cases gk with
                          | zero => omega
                          | succ gj =>
                          obtain ⟨adL, eA, hcj⟩ := HLR.out j hjl
                          subst eA
                          obtain ⟨yn, hyn2, hylt⟩ := HLA.out j hjl
                          have hjx := HJ.out
                          rw [List.drop_eq_getElem_cons hjl] at hjx
                          simp only [cb2b] at hjx
                          have hLj : L[j] = (yn : Int) := by
                            rw [← hyn2]
                            unfold rd
                            rw [Int.toNat_natCast, List.getD_eq_getElem?_getD, List.getElem?_eq_getElem hjl]
                            rfl
                          rw [hLj, Int.toNat_natCast] at hjx
                          rw [hyn2] at hcj
                          have hcx : wo.cell? ⟨w2.heap.size, x, none⟩ = some (.bool (Hs.getD x false)) := HH.out.cell x (by rw [HHL.out]; exact hxn)
                          have hcy : wo.cell? ⟨w2.heap.size, yn, none⟩ = some (.bool (Hs.getD yn false)) := HH.out.cell yn (by rw [HHL.out]; exact hylt)
                          have hx0 : ((0 : Int) ≤ (x : Int)) = True := eq_true (by omega)
                          have hx1 : ((x : Int) < (N : Int)) = True := eq_true (by omega)
                          have hy0 : ((0 : Int) ≤ (yn : Int)) = True := eq_true (by omega)
                          have hy1 : ((yn : Int) < (N : Int)) = True := eq_true (by omega)
                          generalize Hs.getD x false = q1 at *
                          generalize Hs.getD yn false = q2 at *
                          clear hLj hyn2 HJ
                          cases hqq : (q1 == q2)
                          · rw [hqq] at hjx
                            have HJ1 := Aside0.mk hjx
                            clear hjx
                            go_wp2
                            go_quiet (fail)
                            go_wp2
                            go_roundg gj
                            case measure => omega
                            case rel => exact ⟨j + 1, by go_num, by omega, ⟨by simpa using HJ1.out⟩, _, rfl⟩
                          · rw [hqq] at hjx
                            obtain rfl : false = r1 := by simpa using hjx
                            clear hjx
                            go_wp2
                            go_quiet (fail)
                            go_wp2
                            go_ret2
                            exact ⟨rfl, pw_below_drewN (pw_below_drewN HB.out _) _⟩
                        · have hl1 : ((j : Int) < (L.length : Int)) = False := eq_false (by omega)
                          have hl2 : decide ((j : Int) < (L.length : Int)) = false := decide_eq_false (by omega)
                          obtain rfl : gk = 0 := by omega
                          have hjx := HJ.out
                          rw [List.drop_eq_nil_of_le (by omega)] at hjx
                          simp only [cb2b, Bool.true_and] at hjx
                          have HJ1 := Aside0.mk hjx
                          clear hjx
                          go_wp2
                          go_roundg gx
                          case measure => omega
                          case rel => exact ⟨x + 1, by go_num, by omega, HJ1, ⟨HF.out.low (pw_below_drewN (Below.refl _ _) m)⟩, HH, ⟨pw_below_drewN HB.out m⟩⟩
                · have hj1 : ((x : Int) < (N : Int)) = False := eq_false (by omega)
                  have hj2 : decide ((x : Int) < (N : Int)) = false := decide_eq_false (by omega)
                  obtain rfl : gk = 0 := by omega
                  obtain rfl : true = r1 := HX.out
                  go_wp2
                  go_ret2
                  exact ⟨rfl, HB.out⟩
    · rw [if_neg hchk] at h
      injection h with h
      injection h with h1 h2
      subst h1 h2
      have HRD := Aside0.mk (read_no hlen (by simpa using hchk) A0 c0 w hr0 hc0)
      go_enter Tryd.func34, Tryd.ntmps34
      go_wp2_with (go_at_call 49; refine HRD.out.mono ?_; rintro e w1 ⟨v1, rfl, hb1⟩)
      go_ret2
      exact ⟨rfl, hb1⟩
  · rw [if_neg hlen0] at h
    cases h
end Go.Proofs.YtijfddobandcdaaDoor.X
end
section
-- by ownprint.py (wip/tool), over the kit's print
namespace Go.Proofs.YtijfddobandcdaaDoor.X
open Go.RowKit Go.Proofs.YtijfddobandcdaaDoorW.PrintWords Go.Proofs.YtijfddobandcdaaDoorW.PrintLast Go.Proofs.YtijfddobandcdaaDoorW.PrintMore
attribute [local go_sem] max2_int min2_int max_two min_two max_three min_three max_four min_four
set_option linter.unusedVariables false
set_option linter.unusedSimpArgs false

/-! ### slices_Clone_int_int: function 57 -/
def slices_Clone_int_int.f (l0 : List Int) : Option (List Int) := (some (([] : List Int) : List Int)).bind fun y187 => (if y187.length + l0.length < 17592186044416 then (some (y187 ++ l0)) else (none))
set_option maxHeartbeats 8000000 in
set_option maxRecDepth 100000 in
theorem slices_Clone_int_int.calls_some (a0 : Addr) (c0 : Nat) (l0 : List Int) (r : List Int) (w : World) (hr0 : Kd.C (Kd.int .i64) w (some a0) l0.length l0) (hc0 : l0.length ≤ c0) (h : slices_Clone_int_int.f l0 = some r) :
    Calls Tryd.prog 57 #[.slice (some a0) l0.length c0] w fun e w' => ∃ v0_ : Value, e = .returned (v0_) ∧ Kd.R (Kd.int .i64) 3 w' w.heap.size (fun _ => True) v0_ r ∧ Below w.heap.size w w' := by
  have HR0 := Aside0.mk hr0
  have HC0 := Aside0.mk hc0
  clear hr0 hc0
  have HB := Aside0.mk (Below.refl w.heap.size w)
  have H : ((some (([] : List Int) : List Int)).bind fun y187 => (if y187.length + l0.length < 17592186044416 then (some (y187 ++ l0)) else (none))) = some r := h
  clear h
  obtain ⟨y187, hy187⟩ : ∃ y_ : List Int, y_ = (([] : List Int)) := ⟨_, rfl⟩
  replace H : (if y187.length + l0.length < 17592186044416 then (some (y187 ++ l0)) else (none)) = some r := by first | (rw [hy187]; with_reducible exact H) | (have H2_ := (Option.bind_some _ _).symm.trans H; rw [hy187]; with_reducible exact H2_) | (have H2_ := (Option.bind_some _ _).symm.trans H; with_reducible exact H2_) | with_reducible exact H | (rw [hy187]; exact H) | exact H
  have Ny187 := Aside0.mk hy187
  clear hy187
  by_cases c2 : y187.length + l0.length < 17592186044416
  · rw [if_pos c2] at H
    have LMc2 := Aside0.mk c2
    clear c2
    obtain ⟨y190, hy190⟩ : ∃ y_ : List Int, y_ = (y187 ++ l0) := ⟨_, rfl⟩
    replace H : (some y190) = some r := by first | (rw [hy190]; with_reducible exact H) | (have H2_ := (Option.bind_some _ _).symm.trans H; rw [hy190]; with_reducible exact H2_) | (have H2_ := (Option.bind_some _ _).symm.trans H; with_reducible exact H2_) | with_reducible exact H | (rw [hy190]; exact H) | exact H
    have Ny190 := Aside0.mk hy190
    clear hy190
    obtain rfl := Option.some.inj H
    have heq_ := fun (w : World) => Lib.run_eql_slice_nil (P := Tryd.prog) w 22 3 (some a0) l0.length c0 0 0 Tryd.underlying22
    go_enter Tryd.func57, Tryd.ntmps57
    go_wp2_with (first | ((with_reducible refine gate_dst (N := 5) rfl ?_); refine Kd.R_lit (Kd.int .i64) _ 3 ?hg (N := 5) ?hd (xs := ([] : List Int)) (inner := []) (ok := fun _ => True) (okp := fun _ => True) ?hr ?hp (fun _ hk => hk) trivial (Below.refl _ _) (Nat.le_refl _) (by simp) ?_; (case hd => rfl); (case hg => rfl); (case hr => first | (go_simp; done) | (go_simp; rfl)); (case hp => exact (Reps.none _ _)); intro v188 w3 ho4 hb hg_ hnew_; clear hg_ hnew_; (first | rw [← Ny187.out] at ho4 | (simp only [Int.reduceToNat] at ho4; rw [← Ny187.out] at ho4)); have n0_ := Aside0.mk (Kd.R_lower ho4 (below_size (by repeat (first | (with_reducible first | exact HB.out | apply below_alloc | apply pw_below_drewN | apply below_drew1) | exact HB.out)))); have n1_ := Aside0.mk (below_step (by repeat (first | (with_reducible first | exact HB.out | apply below_alloc | apply pw_below_drewN | apply below_drew1) | exact HB.out)) hb); clear HB; have HO189 := n0_; have HB := n1_; clear n0_ n1_; clear hb ho4) | ((with_reducible refine gate_builtin (b := .append) (xs := #[.tmp 5, .tmp 6]) rfl ?_); at_builtin; refine Kd.R_append_rows (Kd.int .i64) (w0 := w) w.heap.size rfl (.tmp 5) (.tmp 6) 22 3 (.int .i64 0) 8 rfl Tryd.underlying22 info3 rfl (by decide) (by omega) v188 y187 l0 _ _ _ (fun _ => True) (fun _ => False) rfl rfl ?aO ?aR (fun _ _ h => h) (fun _ h => h.elim) ?aF ?aB ?aS ?aL ?_; (case aR => repeat (first | exact (Kd.C_below HR0.out HB.out) | (with_reducible refine Kd.C_alloc ?_ _) | (with_reducible refine Kd.C_drewN ?_ _) | (with_reducible refine Kd.C_drew ?_))); (case aB => exact (by repeat (first | (with_reducible first | exact HB.out | apply below_alloc | apply pw_below_drewN | apply below_drew1) | exact HB.out))); (case aF => exact (fun _ _ => trivial)); (case aO => exact (by (with_reducible repeat (first | apply Kd.R_alloc | apply Kd.R_drewN | apply Kd.R_drew)); exact HO189.out)); (case aS => exact (below_size (by repeat (first | (with_reducible first | exact HB.out | apply below_alloc | apply pw_below_drewN | apply below_drew1) | exact HB.out)))); (case aL => have := LMc2.out; omega); intro v191 w5 ho hb hg hat; rw [← Ny190.out] at ho; have n0_ := Aside0.mk (hb); have n1_ := Aside0.mk (ho); clear HB; clear HO189; have HB := n0_; have HO192 := n1_; clear n0_ n1_; clear ho hb hg hat))
    go_ret
    exact ⟨_, by first | rfl | (simp [errW_none, errW_some] <;> rfl) | (simp [*, errW_none, errW_some] <;> rfl), by (with_reducible repeat (first | apply Kd.R_alloc | apply Kd.R_drewN | apply Kd.R_drew)); exact HO192.out, by repeat (first | (with_reducible first | exact HB.out | apply below_alloc | apply pw_below_drewN | apply below_drew1) | exact HB.out)⟩
  · rw [if_neg c2] at H
    exact absurd H (by simp)

theorem slices_Clone_int_int.calls (A0 : Option Addr) (c0 : Nat) (l0 : List Int) (r : List Int) (w : World) (hr0 : Kd.C (Kd.int .i64) w A0 l0.length l0) (hc0 : l0.length ≤ c0) (h : slices_Clone_int_int.f l0 = some r) :
    Calls Tryd.prog 57 #[.slice A0 l0.length c0] w fun e w' => ∃ v0_ : Value, e = .returned (v0_) ∧ Kd.R (Kd.int .i64) 3 w' w.heap.size (fun _ => True) v0_ r ∧ Below w.heap.size w w' := by
  cases A0 with
  | some a0 => exact slices_Clone_int_int.calls_some a0 c0 l0 r w hr0 hc0 h
  | none =>
    have hl : l0 = [] := by
      rcases Nat.eq_zero_or_pos l0.length with h0 | h0
      · exact List.length_eq_zero_iff.mp h0
      · obtain ⟨ad, he, _⟩ := hr0.2.2 h0
        cases he
    subst hl
    obtain rfl : [] = r := by simpa [slices_Clone_int_int.f] using h
    clear h hr0 hc0
    have heq_ := fun (w : World) => Lib.run_eql_slice_nil (P := Tryd.prog) w 22 3 none 0 c0 0 0 Tryd.underlying22
    go_enter Tryd.func57, Tryd.ntmps57
    go_wp2
    go_ret
    exact ⟨_, rfl, Kd.R_nil _ _ _ _ _, Below.refl _ _⟩

end Go.Proofs.YtijfddobandcdaaDoor.X
end
section
-- by ownprint.py (wip/tool), over the kit's print
namespace Go.Proofs.YtijfddobandcdaaDoor.X
open Go.RowKit Go.Proofs.YtijfddobandcdaaDoorW.PrintWords Go.Proofs.YtijfddobandcdaaDoorW.PrintLast Go.Proofs.YtijfddobandcdaaDoorW.PrintMore
attribute [local go_sem] max2_int min2_int max_two min_two max_three min_three max_four min_four
set_option linter.unusedVariables false
set_option linter.unusedSimpArgs false

/-! ### lampblacklaw03_list: function 27 -/
def lampblacklaw03_list.f (l0 : List Int) : Option (List Int) := if 0 ≤ (mn (l0.length : Int) 140) then (if (mn (l0.length : Int) 140) ≤ (l0.length : Int) then ((slices_Clone_int_int.f (l0.take ((mn (l0.length : Int) 140) : Int).toNat)).bind fun t246 => (some t246)) else (none)) else (none)
set_option maxHeartbeats 8000000 in
set_option maxRecDepth 100000 in
theorem lampblacklaw03_list.calls (A0 : Option Addr) (c0 : Nat) (l0 : List Int) (r : List Int) (w : World) (hr0 : Kd.C (Kd.int .i64) w A0 l0.length l0) (hc0 : l0.length ≤ c0) (h : lampblacklaw03_list.f l0 = some r) :
    Calls Tryd.prog 27 #[.slice A0 l0.length c0] w fun e w' => ∃ v0_ : Value, e = .returned (v0_) ∧ Kd.R (Kd.int .i64) 3 w' w.heap.size (fun _ => True) v0_ r ∧ Below w.heap.size w w' := by
  have HR0 := Aside0.mk hr0
  have HC0 := Aside0.mk hc0
  clear hr0 hc0
  have HB := Aside0.mk (Below.refl w.heap.size w)
  have H : (if 0 ≤ (mn (l0.length : Int) 140) then (if (mn (l0.length : Int) 140) ≤ (l0.length : Int) then ((slices_Clone_int_int.f (l0.take ((mn (l0.length : Int) 140) : Int).toNat)).bind fun t246 => (some t246)) else (none)) else (none)) = some r := h
  clear h
  obtain ⟨ji2, hji2⟩ : ∃ j_ : Int, (mn (l0.length : Int) 140) = j_ := ⟨_, rfl⟩
  replace H : (if 0 ≤ (ji2) then (if (ji2) ≤ (l0.length : Int) then ((slices_Clone_int_int.f (l0.take ((ji2) : Int).toNat)).bind fun t246 => (some t246)) else (none)) else (none)) = some r := by first | (rw [hji2] at H; exact H) | (simp only [hji2] at H ⊢; exact H)
  (try (have hji2h : ji2 ≤ 140 := by (rw [← hji2]; unfold mn; (repeat' split) <;> omega)))
  (try (have hji2g : ji2 ≤ 64 := by omega))
  (try (have hji2l : 0 ≤ ji2 := by (rw [← hji2]; unfold mn; (repeat' split) <;> omega)))
  (try (have hji2m : 0 ≤ ji2 := by omega))
  have hji2_ : (if 140 < (l0.length : Int) then 140 else (l0.length : Int)) = ji2 := hji2
  by_cases c3 : 0 ≤ (ji2)
  · rw [if_pos c3] at H
    have c3b0 := eq_true c3
    have c3b1 : decide (0 ≤ (ji2)) = true := decide_eq_true c3
    clear c3
    by_cases c4 : (ji2) ≤ (l0.length : Int)
    · rw [if_pos c4] at H
      have c4b0 := eq_true c4
      have c4b1 : decide ((ji2) ≤ (l0.length : Int)) = true := decide_eq_true c4
      clear c4
      replace H := Option.bind_eq_some_iff.mp H
      obtain ⟨t246, A50, H⟩ := H
      replace H : (some t246) = some r := H
      have A5 := Aside0.mk A50
      clear A50
      obtain rfl := Option.some.inj H
      obtain ⟨i06, hi06, _, hsz6, _⟩ := info_parts info3
      obtain ⟨hcut6, hA6, hC6⟩ := print_take_of (P := Tryd.prog) (Value.int .i64) 0 22 3 .i64 Tryd.underlying22 hi06 hsz6 A0 c0 l0 (ji2) (of_decide_eq_true (by first | (with_reducible assumption) | assumption)) (of_decide_eq_true (by first | (with_reducible assumption) | assumption)) HC0.out
      have HR245 := Aside0.mk (Kd.C_of_reads (h1 := fun _ => rfl) (hA6 _ (Kd.reads_of_C HR0.out)))
      have HC245 := Aside0.mk hC6
      clear hA6 hC6 hi06 hsz6
      go_enter Tryd.func27, Tryd.ntmps27
      go_wp2_with (first | ((with_reducible refine gate_callee (f := 57) rfl ?_); refine goesL_ (some 8) rfl rfl Tryd.func57 (by kernel_rfl) rfl #[.slice A0 (l0.take ((ji2) : Int).toNat).length c0] rfl (by (try simp only [List.map_toArray, List.map_cons, List.map_nil]); first | done | (rw [show (l0.take ((ji2) : Int).toNat).length = (ji2).toNat from (by rw [List.length_take]; have h_ : ((ji2) : Int) ≤ (l0.length : Int) := of_decide_eq_true (by first | (with_reducible assumption) | assumption); omega)] <;> rfl) | (simp only [hji2]; rfl) | rfl | (simp only [List.length_drop, List.length_take]; rfl)) ?_; (with_reducible refine (slices_Clone_int_int.calls _ _ (l0.take ((ji2) : Int).toNat) t246 _ ?side1 ?side2 A5.out).mono ?_); (case side1 => repeat (first | exact HR245.out | (with_reducible refine Kd.C_alloc ?_ _) | (with_reducible refine Kd.C_drewN ?_ _) | (with_reducible refine Kd.C_drew ?_))); (case side2 => exact HC245.out); rintro e w7 ⟨v247, rfl, ho0, hb⟩; refine ⟨_, rfl, ?_⟩; have n0_ := Aside0.mk (Kd.R_lower ho0 (below_size (by repeat (first | (with_reducible first | exact HB.out | apply below_alloc | apply pw_below_drewN | apply below_drew1) | exact HB.out)))); have n1_ := Aside0.mk (below_step (by repeat (first | (with_reducible first | exact HB.out | apply below_alloc | apply pw_below_drewN | apply below_drew1) | exact HB.out)) hb); clear HB; have HO248 := n0_; have HB := n1_; clear n0_ n1_; (try clear hb); (try clear hb2); (try clear hk); (try clear hi); (try clear ho0)))
      go_ret
      exact ⟨_, by first | rfl | (simp [errW_none, errW_some] <;> rfl) | (simp only [← hji2]; first | rfl | (simp [errW_none, errW_some] <;> rfl)) | (simp [*, errW_none, errW_some] <;> rfl), by (with_reducible repeat (first | apply Kd.R_alloc | apply Kd.R_drewN | apply Kd.R_drew)); exact HO248.out, by repeat (first | (with_reducible first | exact HB.out | apply below_alloc | apply pw_below_drewN | apply below_drew1) | exact HB.out)⟩
    · rw [if_neg c4] at H
      exact absurd H (by simp)
  · rw [if_neg c3] at H
    exact absurd H (by simp)

end Go.Proofs.YtijfddobandcdaaDoor.X
end
