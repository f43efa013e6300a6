/- Part 2 of what SweepTurns rests on: contracts of the functions that it reaches, and what they compute, in plain words. -/
import Derived.Test.YtijfddobandcdaaDoorZSweepTurns0
import Derived.Test.YtijfddobandcdaaDoorZSweepTurns1
section
-- by ownprint.py (wip/tool), over the kit's print
namespace Go.Proofs.YtijfddobandcdaaDoor.X
open Go.RowKit Go.Proofs.YtijfddobandcdaaDoorW.PrintWords Go.Proofs.YtijfddobandcdaaDoorW.PrintLast Go.Proofs.YtijfddobandcdaaDoorW.PrintMore
attribute [local go_sem] max2_int min2_int max_two min_two max_three min_three max_four min_four
set_option linter.unusedVariables false
set_option linter.unusedSimpArgs false

/-! ### lampblackref03_Valid: function 19 -/
def lampblackref03_Valid.f (k : Nat) (l0 : List Int) : Option (Bool) := (lampblackref01_IsGraph.f k l0 7).bind fun t130 => (some t130)
theorem lampblackref03_Valid.mono : ∀ a0 k, LeO (lampblackref03_Valid.f k a0) (lampblackref03_Valid.f (k + 1) a0) := by
  intro a0 k
  unfold lampblackref03_Valid.f
  repeat' first
      | (with_reducible exact lampblackref01_IsGraph.mono _ _ _)
      | (with_reducible exact LeO.refl _)
      | (with_reducible exact LeO.none _)
      | (with_reducible refine LeO.ite ?_ ?_)
      | (with_reducible refine LeO.bind ?_ (fun _ => ?_))
      | exact lampblackref01_IsGraph.mono _ _ _
      | exact LeO.none _
      | refine LeO.ite ?_ ?_
      | refine LeO.bind ?_ (fun _ => ?_)
set_option maxHeartbeats 8000000 in
set_option maxRecDepth 100000 in
theorem lampblackref03_Valid.calls (k : Nat) (A0 : Option Addr) (c0 : Nat) (l0 : List Int) (r : Bool) (w : World) (hr0 : Kd.C (Kd.int .i64) w A0 l0.length l0) (hc0 : l0.length ≤ c0) (h : lampblackref03_Valid.f k l0 = some r) :
    Calls Tryd.prog 19 #[.slice A0 l0.length c0] w fun e w' => e = .returned (.bool r) ∧ Drawn0 w w' := by
  have HR0 := Aside0.mk hr0
  have HC0 := Aside0.mk hc0
  clear hr0 hc0
  have H : ((lampblackref01_IsGraph.f k l0 7).bind fun t130 => (some t130)) = some r := h
  clear h
  replace H := Option.bind_eq_some_iff.mp H
  obtain ⟨t130, A20, H⟩ := H
  replace H : (some t130) = some r := H
  have A2 := Aside0.mk A20
  clear A20
  obtain rfl := Option.some.inj H
  go_enter Tryd.func19, Tryd.ntmps19
  go_wp2_with (first | ((with_reducible refine gate_callee (f := 48) rfl ?_); refine goesL_ (some 4) rfl rfl Tryd.func48 (by kernel_rfl) rfl #[.slice A0 l0.length c0, .int .i64 7] rfl (by (try simp only [List.map_toArray, List.map_cons, List.map_nil]); first | done | rfl | (simp only [List.length_drop, List.length_take]; rfl)) ?_; (with_reducible refine (lampblackref01_IsGraph.calls k _ _ l0 7 t130 _ ?side1 ?side2 A2.out).mono ?_); (case side1 => repeat (first | exact HR0.out | (with_reducible refine Kd.C_alloc ?_ _) | (with_reducible refine Kd.C_drewN ?_ _) | (with_reducible refine Kd.C_drew ?_))); (case side2 => exact HC0.out); rintro e w' ⟨rfl, ⟨nd, rfl⟩⟩; refine ⟨_, rfl, ?_⟩))
  go_ret
  exact ⟨by first | rfl | (simp; done) | (simp [*]; done), by repeat (first | exact Drawn0.refl _ | apply Drawn0.step)⟩

end Go.Proofs.YtijfddobandcdaaDoor.X
end
section
/- border, count, layout: what they compute, in plain words; Layout, Least, awake, Few. -/
set_option linter.unusedVariables false
namespace Go.Proofs.YtijfddobandcdaaDoor.X
open Go.RowKit Go.Proofs.YtijfddobandcdaaDoorW.PrintWords Go.Proofs.YtijfddobandcdaaDoorW.PrintLast Go.Proofs.YtijfddobandcdaaDoorW.PrintMore Go.Proofs.YtijfddobandcdaaDoor.T

theorem mx_nat (a b : Nat) : mx (a : Int) (b : Int) = ((max a b : Nat) : Int) := by unfold mx; split <;> omega
theorem mn_nat (a b : Nat) : mn (a : Int) (b : Int) = ((min a b : Nat) : Int) := by unfold mn; split <;> omega
theorem small (G : List Nat) (h : G.length ≤ 9) {x : Nat} (hx : x < 2 ^ G.length) : x < 512 := Nat.lt_of_lt_of_le hx (show 2 ^ G.length ≤ 2 ^ 9 from Nat.pow_le_pow_right (by omega) h)
theorem big {x : Nat} (h : x < 512) : x < 2 ^ 62 := by omega
theorem ctz_all : ∀ z : Fin 512, 0 < z.val → Lib.ctz 64 z.val < 9 ∧ z.val.testBit (Lib.ctz 64 z.val) = true ∧ rest z.val = diff z.val (2 ^ Lib.ctz 64 z.val) ∧ ∀ j : Fin 9, z.val.testBit j.val = true → Lib.ctz 64 z.val ≤ j.val := by decide +kernel
theorem ctz_bit {z : Nat} (hz : z < 512) (h0 : z ≠ 0) : bset z (Lib.ctz 64 z) := (ctz_all ⟨z, hz⟩ (by show 0 < z; omega)).2.1
theorem ctz_low {z : Nat} (hz : z < 512) (h0 : z ≠ 0) {j : Nat} (hj : bset z j) : Lib.ctz 64 z ≤ j := (ctz_all ⟨z, hz⟩ (by show 0 < z; omega)).2.2.2 ⟨j, bit_lt (n := 9) (by omega) hj⟩ hj
theorem rest_diff {z : Nat} (hz : z < 512) (h0 : z ≠ 0) : rest z = diff z (2 ^ Lib.ctz 64 z) := (ctz_all ⟨z, hz⟩ (by show 0 < z; omega)).2.2.1
theorem rest_bset {z : Nat} (hz : z < 512) (h0 : z ≠ 0) (j : Nat) : bset (rest z) j ↔ bset z j ∧ j ≠ Lib.ctz 64 z := by
  rw [rest_diff hz h0, diff_bset, two_pow_bit]
theorem rest_pc {z : Nat} (hz : z < 512) (h0 : z ≠ 0) : pc (rest z) 9 < pc z 9 := by
  have h1 := ctz_bit hz h0
  refine pc_lt (Lib.ctz 64 z) 9 (fun j _ h => ((rest_bset hz h0 j).1 h).1) (bit_lt (n := 9) (by omega) h1) ?_ h1
  have := rest_bset hz h0 (Lib.ctz 64 z)
  cases h : (rest z).testBit (Lib.ctz 64 z)
  · rfl
  · exact ((this.1 h).2 rfl).elim
theorem diff_ne {a b : Nat} : diff a b ≠ 0 ↔ ∃ u, bset a u ∧ ¬ bset b u := by
  constructor
  · intro h
    obtain ⟨i, hi⟩ := Nat.exists_testBit_of_ne_zero h
    exact ⟨i, (diff_bset a b i).1 hi⟩
  · rintro ⟨u, hu⟩ h
    have := (diff_bset a b u).2 hu
    rw [h] at this
    unfold bset at this
    simp at this

theorem count_all : ∀ x : Fin 512, sweep_count.f (x.val : Int) = some (pc x.val 9 : Int) := by decide +kernel
theorem count_eq (x : Nat) (hx : x < 512) : sweep_count.f (x : Int) = some (pc x 9 : Int) := count_all ⟨x, hx⟩

theorem rest_lt' {s n : Nat} (hs5 : s < 512) (h0 : s ≠ 0) (hs : s < 2 ^ n) : rest s < 2 ^ n := lt_of_bits fun j hj => bit_lt hs ((rest_bset hs5 h0 j).1 hj).1
theorem bordTo_eq (G : List Nat) (hG : Gr 7 G) (S : Nat) (hS : S < 2 ^ G.length) : ∀ (k s o : Nat), pc s 9 < k → s < 2 ^ G.length → o < 2 ^ G.length → (∀ j, bset s j → bset S j) →
    ∃ r : Nat, bordTo (gi G) S k s (o : Int) = some (r : Int) ∧ r < 2 ^ G.length ∧ ∀ j, bset r j ↔ bset o j ∨ (bset s j ∧ ∃ u, Adj G j u ∧ ¬ bset S u) := by
  have hn := hG.most
  intro k
  induction k with
  | zero => intro s o h; omega
  | succ k ih =>
    intro s o hk hs ho hsS
    have hs5 := small G (by omega) hs
    by_cases h0 : s = 0
    · subst h0
      refine ⟨o, by rw [bordTo, if_pos rfl], ho, fun j => ⟨.inl, fun h => h.elim id (fun h => ?_)⟩⟩
      have := h.1
      unfold bset at this
      simp at this
    · have hb := ctz_bit hs5 h0
      have hp := rest_pc hs5 h0
      have hr := rest_bset hs5 h0
      have hrl := rest_lt' hs5 h0 hs
      rw [bordTo, if_neg h0]
      generalize Lib.ctz 64 s = v at *
      have hv : v < G.length := bit_lt hs hb
      have hpv : 2 ^ v < 2 ^ G.length := Nat.pow_lt_pow_right (by omega) hv
      have hrow := hG.row v
      rw [if_pos (by rw [gi_length]; omega), rd_gi, b_andNot _ _ (big (small G (by omega) hrow)) (big (small G (by omega) hS)), s_one v (by omega), b_or _ _ (big (small G (by omega) ho)) (big (small G (by omega) hpv))]
      by_cases hd : diff (G.getD v 0) S = 0
      · rw [hd, if_neg (by decide)]
        obtain ⟨r, h1, h2, h3⟩ := ih (rest s) o (by omega) hrl ho (fun j hj => hsS j ((hr j).1 hj).1)
        refine ⟨r, h1, h2, fun j => ?_⟩
        rw [h3, hr]
        constructor
        · rintro (h | ⟨h, h'⟩)
          · exact .inl h
          · exact .inr ⟨h.1, h'⟩
        · rintro (h | ⟨h, u, hu, hu'⟩)
          · exact .inl h
          · refine .inr ⟨⟨h, fun e => ?_⟩, u, hu, hu'⟩
            subst e
            exact (diff_ne.2 ⟨u, hu, hu'⟩ hd).elim
      · have hd' : ((diff (G.getD v 0) S : Nat) : Int) ≠ 0 := by omega
        rw [if_pos (by simpa using hd)]
        obtain ⟨r, h1, h2, h3⟩ := ih (rest s) (o ||| 2 ^ v) (by omega) hrl (or_lt ho hpv) (fun j hj => hsS j ((hr j).1 hj).1)
        refine ⟨r, h1, h2, fun j => ?_⟩
        rw [h3, hr, or_bset, two_pow_bit]
        obtain ⟨u, hu, hu'⟩ := diff_ne.1 hd
        constructor
        · rintro ((h | h) | ⟨h, h'⟩)
          · exact .inl h
          · subst h; exact .inr ⟨hb, u, hu, hu'⟩
          · exact .inr ⟨h.1, h'⟩
        · rintro (h | ⟨h, h'⟩)
          · exact .inl (.inl h)
          · by_cases e : j = v
            · exact .inl (.inr e)
            · exact .inr ⟨⟨h, e⟩, h'⟩
theorem border_eq (G : List Nat) (hG : Gr 7 G) (S : Nat) (hS : S < 2 ^ G.length) : sweep_town_border.f (gi G) (S : Int) = some ((bor G S : Nat) : Int) := by
  have hn := hG.most
  have hS5 := small G (by omega) hS
  unfold sweep_town_border.f
  rw [if_pos (by omega), if_pos (by have := big hS5; omega), Int.toNat_natCast]
  obtain ⟨r, h1, h2, h3⟩ := bordTo_eq G hG S hS 64 S 0 (by have := pc_le S 9; omega) hS (Nat.two_pow_pos _) (fun _ h => h)
  have e : r = bor G S := eq_of_bits fun j => by
    have a := h3 j
    have b := bor_bit hG S j
    unfold bset at *
    rw [a, b]
    simp
  subst e
  exact h1
/-- How many nodes a set's border has. -/
noncomputable def bc (G : List Nat) (S : Nat) : Nat := pc (bor G S) 9
theorem cost_eq (G : List Nat) (hG : Gr 7 G) (S : Nat) (hS : S < 2 ^ G.length) : cost (gi G) (S : Int) = some ((bc G S : Nat) : Int) := by
  unfold cost bc
  rw [border_eq G hG S hS, Option.bind_some]
  exact count_eq _ (small G (by have := hG.most; omega) (bor_lt G S))

/-- x is the least breadth of what can come behind S. -/
def PV (G : List Nat) (S x : Nat) : Prop := ∀ q, x ≤ q ↔ Lay G q S
theorem getD_set (W : List Nat) (i j x : Nat) (hi : i < W.length) : (W.set i x).getD j 0 = if j = i then x else W.getD j 0 := by
  simp only [List.getD_eq_getElem?_getD, List.getElem?_set]
  by_cases h : i = j
  · subst h; simp [hi]
  · rw [if_neg h, if_neg (fun e => h e.symm)]
theorem bestIn_eq (G : List Nat) (hG : Gr 7 G) (S : Nat) (hS : S < 2 ^ G.length) : ∀ (k s : Nat) (W : List Nat), pc s 9 < k → s < 2 ^ G.length → (∀ j, bset s j → ¬ bset S j) → W.length = 2 ^ G.length →
    ∃ x, bestIn (gi G) S k s (gi W) = some (gi (W.set S x)) ∧ ∀ q, x ≤ q ↔ W.getD S 0 ≤ q ∨ ∃ v, bset s v ∧ W.getD (S ||| 2 ^ v) 0 ≤ q ∧ bc G (S ||| 2 ^ v) ≤ q := by
  have hn := hG.most
  intro k
  induction k with
  | zero => intro s W h; omega
  | succ k ih =>
    intro s W hk hs hsS hW
    have hs5 := small G (by omega) hs
    by_cases h0 : s = 0
    · subst h0
      refine ⟨W.getD S 0, ?_, fun q => ⟨.inl, fun h => h.elim id (fun ⟨v, h, _⟩ => by unfold bset at h; simp at h)⟩⟩
      rw [bestIn, if_pos rfl]
      congr 2
      apply List.ext_getElem?
      intro i
      rw [List.getElem?_set]
      by_cases e : S = i
      · subst e
        rw [if_pos rfl, if_pos (by omega), List.getD_eq_getElem?_getD, List.getElem?_eq_getElem (by omega)]
        rfl
      · rw [if_neg e]
    · have hb := ctz_bit hs5 h0
      have hp := rest_pc hs5 h0
      have hr := rest_bset hs5 h0
      have hrl := rest_lt' hs5 h0 hs
      rw [bestIn, if_neg h0]
      unfold nxt
      generalize Lib.ctz 64 s = v at *
      have hv : v < G.length := bit_lt hs hb
      have hX := or_new hS hv
      have hgt := or_gt (hsS v hb)
      have hSW : S < W.length := by rw [hW]; exact hS
      have hXW : S ||| 2 ^ v < W.length := by rw [hW]; exact hX
      rw [if_pos (by rw [gi_length]; exact ⟨hSW, hXW⟩), cost_eq G hG _ hX, Option.bind_some, rd_gi, rd_gi, mx_nat, mn_nat, gi_set]
      obtain ⟨x, h1, h2⟩ := ih (rest s) (W.set S (min (W.getD S 0) (max (W.getD (S ||| 2 ^ v) 0) (bc G (S ||| 2 ^ v))))) (Nat.lt_of_lt_of_le hp (Nat.le_of_lt_succ hk)) hrl (fun j hj => hsS j ((hr j).1 hj).1) (by rw [List.length_set]; exact hW)
      refine ⟨x, by rw [h1, List.set_set], fun q => ?_⟩
      rw [h2, getD_set _ _ _ _ hSW, if_pos rfl]
      have hoth : ∀ u, bset (rest s) u → (W.set S (min (W.getD S 0) (max (W.getD (S ||| 2 ^ v) 0) (bc G (S ||| 2 ^ v))))).getD (S ||| 2 ^ u) 0 = W.getD (S ||| 2 ^ u) 0 := fun u hu => by
        have := or_gt (hsS u ((hr u).1 hu).1)
        rw [getD_set _ _ _ _ hSW, if_neg (Nat.ne_of_gt this)]
      clear hX hgt hSW hXW hs hrl hW hs5 hv hp hk ih h1 h2 h0
      constructor
      · rintro (h | ⟨u, hu, h3, h4⟩)
        · rcases Nat.le_total (W.getD S 0) (max (W.getD (S ||| 2 ^ v) 0) (bc G (S ||| 2 ^ v))) with h5 | h5
          · rw [Nat.min_eq_left h5] at h
            exact .inl h
          · rw [Nat.min_eq_right h5] at h
            exact .inr ⟨v, hb, Nat.le_trans (Nat.le_max_left _ _) h, Nat.le_trans (Nat.le_max_right _ _) h⟩
        · rw [hoth u hu] at h3
          exact .inr ⟨u, ((hr u).1 hu).1, h3, h4⟩
      · rintro (h | ⟨u, hu, h3, h4⟩)
        · exact .inl (Nat.le_trans (Nat.min_le_left _ _) h)
        · by_cases e : u = v
          · subst e; exact .inl (Nat.le_trans (Nat.min_le_right _ _) (Nat.max_le.2 ⟨h3, h4⟩))
          · have hu' := (hr u).2 ⟨hu, e⟩
            exact .inr ⟨u, hu', by rw [hoth u hu']; exact h3, h4⟩
theorem bestTo_eq (G : List Nat) (hG : Gr 7 G) : ∀ (d : Nat) (W : List Nat), d < 2 ^ G.length → W.length = 2 ^ G.length → (∀ T, d ≤ T → T < 2 ^ G.length → PV G T (W.getD T 0)) →
    ∃ W2 : List Nat, bestTo (gi G) d (gi W) = some (gi W2) ∧ W2.length = 2 ^ G.length ∧ ∀ T, T < 2 ^ G.length → PV G T (W2.getD T 0) := by
  have hn := hG.most
  intro d
  induction d with
  | zero => intro W _ hW h; exact ⟨W, rfl, hW, fun T hT => h T (by omega) hT⟩
  | succ d ih =>
    intro W hd hW h
    have hd' : d < 2 ^ G.length := by omega
    have hS5 := small G (by omega) hd'
    have h2 := Nat.two_pow_pos G.length
    have hc : ∀ j, bset (diff (2 ^ G.length - 1) d) j ↔ j < G.length ∧ ¬ bset d j := fun j => by rw [diff_bset, full_bit]
    rw [bestTo]
    simp only [gi_length]
    have e1 : (gi W).set d (G.length : Int) = gi (W.set d G.length) := gi_set W d G.length
    rw [e1]
    obtain ⟨x, h3, h4⟩ := bestIn_eq G hG d hd' 64 (diff (2 ^ G.length - 1) d) (W.set d G.length) (by have := pc_le (diff (2 ^ G.length - 1) d) 9; omega) (Nat.lt_of_le_of_lt (diff_le _ _) (by omega)) (fun j hj => ((hc j).1 hj).2) (by rw [List.length_set]; exact hW)
    rw [h3, Option.bind_some, List.set_set]
    refine ih _ hd' (by rw [List.length_set]; exact hW) fun T h5 h6 => ?_
    rw [getD_set _ _ _ _ (by omega)]
    by_cases e : T = d
    · subst e
      rw [if_pos rfl]
      intro q
      rw [h4, getD_set _ _ _ _ (by omega), if_pos rfl]
      have hoth : ∀ v, v < G.length → ¬ bset T v → (W.set T G.length).getD (T ||| 2 ^ v) 0 = W.getD (T ||| 2 ^ v) 0 ∧ PV G (T ||| 2 ^ v) (W.getD (T ||| 2 ^ v) 0) := fun v hv hb => by
        have h7 := or_gt hb
        have h8 := or_new hd' hv
        rw [getD_set _ _ _ _ (by omega), if_neg (by omega)]
        exact ⟨rfl, h _ (by omega) h8⟩
      constructor
      · rintro (h7 | ⟨v, hv, h7, h8⟩)
        · exact lay_big (.inr h7) (by omega) _ _ rfl hd'
        · obtain ⟨h9, h10⟩ := (hc v).1 hv
          obtain ⟨h11, h12⟩ := hoth v h9 h10
          rw [h11] at h7
          exact .step h9 h10 h8 ((h12 q).1 h7)
      · intro h7
        cases h7 with
        | done => omega
        | step h9 h10 h8 h13 =>
          obtain ⟨h11, h12⟩ := hoth _ h9 h10
          exact .inr ⟨_, (hc _).2 ⟨h9, h10⟩, by rw [h11]; exact (h12 q).2 h13, h8⟩
    · rw [if_neg e]
      exact h T (by omega) h6

/-- Node v can come behind S, if all is to be laid out with borders of at most m nodes. -/
def Can (G : List Nat) (m S v : Nat) : Prop := Lay G m (S ||| 2 ^ v) ∧ bc G (S ||| 2 ^ v) ≤ m
/-- Node by node the first one that can come. -/
inductive Greedy (G : List Nat) (m : Nat) : Nat → List Nat → Prop
  | nil : Greedy G m (2 ^ G.length - 1) []
  | cons {S v : Nat} {L : List Nat} : v < G.length → ¬ bset S v → Can G m S v → (∀ u, u < v → ¬ bset S u → ¬ Can G m S u) → Greedy G m (S ||| 2 ^ v) L → Greedy G m S (v :: L)
theorem goOn_eq (G : List Nat) (hG : Gr 7 G) (W : List Nat) (m : Nat) (hW : W.length = 2 ^ G.length) (hP : ∀ T, T < 2 ^ G.length → PV G T (W.getD T 0)) (hm : W.getD 0 0 = m) (S : Nat) (hS : S < 2 ^ G.length) :
    ∀ (k s : Nat), pc s 9 < k → s < 2 ^ G.length → (∀ j, bset s j → ¬ bset S j) → (∃ v, bset s v ∧ Can G m S v) →
      ∃ v : Nat, goOn (gi G) (gi W) S k s = some (some ((v : Int), S ||| 2 ^ v)) ∧ bset s v ∧ Can G m S v ∧ ∀ u, u < v → bset s u → ¬ Can G m S u := by
  have hn := hG.most
  intro k
  induction k with
  | zero => intro s h; omega
  | succ k ih =>
    intro s hk hs hsS hex
    have hs5 := small G (by omega) hs
    have h0 : s ≠ 0 := fun e => by obtain ⟨v, h, _⟩ := hex; subst e; unfold bset at h; simp at h
    have hb := ctz_bit hs5 h0
    have hlow : ∀ j, bset s j → Lib.ctz 64 s ≤ j := fun j hj => ctz_low hs5 h0 hj
    have hp := rest_pc hs5 h0
    have hr := rest_bset hs5 h0
    have hrl := rest_lt' hs5 h0 hs
    rw [goOn, if_neg h0]
    unfold nxt
    generalize Lib.ctz 64 s = v at *
    have hv : v < G.length := bit_lt hs hb
    have hX := or_new hS hv
    have hXW : S ||| 2 ^ v < W.length := by rw [hW]; exact hX
    have hp' := Nat.lt_of_lt_of_le hp (Nat.le_of_lt_succ hk)
    rw [if_pos (by rw [gi_length]; exact hXW), cost_eq G hG _ hX, Option.bind_some, rd_gi, show rd (gi W) 0 = ((W.getD 0 0 : Nat) : Int) from rd_gi W 0, mx_nat, hm]
    have hPX := hP _ hX
    clear hX hs hW hs5 hv hp hk h0 hS hXW
    by_cases hc : max (W.getD (S ||| 2 ^ v) 0) (bc G (S ||| 2 ^ v)) ≤ m
    · rw [if_pos (by omega)]
      exact ⟨v, rfl, hb, ⟨(hPX m).1 (by omega), by omega⟩, fun u hu hsu => by have := hlow u hsu; omega⟩
    · rw [if_neg (by omega)]
      have hno : ¬ Can G m S v := fun h => hc (by have := (hPX m).2 h.1; have := h.2; omega)
      obtain ⟨u, h1, h2, h3, h4⟩ := ih (rest s) hp' hrl (fun j hj => hsS j ((hr j).1 hj).1) (by
        obtain ⟨u, hu, hcu⟩ := hex
        exact ⟨u, (hr u).2 ⟨hu, fun e => hno (e ▸ hcu)⟩, hcu⟩)
      refine ⟨u, h1, ((hr u).1 h2).1, h3, fun x hx hsx => ?_⟩
      by_cases e : x = v
      · subst e; exact hno
      · exact h4 x hx ((hr x).2 ⟨hsx, e⟩)
theorem layTo_eq (G : List Nat) (hG : Gr 7 G) (W : List Nat) (m : Nat) (hW : W.length = 2 ^ G.length) (hP : ∀ T, T < 2 ^ G.length → PV G T (W.getD T 0)) (hm : W.getD 0 0 = m) :
    ∀ (k S : Nat) (pre : List Int), pc (diff (2 ^ G.length - 1) S) 9 < k → S < 2 ^ G.length → Lay G m S → ∃ L, layTo (gi G) (gi W) k S pre = some (pre ++ gi L) ∧ Greedy G m S L := by
  have hn := hG.most
  intro k
  induction k with
  | zero => intro S pre h; omega
  | succ k ih =>
    intro S pre hk hS hL
    have h2 := Nat.two_pow_pos G.length
    rw [layTo]
    simp only [gi_length]
    by_cases e : S = 2 ^ G.length - 1
    · rw [if_pos e, e]
      exact ⟨[], by simp [gi], .nil⟩
    · rw [if_neg e]
      have hc : ∀ j, bset (diff (2 ^ G.length - 1) S) j ↔ j < G.length ∧ ¬ bset S j := fun j => by rw [diff_bset, full_bit]
      obtain ⟨v, h3, h4, h5, h6⟩ := goOn_eq G hG W m hW hP hm S hS 64 (diff (2 ^ G.length - 1) S) (by have := pc_le (diff (2 ^ G.length - 1) S) 9; omega) (Nat.lt_of_le_of_lt (diff_le _ _) (by omega)) (fun j hj => ((hc j).1 hj).2) (by
        cases hL with
        | done => exact (e rfl).elim
        | step h7 h8 h9 h10 => exact ⟨_, (hc _).2 ⟨h7, h8⟩, h10, h9⟩)
      rw [h3, Option.bind_some]
      obtain ⟨h7, h8⟩ := (hc v).1 h4
      have hX := or_new hS h7
      obtain ⟨L, h9, h10⟩ := ih (S ||| 2 ^ v) (pre ++ [(v : Int)]) (by
        refine Nat.lt_of_lt_of_le (pc_lt v 9 (fun j _ hj => ?_) (by omega) ?_ ((hc v).2 ⟨h7, h8⟩)) (show pc (diff (2 ^ G.length - 1) S) 9 ≤ k by omega)
        · have a := (diff_bset (2 ^ G.length - 1) (S ||| 2 ^ v) j).1 hj
          exact (diff_bset _ _ _).2 ⟨a.1, fun h => a.2 ((or_bset _ _ _).2 (.inl h))⟩
        · have a := diff_bset (2 ^ G.length - 1) (S ||| 2 ^ v) v
          cases hh : (diff (2 ^ G.length - 1) (S ||| 2 ^ v)).testBit v
          · rfl
          · exact ((a.1 hh).2 ((or_bset _ _ _).2 (.inr ((two_pow_bit v v).2 rfl)))).elim) hX h5.1
      refine ⟨v :: L, ?_, .cons h7 h8 h5 (fun u hu hSu => h6 u hu ((hc u).2 ⟨by omega, hSu⟩)) h10⟩
      show layTo (gi G) (gi W) k (S ||| 2 ^ v) (pre ++ [(v : Int)]) = _
      rw [h9]
      simp [gi]
theorem layout_eq (G : List Nat) (hG : Gr 7 G) : ∃ (L : List Nat) (m : Nat), sweep_town_layout.f (gi G) = some (gi L, (m : Int)) ∧ IsVs G m ∧ Greedy G m 0 L := by
  have hn := hG.most
  have h2 := Nat.two_pow_pos G.length
  have e : List.replicate (2 ^ G.length) (0 : Int) = gi (List.replicate (2 ^ G.length) 0) := by simp [gi]
  obtain ⟨W, h3, h4, h5⟩ := bestTo_eq G hG (2 ^ G.length - 1) (List.replicate (2 ^ G.length) 0) (by omega) (by simp) (fun T hT hT2 q => by
    have e : T = 2 ^ G.length - 1 := by omega
    subst e
    have : (List.replicate (2 ^ G.length) 0).getD (2 ^ G.length - 1) 0 = 0 := by simp [List.getD_eq_getElem?_getD, List.getElem?_replicate]; rw [if_pos (by omega)]; rfl
    rw [this]
    exact ⟨fun _ => .done, fun _ => by omega⟩)
  obtain ⟨L, h6, h7⟩ := layTo_eq G hG W (W.getD 0 0) h4 h5 rfl 11 0 [] (by have := pc_le (diff (2 ^ G.length - 1) 0) 9; omega) h2 ((h5 0 h2 _).1 (Nat.le_refl _))
  refine ⟨L, W.getD 0 0, ?_, h5 0 h2, h7⟩
  unfold sweep_town_layout.f
  simp only [gi_length]
  rw [if_pos ⟨hG.pos, by omega⟩, e, h3, Option.bind_some, h6]
  simp only [List.nil_append, Option.bind_some]
  rw [show rd (gi W) 0 = ((W.getD 0 0 : Nat) : Int) from rd_gi W 0]

theorem Layout_ev (G : List Nat) (hG : Gr 7 G) : ∃ (L : List Nat) (m : Nat), Ev (fun k => sweep_Layout.f k (gi G)) (gi L, (m : Int), 0) ∧ IsVs G m ∧ Greedy G m 0 L := by
  obtain ⟨L, m, h1, h2, h3⟩ := layout_eq G hG
  refine ⟨L, m, ?_, h2, h3⟩
  have hr := read_ev (gi G) (by rw [gi_length]; have := hG.most; omega)
  rw [(chk_iff 7 (by omega) _).2 ⟨G, rfl, hG⟩] at hr
  unfold sweep_Layout.f
  exact Ev.bind hr (Ev.if_pos rfl (Ev.bind1 h1 (Ev.some rfl)))
theorem Layout_bad (g : List Int) (hl : g.length < 2 ^ 60) (h : chk 7 g = false) : Ev (fun k => sweep_Layout.f k g) (([] : List Int), 0, 2) := by
  have hr := read_ev g hl
  rw [h] at hr
  unfold sweep_Layout.f
  exact Ev.bind hr (Ev.if_neg (by simp) (Ev.some rfl))
theorem awake_ev : Ev (fun k => lampblacklaw03_awake.f k) true := by
  exact Ev.of (lampblacklaw03_awake.mono) (k := 40) (by decide +kernel)
theorem vs_exists {G : List Nat} (hG : Gr 7 G) : ∃ m, IsVs G m ∧ m ≤ 7 := by
  obtain ⟨L, m, _, h, _⟩ := layout_eq G hG
  exact ⟨m, h, Nat.le_trans ((h G.length).2 (lay_big (.inr (Nat.le_refl _)) (by have := hG.most; omega) _ _ rfl (Nat.two_pow_pos _))) hG.most⟩
theorem valid_ev (g : List Int) (hg : g.length < 2 ^ 60) : Ev (fun k => lampblackref03_Valid.f k g) (chk 7 g) := by
  unfold lampblackref03_Valid.f
  exact Ev.bind (isGraph_ev 7 (by omega) g hg) (Ev.some rfl)
/-- Few hands on a beginning; what is valid it hands on whole, and what isn't stays so. -/
theorem few_eq (g : List Int) (hg : g.length < 2 ^ 44) : ∃ h, lampblacklaw03_Few.f g = some h ∧ (chk 7 g = true → h = g) ∧ (chk 7 g = false → chk 7 h = false) ∧ h.length ≤ 11 := by
  have hm : mn (g.length : Int) 11 = ((min g.length 11 : Nat) : Int) := mn_nat g.length 11
  refine ⟨g.take (min g.length 11), ?_, ?_, ?_, ?_⟩
  · unfold lampblacklaw03_Few.f slices_Clone_Graph.f
    simp only [hm, Int.toNat_natCast]
    rw [if_pos (by omega), if_pos (by omega)]
    simp only [Option.bind_some, List.length_nil, List.nil_append]
    rw [if_pos (by rw [List.length_take]; omega)]
    rfl
  · intro h
    simp only [chk, Bool.and_eq_true, decide_eq_true_eq] at h
    exact List.take_of_length_le (by omega)
  · intro h
    by_cases hl : g.length ≤ 11
    · rw [List.take_of_length_le (by omega)]; exact h
    · unfold chk
      have : ¬ (List.take (min g.length 11) g).length ≤ 7 := by rw [List.length_take]; omega
      rw [decide_eq_false this, Bool.and_false, Bool.false_and]
  · rw [List.length_take]; omega
end Go.Proofs.YtijfddobandcdaaDoor.X
end
section
/- Lists that have the numbers below n, each once. -/
set_option linter.unusedVariables false
namespace Go.Proofs.YtijfddobandcdaaDoor.T
open Go.RowKit Go.Proofs.YtijfddobandcdaaDoorW.PrintWords Go.Proofs.YtijfddobandcdaaDoorW.PrintLast Go.Proofs.YtijfddobandcdaaDoorW.PrintMore

/-- l has the numbers below n, each once. -/
def IsOrd (n : Nat) (l : List Int) : Prop := ∃ P : List Nat, l = gi P ∧ P.Nodup ∧ (∀ v ∈ P, v < n) ∧ P.length = n
theorem gi_inj {a b : List Nat} (h : gi a = gi b) : a = b := by
  induction a generalizing b with
  | nil => cases b with
    | nil => rfl
    | cons => simp [gi] at h
  | cons x a ih => cases b with
    | nil => simp [gi] at h
    | cons y b =>
      simp only [gi, List.map_cons, List.cons.injEq] at h
      rw [ih (show gi a = gi b from h.2)]
      congr 1
      omega
theorem gi_take (P : List Nat) (i : Nat) : (gi P).take i = gi (P.take i) := by simp [gi, List.map_take]
theorem gi_snoc (P : List Nat) (v : Nat) : gi P ++ [(v : Int)] = gi (P ++ [v]) := by simp [gi]
theorem gi_mem {P : List Nat} {v : Nat} : (v : Int) ∈ gi P ↔ v ∈ P := by
  unfold gi
  rw [List.mem_map]
  exact ⟨fun ⟨a, h1, h2⟩ => by have : a = v := by omega
                               exact this ▸ h1, fun h => ⟨v, h, rfl⟩⟩
theorem split_dup {P : List Nat} (h : ¬ P.Nodup) : ∃ L x R, P = L ++ x :: R ∧ x ∈ R := by
  induction P with
  | nil => exact (h List.nodup_nil).elim
  | cons a P ih =>
    by_cases ha : a ∈ P
    · exact ⟨[], a, P, rfl, ha⟩
    · obtain ⟨L, x, R, h1, h2⟩ := ih fun hn => h (List.nodup_cons.2 ⟨ha, hn⟩)
      exact ⟨a :: L, x, R, by rw [h1]; rfl, h2⟩
theorem nodup_of_covers {P : List Nat} {n : Nat} (hl : P.length ≤ n) (h : ∀ j, j < n → j ∈ P) : P.Nodup := by
  apply Classical.byContradiction
  intro hn
  obtain ⟨L, x, R, e, hx⟩ := split_dup hn
  have := nodup_le (List.nodup_range (n := n)) (m := L ++ R) fun j hj => by
    have h1 := h j (List.mem_range.1 hj)
    rw [e] at h1
    rcases List.mem_append.1 h1 with h2 | h2
    · exact List.mem_append_left _ h2
    · rcases List.mem_cons.1 h2 with h3 | h3
      · subst h3; exact List.mem_append_right _ hx
      · exact List.mem_append_right _ h3
  rw [e] at hl
  simp at this hl
  omega
theorem covers_of_nodup {P : List Nat} {n : Nat} (hl : P.length = n) (hn : P.Nodup) (h : ∀ v ∈ P, v < n) (j : Nat) (hj : j < n) : j ∈ P := by
  apply Classical.byContradiction
  intro hno
  have := nodup_le (List.nodup_cons.2 ⟨hno, hn⟩) (m := List.range n) fun x hx => by
    rcases List.mem_cons.1 hx with e | e
    · subst e; exact List.mem_range.2 hj
    · exact List.mem_range.2 (h x e)
  simp at this
  omega
/-- The set of a list's numbers. -/
def lset : List Nat → Nat
  | [] => 0
  | v :: P => lset P ||| 2 ^ v
theorem lset_bit (P : List Nat) (j : Nat) : bset (lset P) j ↔ j ∈ P := by
  induction P with
  | nil => simp [lset, bset]
  | cons v P ih => rw [lset, or_bset, ih, two_pow_bit, List.mem_cons]; exact Or.comm
theorem lset_lt {P : List Nat} {n : Nat} (h : ∀ v ∈ P, v < n) : lset P < 2 ^ n := lt_of_bits fun j hj => h j ((lset_bit P j).1 hj)
theorem lset_snoc (P : List Nat) (v : Nat) : lset (P ++ [v]) = lset P ||| 2 ^ v := eq_of_bits fun j => by
  show bset _ _ ↔ bset _ _
  rw [lset_bit, or_bset, lset_bit, two_pow_bit, List.mem_append, List.mem_singleton]
theorem take_snoc {l : List Int} {i : Nat} {P : List Nat} (h : l.take i = gi P) (hi : i < l.length) (v : Nat) (hv : rd l (i : Int) = (v : Int)) : l.take (i + 1) = gi (P ++ [v]) := by
  rw [List.take_add_one, h, ← gi_snoc]
  congr 1
  unfold rd at hv
  rw [Int.toNat_natCast, List.getD_eq_getElem?_getD, List.getElem?_eq_getElem hi] at hv
  rw [List.getElem?_eq_getElem hi]
  simp at hv ⊢
  exact hv
theorem IsOrd.get {n : Nat} {l : List Int} (h : IsOrd n l) (i : Nat) (hi : i < l.length) : ∃ v : Nat, rd l (i : Int) = (v : Int) ∧ v < n := by
  obtain ⟨P, rfl, _, h3, _⟩ := h
  rw [gi_length] at hi
  refine ⟨P.getD i 0, rd_gi P i, h3 _ ?_⟩
  rw [List.getD_eq_getElem?_getD, List.getElem?_eq_getElem hi]
  exact List.getElem_mem hi
theorem IsOrd.fresh {n : Nat} {l : List Int} (h : IsOrd n l) {i : Nat} (hi : i < l.length) {P : List Nat} (hP : l.take i = gi P) {v : Nat} (hv : rd l (i : Int) = (v : Int)) : v ∉ P := by
  obtain ⟨Q, rfl, h2, _, _⟩ := h
  have e : P = Q.take i := gi_inj (by rw [← hP, gi_take])
  rw [gi_length] at hi
  have hv' : Q.getD i 0 = v := by have := rd_gi Q i; rw [hv] at this; omega
  rw [List.getD_eq_getElem?_getD, List.getElem?_eq_getElem hi] at hv'
  have hv2 : Q[i] = v := hv'
  subst e
  intro hm
  rw [← List.take_append_drop i Q, List.nodup_append] at h2
  have hd : v ∈ Q.drop i := by rw [List.drop_eq_getElem_cons hi, hv2]; exact List.mem_cons_self
  exact h2.2.2 v hm v hd rfl
theorem IsOrd.of {n : Nat} {P : List Nat} (h1 : P.Nodup) (h2 : ∀ v ∈ P, v < n) : IsOrd n (gi P) ↔ P.length = n := by
  constructor
  · rintro ⟨Q, e, _, _, h⟩
    rw [gi_inj e]; exact h
  · intro h; exact ⟨P, rfl, h1, h2, h⟩
theorem IsOrd.length {n : Nat} {l : List Int} (h : IsOrd n l) : l.length = n := by
  obtain ⟨P, rfl, _, _, h⟩ := h
  rw [gi_length, h]
end Go.Proofs.YtijfddobandcdaaDoor.T
end
section
/- Path decompositions: bags in a row; the runs of a node; backward. -/
set_option linter.unusedVariables false
namespace Go.Proofs.YtijfddobandcdaaDoor.T
open Go.RowKit Go.Proofs.YtijfddobandcdaaDoorW.PrintWords Go.Proofs.YtijfddobandcdaaDoorW.PrintLast Go.Proofs.YtijfddobandcdaaDoorW.PrintMore

/-- How often a row of marks begins anew; p: the mark ahead of it. -/
def starts (p : Bool) : List Bool → Nat
  | [] => 0
  | b :: L => (if b = true ∧ p = false then 1 else 0) + starts b L
theorem starts_true0 : ∀ L : List Bool, starts true L = 0 ↔ ∃ b c, L = List.replicate b true ++ List.replicate c false
  | [] => ⟨fun _ => ⟨0, 0, rfl⟩, fun _ => rfl⟩
  | true :: L => by
    simp only [starts]
    rw [if_neg (by simp), Nat.zero_add, starts_true0 L]
    constructor
    · rintro ⟨b, c, rfl⟩; exact ⟨b + 1, c, by simp [List.replicate_succ]⟩
    · rintro ⟨b, c, h⟩
      cases b with
      | zero => cases c <;> simp [List.replicate_succ] at h
      | succ b => simp [List.replicate_succ] at h; exact ⟨b, c, h⟩
  | false :: L => by
    simp only [starts]
    rw [if_neg (by simp), Nat.zero_add]
    have h0 : ∀ M : List Bool, starts false M = 0 ↔ ∃ c, M = List.replicate c false := by
      intro M
      induction M with
      | nil => exact ⟨fun _ => ⟨0, rfl⟩, fun _ => rfl⟩
      | cons x M ih =>
        cases x with
        | true => simp only [starts]; constructor
                  · intro h; simp at h
                  · rintro ⟨c, h⟩; cases c <;> simp [List.replicate_succ] at h
        | false => simp only [starts]; rw [if_neg (by simp), Nat.zero_add, ih]; constructor
                   · rintro ⟨c, rfl⟩; exact ⟨c + 1, by simp [List.replicate_succ]⟩
                   · rintro ⟨c, h⟩
                     cases c with
                     | zero => simp at h
                     | succ c => simp [List.replicate_succ] at h; exact ⟨c, h⟩
    rw [h0 L]
    constructor
    · rintro ⟨c, rfl⟩; exact ⟨0, c + 1, by simp [List.replicate_succ]⟩
    · rintro ⟨b, c, h⟩
      cases b with
      | zero => cases c with
        | zero => simp at h
        | succ c => simp [List.replicate_succ] at h; exact ⟨c, h⟩
      | succ b => simp [List.replicate_succ] at h
/-- One run: nothing, marks, nothing. -/
def OneRun (L : List Bool) : Prop := ∃ a b c, L = List.replicate a false ++ (List.replicate (b + 1) true ++ List.replicate c false)
theorem starts_one : ∀ L : List Bool, starts false L = 1 ↔ OneRun L
  | [] => ⟨fun h => by simp [starts] at h, fun ⟨a, b, c, h⟩ => by simp [List.replicate_succ] at h⟩
  | true :: L => by
    simp only [starts]
    rw [if_pos (by simp)]
    have e : 1 + starts true L = 1 ↔ starts true L = 0 := by omega
    rw [e, starts_true0 L]
    constructor
    · rintro ⟨b, c, rfl⟩; exact ⟨0, b, c, by simp [List.replicate_succ]⟩
    · rintro ⟨a, b, c, h⟩
      cases a with
      | zero => simp [List.replicate_succ] at h; exact ⟨b, c, h⟩
      | succ a => simp [List.replicate_succ] at h
  | false :: L => by
    simp only [starts]
    rw [if_neg (by simp), Nat.zero_add, starts_one L]
    constructor
    · rintro ⟨a, b, c, rfl⟩; exact ⟨a + 1, b, c, by simp [List.replicate_succ]⟩
    · rintro ⟨a, b, c, h⟩
      cases a with
      | zero => simp [List.replicate_succ] at h
      | succ a => simp only [List.replicate_succ, List.cons_append, List.cons.injEq, true_and] at h; exact ⟨a, b, c, by rw [h, List.replicate_succ]; rfl⟩
theorem OneRun.reverse {L : List Bool} (h : OneRun L) : OneRun L.reverse := by
  obtain ⟨a, b, c, rfl⟩ := h
  exact ⟨c, b, a, by simp [List.append_assoc]⟩
/-- Node v's marks in a row of bags. -/
def marks (v : Nat) (B : List Nat) : List Bool := B.map fun b => b.testBit v
/-- A path decomposition of at most 30 bags. -/
structure PathDec (G : List Nat) (B : List Nat) : Prop where
  pos : 1 ≤ B.length
  most : B.length ≤ 30
  lt : ∀ b ∈ B, b < 2 ^ G.length
  run : ∀ v, v < G.length → OneRun (marks v B)
  edge : ∀ v u, v < G.length → Adj G v u → ∃ b ∈ B, bset b v ∧ bset b u
theorem PathDec.reverse {G B : List Nat} (h : PathDec G B) : PathDec G B.reverse where
  pos := by rw [List.length_reverse]; exact h.pos
  most := by rw [List.length_reverse]; exact h.most
  lt := fun b hb => h.lt b (List.mem_reverse.1 hb)
  run := fun v hv => by
    have := (h.run v hv).reverse
    unfold marks at *
    rwa [List.map_reverse]
  edge := fun v u hv ha => by
    obtain ⟨b, hb, h1⟩ := h.edge v u hv ha
    exact ⟨b, List.mem_reverse.2 hb, h1⟩
/-- The most nodes that a bag has. -/
def mostOf (B : List Nat) : Nat := B.foldr (fun b m => max (pc b 9) m) 0
theorem mostOf_le {B : List Nat} {q : Nat} : mostOf B ≤ q ↔ ∀ b ∈ B, pc b 9 ≤ q := by
  unfold mostOf
  induction B with
  | nil => simp
  | cons b B ih => simp only [List.foldr_cons, Nat.max_le, ih, List.forall_mem_cons]
theorem mostOf_reverse (B : List Nat) : mostOf B.reverse = mostOf B :=
  Nat.le_antisymm (mostOf_le.2 fun b hb => mostOf_le.1 (Nat.le_refl _) b (List.mem_reverse.1 hb)) (mostOf_le.2 fun b hb => mostOf_le.1 (Nat.le_refl _) b (List.mem_reverse.2 hb))
/-- What is left of a set when the bags with v have been taken away. -/
def left (v : Nat) : Nat → List Nat → Nat
  | s, [] => s
  | s, b :: B => left v (if b.testBit v then diff s b else s) B
theorem left_zero (v : Nat) : ∀ (B : List Nat) (s : Nat), left v s B = 0 ↔ ∀ u, bset s u → ∃ b ∈ B, bset b v ∧ bset b u
  | [], s => by
    simp only [left]
    constructor
    · intro h u hu; rw [h] at hu; unfold bset at hu; simp at hu
    · intro h
      apply Classical.byContradiction
      intro h0
      obtain ⟨i, hi⟩ := Nat.exists_testBit_of_ne_zero h0
      obtain ⟨b, hb, _⟩ := h i hi
      simp at hb
  | b :: B, s => by
    simp only [left]
    rw [left_zero v B]
    by_cases hb : b.testBit v = true
    · rw [if_pos hb]
      constructor
      · intro h u hu
        by_cases hbu : bset b u
        · exact ⟨b, List.mem_cons_self, hb, hbu⟩
        · obtain ⟨x, hx, h2⟩ := h u ((diff_bset _ _ _).2 ⟨hu, hbu⟩)
          exact ⟨x, List.mem_cons_of_mem _ hx, h2⟩
      · intro h u hu
        obtain ⟨hu1, hu2⟩ := (diff_bset _ _ _).1 hu
        obtain ⟨x, hx, h2, h3⟩ := h u hu1
        rcases List.mem_cons.1 hx with e | e
        · subst e; exact (hu2 h3).elim
        · exact ⟨x, e, h2, h3⟩
    · rw [if_neg hb]
      constructor
      · intro h u hu
        obtain ⟨x, hx, h2⟩ := h u hu
        exact ⟨x, List.mem_cons_of_mem _ hx, h2⟩
      · intro h u hu
        obtain ⟨x, hx, h2, h3⟩ := h u hu
        rcases List.mem_cons.1 hx with e | e
        · subst e; exact (hb h2).elim
        · exact ⟨x, e, h2, h3⟩
theorem left_lt (v n : Nat) : ∀ (B : List Nat) (s : Nat), s < 2 ^ n → left v s B < 2 ^ n
  | [], s, h => h
  | b :: B, s, h => by
    simp only [left]
    refine left_lt v n B _ ?_
    split
    · exact Nat.lt_of_le_of_lt (diff_le _ _) h
    · exact h
end Go.Proofs.YtijfddobandcdaaDoor.T
end
section
/- isPath, Check: path decompositions and their width. -/
set_option linter.unusedVariables false
namespace Go.Proofs.YtijfddobandcdaaDoor.X
open Go.RowKit Go.Proofs.YtijfddobandcdaaDoorW.PrintWords Go.Proofs.YtijfddobandcdaaDoorW.PrintLast Go.Proofs.YtijfddobandcdaaDoorW.PrintMore Go.Proofs.YtijfddobandcdaaDoor.T

theorem rd_mem {l : List Int} {i : Nat} (h : i < l.length) : rd l (i : Int) = l[i] := by unfold rd; rw [Int.toNat_natCast, List.getD_eq_getElem?_getD, List.getElem?_eq_getElem h]; rfl
theorem min_l0 (l : List Int) (hl : l.length < 2 ^ 60) : ∀ (d i : Nat) (m : Int), i + d = l.length → ∃ r, Ev (fun k => slices_Min_int_int.l0 k l m (i : Int)) r ∧ (r = m ∨ r ∈ l) ∧ r ≤ m ∧ ∀ x ∈ l.drop i, r ≤ x := by
  intro d
  induction d with
  | zero =>
    intro i m hi
    refine ⟨m, Ev.step (f := fun _ => some m) (fun k => by rw [slices_Min_int_int.l0, if_neg (by omega)]) (Ev.some rfl), .inl rfl, Int.le_refl _, ?_⟩
    rw [List.drop_eq_nil_of_le (by omega)]
    simp
  | succ d ih =>
    intro i m hi
    have hi' : i < l.length := by omega
    obtain ⟨r, h1, h2, h3, h4⟩ := ih (i + 1) (mn m l[i]) (by omega)
    have hmn : mn m l[i] ≤ m ∧ mn m l[i] ≤ l[i] ∧ (mn m l[i] = m ∨ mn m l[i] = l[i]) := by unfold mn; split <;> omega
    refine ⟨r, Ev.step (fun k => by rw [slices_Min_int_int.l0, if_pos (by omega), if_pos (by omega), rd_mem hi', wrap_succ i (by omega)]) h1, ?_, by omega, ?_⟩
    · rcases h2 with h | h
      · rcases hmn.2.2 with e | e
        · exact .inl (by omega)
        · exact .inr (by rw [h, e]; exact List.getElem_mem hi')
      · exact .inr h
    · rw [List.drop_eq_getElem_cons hi']
      intro x hx
      rcases List.mem_cons.1 hx with e | e
      · rw [e]; omega
      · exact h4 x e
theorem max_l0 (l : List Int) (hl : l.length < 2 ^ 60) : ∀ (d i : Nat) (m : Int), i + d = l.length → ∃ r, Ev (fun k => slices_Max_int_int.l0 k l m (i : Int)) r ∧ (r = m ∨ r ∈ l) ∧ m ≤ r ∧ ∀ x ∈ l.drop i, x ≤ r := by
  intro d
  induction d with
  | zero =>
    intro i m hi
    refine ⟨m, Ev.step (f := fun _ => some m) (fun k => by rw [slices_Max_int_int.l0, if_neg (by omega)]) (Ev.some rfl), .inl rfl, Int.le_refl _, ?_⟩
    rw [List.drop_eq_nil_of_le (by omega)]
    simp
  | succ d ih =>
    intro i m hi
    have hi' : i < l.length := by omega
    obtain ⟨r, h1, h2, h3, h4⟩ := ih (i + 1) (mx m l[i]) (by omega)
    have hmn : m ≤ mx m l[i] ∧ l[i] ≤ mx m l[i] ∧ (mx m l[i] = m ∨ mx m l[i] = l[i]) := by unfold mx; split <;> omega
    refine ⟨r, Ev.step (fun k => by rw [slices_Max_int_int.l0, if_pos (by omega), if_pos (by omega), rd_mem hi', wrap_succ i (by omega)]) h1, ?_, by omega, ?_⟩
    · rcases h2 with h | h
      · rcases hmn.2.2 with e | e
        · exact .inl (by omega)
        · exact .inr (by rw [h, e]; exact List.getElem_mem hi')
      · exact .inr h
    · rw [List.drop_eq_getElem_cons hi']
      intro x hx
      rcases List.mem_cons.1 hx with e | e
      · rw [e]; omega
      · exact h4 x e
theorem min_ev (l : List Int) (h1 : 1 ≤ l.length) (hl : l.length < 2 ^ 60) : ∃ r, Ev (fun k => slices_Min_int_int.f k l) r ∧ r ∈ l ∧ ∀ x ∈ l, r ≤ x := by
  obtain ⟨r, h2, h3, h4, h5⟩ := min_l0 l hl (l.length - 1) 1 (rd l 0) (by omega)
  have e : rd l 0 = l[0] := rd_mem (i := 0) (by omega)
  refine ⟨r, ?_, ?_, ?_⟩
  · unfold slices_Min_int_int.f
    exact Ev.if_neg (by omega) (Ev.if_pos (by omega) h2)
  · rcases h3 with h | h
    · rw [h, e]; exact List.getElem_mem _
    · exact h
  · intro x hx
    rw [← List.drop_zero (l := l), List.drop_eq_getElem_cons (show 0 < l.length by omega)] at hx
    rcases List.mem_cons.1 hx with h | h
    · rw [h, ← e]; exact h4
    · exact h5 x h
theorem max_ev (l : List Int) (h1 : 1 ≤ l.length) (hl : l.length < 2 ^ 60) : ∃ r, Ev (fun k => slices_Max_int_int.f k l) r ∧ r ∈ l ∧ ∀ x ∈ l, x ≤ r := by
  obtain ⟨r, h2, h3, h4, h5⟩ := max_l0 l hl (l.length - 1) 1 (rd l 0) (by omega)
  have e : rd l 0 = l[0] := rd_mem (i := 0) (by omega)
  refine ⟨r, ?_, ?_, ?_⟩
  · unfold slices_Max_int_int.f
    exact Ev.if_neg (by omega) (Ev.if_pos (by omega) h2)
  · rcases h3 with h | h
    · rw [h, e]; exact List.getElem_mem _
    · exact h
  · intro x hx
    rw [← List.drop_zero (l := l), List.drop_eq_getElem_cons (show 0 < l.length by omega)] at hx
    rcases List.mem_cons.1 hx with h | h
    · rw [h, ← e]; exact h4
    · exact h5 x h

/-- The mark ahead of place i. -/
def ahead (v : Nat) (B : List Nat) (i : Nat) : Bool := if i = 0 then false else (B.getD (i - 1) 0).testBit v
theorem toNat_one {b : Bool} : ((b.toNat : Nat) : Int) = 1 ↔ b = true := by cases b <;> simp
theorem isPath_l1 (G : List Nat) (hG : Gr 7 G) (B : List Nat) (hB : ∀ b ∈ B, b < 2 ^ G.length) (h30 : B.length ≤ 30) (v : Nat) (hv : v < G.length) (r : Bool)
    (cont : Ev (fun k => sweep_town_isPath.l0 k (gi B) (gi G) (G.length : Int) ((v + 1 : Nat) : Int)) r) : ∀ (d i s c : Nat), i + d = B.length → s < 2 ^ G.length → c ≤ i →
    Ev (fun k => sweep_town_isPath.l1 k (gi B) (v : Int) (s : Int) (c : Int) (gi G) (G.length : Int) (v : Int) (gi B) (B.length : Int) (i : Int)) (decide (c + starts (ahead v B i) (marks v (B.drop i)) = 1 ∧ T.left v s (B.drop i) = 0) && r) := by
  have hn := hG.most
  intro d
  induction d with
  | zero =>
    intro i s c hi hs hc
    rw [List.drop_eq_nil_of_le (by omega)]
    simp only [marks, List.map_nil, starts, T.left, Nat.add_zero]
    by_cases h1 : c = 1
    · by_cases h2 : s = 0
      · refine Ev.step (fun k => by rw [sweep_town_isPath.l1, if_neg (by omega), if_pos (by omega), if_pos (by omega), wrap_succ v (by omega)]) ?_
        rw [decide_eq_true ⟨h1, h2⟩, Bool.true_and]
        exact cont
      · refine Ev.step (f := fun _ => some false) (fun k => by rw [sweep_town_isPath.l1, if_neg (by omega), if_pos (by omega), if_neg (by omega)]) (Ev.some ?_)
        rw [decide_eq_false (fun h => h2 h.2), Bool.false_and]
    · refine Ev.step (f := fun _ => some false) (fun k => by rw [sweep_town_isPath.l1, if_neg (by omega), if_neg (by omega)]) (Ev.some ?_)
      rw [decide_eq_false (fun h => h1 h.1), Bool.false_and]
  | succ d ih =>
    intro i s c hi hs hc
    have HS := Aside0.mk hs
    clear hs
    have hi' : i < B.length := by omega
    have hwi := wrap_succ i (by omega)
    have hwc := wrap_succ c (by omega)
    have hb2 := hB _ (List.getElem_mem hi')
    have hr : rd (gi B) (i : Int) = ((B[i] : Nat) : Int) := by rw [rd_gi, List.getD_eq_getElem?_getD, List.getElem?_eq_getElem hi']; rfl
    have hb62 := big (small G (by omega) hb2)
    have hs62 := big (small G (by omega) HS.out)
    have hget : B.getD i 0 = B[i] := by rw [List.getD_eq_getElem?_getD, List.getElem?_eq_getElem hi']; rfl
    have hah : ahead v B (i + 1) = B[i].testBit v := by unfold ahead; rw [if_neg (by omega), Nat.add_sub_cancel, hget]
    rw [List.drop_eq_getElem_cons hi']
    simp only [marks, List.map_cons, starts, T.left]
    have hd := Aside0.mk (show diff s B[i] < 2 ^ G.length from Nat.lt_of_le_of_lt (diff_le _ _) HS.out)
    clear hb2
    by_cases hb : B[i].testBit v = true
    · have hbit : Go.bits .and .i64 (shr .i64 ((B[i] : Nat) : Int) (v : Int)) 1 = 1 := (bit_one _ v hb62 (by omega)).2 hb
      rw [if_pos hb]
      have next : ∀ c' : Nat, c' ≤ i + 1 → Ev (fun k => sweep_town_isPath.l1 k (gi B) (v : Int) ((diff s B[i] : Nat) : Int) (c' : Int) (gi G) (G.length : Int) (v : Int) (gi B) (B.length : Int) ((i + 1 : Nat) : Int)) (decide (c' + starts (B[i].testBit v) ((B.drop (i + 1)).map fun b => b.testBit v) = 1 ∧ T.left v (diff s B[i]) (B.drop (i + 1)) = 0) && r) := fun c' h' => by
        have := ih (i + 1) (diff s B[i]) c' (by omega) hd.out h'
        rw [hah] at this
        exact this
      by_cases hp : ahead v B i = true
      · have hi0 : i ≠ 0 := fun e => by rw [e] at hp; simp [ahead] at hp
        have hpr : (B.getD (i - 1) 0).testBit v = true := by unfold ahead at hp; rw [if_neg hi0] at hp; exact hp
        have hp2 : B.getD (i - 1) 0 < 2 ^ 62 := by
          rw [List.getD_eq_getElem?_getD, List.getElem?_eq_getElem (by omega)]
          exact big (small G (by omega) (hB _ (List.getElem_mem _)))
        refine Ev.step (f := fun k => sweep_town_isPath.j3 k (gi B) (v : Int) (s : Int) (c : Int) ((B[i] : Nat) : Int) (gi G) (G.length : Int) (v : Int) (gi B) (B.length : Int) (i : Int) false) (fun k => ?_) ?_
        · rw [sweep_town_isPath.l1, if_pos (by omega), if_pos (by omega), if_pos (by rw [gi_length]; omega), if_pos (by omega), hr, if_pos hbit, if_neg (by omega), wrap_pred i (by omega) (by omega), if_pos (by omega), if_pos (by rw [gi_length]; omega), rd_gi, bit_at _ v hp2 (by omega), hpr]
          rfl
        · refine Ev.step (fun k => by rw [sweep_town_isPath.j3, if_neg (by simp), if_pos (by omega), if_pos hbit, b_andNot _ _ hs62 hb62, hwi]) ?_
          have := next c (by omega)
          simpa [hp] using this
      · have hp' : ahead v B i = false := by simpa using hp
        refine Ev.step (f := fun k => sweep_town_isPath.j3 k (gi B) (v : Int) (s : Int) (c : Int) ((B[i] : Nat) : Int) (gi G) (G.length : Int) (v : Int) (gi B) (B.length : Int) (i : Int) true) (fun k => ?_) ?_
        · rw [sweep_town_isPath.l1, if_pos (by omega), if_pos (by omega), if_pos (by rw [gi_length]; omega), if_pos (by omega), hr, if_pos hbit]
          by_cases hi0 : i = 0
          · rw [if_pos (by omega)]
          · have hpr : (B.getD (i - 1) 0).testBit v = false := by unfold ahead at hp'; rw [if_neg hi0] at hp'; exact hp'
            have hp2 : B.getD (i - 1) 0 < 2 ^ 62 := by
              rw [List.getD_eq_getElem?_getD, List.getElem?_eq_getElem (by omega)]
              exact big (small G (by omega) (hB _ (List.getElem_mem _)))
            rw [if_neg (by omega), wrap_pred i (by omega) (by omega), if_pos (by omega), if_pos (by rw [gi_length]; omega), rd_gi, bit_at _ v hp2 (by omega), hpr]
            rfl
        · refine Ev.step (fun k => by rw [sweep_town_isPath.j3, if_pos rfl, if_pos (by omega), if_pos hbit, b_andNot _ _ hs62 hb62, hwi, hwc]) ?_
          have := next (c + 1) (by omega)
          rw [hb] at this
          rw [hp', hb, if_pos ⟨rfl, rfl⟩, ← Nat.add_assoc]
          exact this
    · have hb' : B[i].testBit v = false := by simpa using hb
      have hbit : ¬ Go.bits .and .i64 (shr .i64 ((B[i] : Nat) : Int) (v : Int)) 1 = 1 := fun h => hb ((bit_one _ v hb62 (by omega)).1 h)
      rw [if_neg hb]
      refine Ev.step (f := fun k => sweep_town_isPath.j3 k (gi B) (v : Int) (s : Int) (c : Int) ((B[i] : Nat) : Int) (gi G) (G.length : Int) (v : Int) (gi B) (B.length : Int) (i : Int) false) (fun k => ?_) ?_
      · rw [sweep_town_isPath.l1, if_pos (by omega), if_pos (by omega), if_pos (by rw [gi_length]; omega), if_pos (by omega), hr, if_neg hbit]
      · refine Ev.step (fun k => by rw [sweep_town_isPath.j3, if_neg (by simp), if_pos (by omega), if_neg hbit, hwi]) ?_
        have := ih (i + 1) s c (by omega) HS.out (by omega)
        rw [hah, hb'] at this
        rw [hb', if_neg (by simp), Nat.zero_add]
        exact this
/-- What node v asks of the bags. -/
def fits (G B : List Nat) (v : Nat) : Bool := decide (starts false (marks v B) = 1 ∧ T.left v (G.getD v 0) B = 0)
theorem isPath_l0 (G : List Nat) (hG : Gr 7 G) (B : List Nat) (hB : ∀ b ∈ B, b < 2 ^ G.length) (h30 : B.length ≤ 30) : ∀ (d v : Nat), v + d = G.length →
    Ev (fun k => sweep_town_isPath.l0 k (gi B) (gi G) (G.length : Int) (v : Int)) (allFrom (fits G B) G.length d v) := by
  have hn := hG.most
  intro d
  induction d with
  | zero => intro v hv; exact Ev.step (f := fun _ => some true) (fun k => by rw [sweep_town_isPath.l0, if_neg (by omega)]) (Ev.some rfl)
  | succ d ih =>
    intro v hv
    have := isPath_l1 G hG B hB h30 v (by omega) _ (ih (v + 1) (by omega)) B.length 0 (G.getD v 0) 0 (by omega) (hG.row v) (Nat.le_refl _)
    refine Ev.step (fun k => by rw [sweep_town_isPath.l0, if_pos (by omega), if_pos (by omega), if_pos (by rw [gi_length]; omega), rd_gi, gi_length]) ?_
    simp only [allFrom, fits]
    rw [Nat.zero_add, List.drop_zero] at this
    exact this
theorem fits_iff (G B : List Nat) (h1 : 1 ≤ B.length) (h30 : B.length ≤ 30) (hB : ∀ b ∈ B, b < 2 ^ G.length) : allFrom (fits G B) G.length G.length 0 = true ↔ PathDec G B := by
  rw [allFrom_iff]
  simp only [fits, decide_eq_true_eq, starts_one, left_zero]
  constructor
  · intro h
    exact ⟨h1, h30, hB, fun v hv => (h v (by omega) (by omega)).1, fun v u hv ha => (h v (by omega) (by omega)).2 u ha⟩
  · intro h v _ hv
    exact ⟨h.run v (by omega), fun u ha => h.edge v u (by omega) ha⟩
/-- l is a path decomposition. -/
def IsPathL (G : List Nat) (l : List Int) : Prop := ∃ B, l = gi B ∧ PathDec G B
theorem isPath_ev (G : List Nat) (hG : Gr 7 G) (l : List Int) (hl : l.length < 2 ^ 60) : ∃ r, Ev (fun k => sweep_town_isPath.f k (gi G) l) r ∧ (r = true ↔ IsPathL G l) := by
  have hn := hG.most
  have bad : ¬ IsPathL G l → Ev (fun k => sweep_town_isPath.f k (gi G) l) false → ∃ r, Ev (fun k => sweep_town_isPath.f k (gi G) l) r ∧ (r = true ↔ IsPathL G l) := fun h1 h2 => ⟨false, h2, by simp [h1]⟩
  have stop : Ev (fun k => sweep_town_isPath.j0 k (gi G) l true) false := Ev.step (f := fun _ => some false) (fun k => by rw [sweep_town_isPath.j0, if_pos rfl]) (Ev.some rfl)
  have h29 : 2 ^ G.length ≤ 2 ^ 9 := Nat.pow_le_pow_right (by omega) (by omega)
  have h2p := Nat.two_pow_pos G.length
  have hall : sweep_town_all.f (gi G) = some ((2 ^ G.length - 1 : Nat) : Int) := by
    unfold sweep_town_all.f
    rw [gi_length, s_one _ (by omega), w64_small _ (by omega) (by omega)]
    congr 1
    omega
  by_cases h1 : 1 ≤ l.length
  · by_cases h30 : l.length ≤ 30
    · obtain ⟨mi, hmi, hmi2, hmi3⟩ := min_ev l h1 (by omega)
      obtain ⟨ma, hma, hma2, hma3⟩ := max_ev l h1 (by omega)
      by_cases h0 : mi < 0
      · refine bad ?_ ?_
        · rintro ⟨B, rfl, _⟩
          unfold gi at hmi2
          obtain ⟨x, _, hx⟩ := List.mem_map.1 hmi2
          omega
        · unfold sweep_town_isPath.f
          exact Ev.if_neg (by omega) (Ev.if_neg (by omega) (Ev.bind hmi (Ev.if_pos h0 stop)))
      · obtain ⟨B, rfl⟩ := gi_nonneg l (fun x hx => by have := hmi3 x hx; omega)
        rw [gi_length] at h1 h30
        by_cases h2 : ma > ((2 ^ G.length - 1 : Nat) : Int)
        · refine bad ?_ ?_
          · rintro ⟨B', e, h⟩
            rw [← gi_inj e] at h
            obtain ⟨x, hx, rfl⟩ := List.mem_map.1 hma2
            have := h.lt x hx
            omega
          · unfold sweep_town_isPath.f
            refine Ev.if_neg (by rw [gi_length]; omega) (Ev.if_neg (by rw [gi_length]; omega) (Ev.bind hmi (Ev.if_neg h0 (Ev.bind hma (Ev.bind1 hall ?_)))))
            rw [decide_eq_true h2]
            exact stop
        · have hB : ∀ b ∈ B, b < 2 ^ G.length := fun b hb => by have := hma3 b (gi_mem.2 hb); omega
          refine ⟨allFrom (fits G B) G.length G.length 0, ?_, ?_⟩
          · unfold sweep_town_isPath.f
            refine Ev.if_neg (by rw [gi_length]; omega) (Ev.if_neg (by rw [gi_length]; omega) (Ev.bind hmi (Ev.if_neg h0 (Ev.bind hma (Ev.bind1 hall ?_)))))
            rw [decide_eq_false h2]
            refine Ev.step (fun k => by rw [sweep_town_isPath.j0, if_neg (by simp)]) ?_
            rw [gi_length]
            exact isPath_l0 G hG B hB h30 G.length 0 (by omega)
          · rw [fits_iff G B h1 h30 hB]
            exact ⟨fun h => ⟨B, rfl, h⟩, fun ⟨B', e, h⟩ => by rw [gi_inj e]; exact h⟩
    · refine bad ?_ ?_
      · rintro ⟨B, rfl, h⟩
        have := h.most
        rw [gi_length] at h30
        omega
      · unfold sweep_town_isPath.f
        exact Ev.if_neg (by omega) (Ev.if_pos (by omega) stop)
  · refine bad ?_ ?_
    · rintro ⟨B, rfl, h⟩
      have := h.pos
      rw [gi_length] at h1
      omega
    · unfold sweep_town_isPath.f
      exact Ev.if_pos (by omega) stop

theorem check_l0 (G : List Nat) (hG : Gr 7 G) (B : List Nat) (hB : ∀ b ∈ B, b < 2 ^ G.length) (h30 : B.length ≤ 30) : ∀ (d i m : Nat), i + d = B.length → m ≤ 9 →
    Ev (fun k => sweep_Check.l0 k (m : Int) (gi B) (B.length : Int) (i : Int)) (((max m (mostOf (B.drop i)) : Nat) : Int) - 1, true, 0) := by
  have hn := hG.most
  intro d
  induction d with
  | zero =>
    intro i m hi hm
    refine Ev.step (f := fun _ => some ((m : Int) - 1, true, 0)) (fun k => by rw [sweep_Check.l0, if_neg (by omega), w64_small _ (by omega) (by omega)]) (Ev.some ?_)
    rw [List.drop_eq_nil_of_le (by omega)]
    simp [mostOf]
  | succ d ih =>
    intro i m hi hm
    have hi' : i < B.length := by omega
    have hb2 := hB _ (List.getElem_mem hi')
    have hr : rd (gi B) (i : Int) = ((B[i] : Nat) : Int) := by rw [rd_gi, List.getD_eq_getElem?_getD, List.getElem?_eq_getElem hi']; rfl
    have hp := pc_le B[i] 9
    refine Ev.step (f := fun k => (sweep_count.f ((B[i] : Nat) : Int)).bind fun t => sweep_Check.l0 k (mx (m : Int) t) (gi B) (B.length : Int) ((i + 1 : Nat) : Int)) (fun k => ?_) ?_
    · rw [sweep_Check.l0, if_pos (by omega), if_pos (by omega), if_pos (by rw [gi_length]; omega), hr, wrap_succ i (by omega)]
    · refine Ev.bind1 (count_eq _ (small G (by omega) hb2)) ?_
      rw [mx_nat]
      have := ih (i + 1) (max m (pc B[i] 9)) (by omega) (by omega)
      rw [List.drop_eq_getElem_cons hi']
      have e : max m (mostOf (B[i] :: B.drop (i + 1))) = max (max m (pc B[i] 9)) (mostOf (B.drop (i + 1))) := by
        simp only [mostOf, List.foldr_cons]
        omega
      rw [e]
      exact this
theorem Check_yes (G : List Nat) (hG : Gr 7 G) (B : List Nat) (h : PathDec G B) : Ev (fun k => sweep_Check.f k (gi G) (gi B)) (((mostOf B : Nat) : Int) - 1, true, 0) := by
  have hr := read_ev (gi G) (by rw [gi_length]; have := hG.most; omega)
  rw [(chk_iff 7 (by omega) _).2 ⟨G, rfl, hG⟩] at hr
  have h30 := h.most
  obtain ⟨r, h1, h2⟩ := isPath_ev G hG (gi B) (by rw [gi_length]; omega)
  rw [h2.2 ⟨B, rfl, h⟩] at h1
  have := check_l0 G hG B h.lt h.most B.length 0 0 (by omega) (by omega)
  rw [List.drop_zero, Nat.zero_max] at this
  unfold sweep_Check.f
  refine Ev.bind hr (Ev.if_pos rfl (Ev.bind h1 (Ev.if_pos rfl ?_)))
  rw [gi_length]
  exact this
theorem Check_no (G : List Nat) (hG : Gr 7 G) (l : List Int) (hl : l.length < 2 ^ 60) (h : ¬ IsPathL G l) : Ev (fun k => sweep_Check.f k (gi G) l) (0, false, 0) := by
  have hr := read_ev (gi G) (by rw [gi_length]; have := hG.most; omega)
  rw [(chk_iff 7 (by omega) _).2 ⟨G, rfl, hG⟩] at hr
  obtain ⟨r, h1, h2⟩ := isPath_ev G hG l hl
  have hr2 : r = false := by cases r <;> simp_all
  rw [hr2] at h1
  unfold sweep_Check.f
  exact Ev.bind hr (Ev.if_pos rfl (Ev.bind h1 (Ev.if_neg (by simp) (Ev.some rfl))))
theorem Check_bad (g l : List Int) (hl : g.length < 2 ^ 60) (h : chk 7 g = false) : Ev (fun k => sweep_Check.f k g l) (0, false, 2) := by
  have hr := read_ev g hl
  rw [h] at hr
  unfold sweep_Check.f
  exact Ev.bind hr (Ev.if_neg (by simp) (Ev.some rfl))
end Go.Proofs.YtijfddobandcdaaDoor.X
end
section
-- by ownprint.py (wip/tool), over the kit's print
namespace Go.Proofs.YtijfddobandcdaaDoor.X
open Go.RowKit Go.Proofs.YtijfddobandcdaaDoorW.PrintWords Go.Proofs.YtijfddobandcdaaDoorW.PrintLast Go.Proofs.YtijfddobandcdaaDoorW.PrintMore
attribute [local go_sem] max2_int min2_int max_two min_two max_three min_three max_four min_four
set_option linter.unusedVariables false
set_option linter.unusedSimpArgs false

/-! ### sweep_town_isLayout: function 55 -/
def sweep_town_isLayout.l0 : Nat → List Int → List Int → Int → List Int → Int → Int → Option (Bool)
  | 0, _, _, _, _, _, _ => none
  | k + 1, x0, x1, x5, x8, x9, x10 => if x10 < x9 then (if 0 ≤ x10 then (if x10 < (x8.length : Int) then (if (rd x8 x10) < 0 then (some false) else (if (rd x8 x10) ≥ (x0.length : Int) then (some false) else (if 0 ≤ (rd x8 x10) then (sweep_town_isLayout.l0 k x0 x1 (Go.bits .or .i64 x5 (shl .i64 1 (rd x8 x10))) x8 x9 (wrap64 (x10 + 1))) else (none)))) else (none)) else (none)) else (if (x1.length : Int) = (x0.length : Int) then ((sweep_town_all.f x0).bind fun t215 => (some (x5 == t215))) else (some false))
def sweep_town_isLayout.f (k : Nat) (l0 : List Int) (l1 : List Int) : Option (Bool) := sweep_town_isLayout.l0 k l0 l1 0 l1 (l1.length : Int) 0
theorem sweep_town_isLayout.mono_l : ∀ k, (∀ y0 y1 y2 y3 y4 y5, LeO (sweep_town_isLayout.l0 k y0 y1 y2 y3 y4 y5) (sweep_town_isLayout.l0 (k + 1) y0 y1 y2 y3 y4 y5))
  | 0 => fun _ _ _ _ _ _ r h => by simp [sweep_town_isLayout.l0] at h
  | k + 1 => by
    have ih0 := sweep_town_isLayout.mono_l k
    · intro y0 y1 y2 y3 y4 y5
      unfold sweep_town_isLayout.l0
      repeat' first
      | (with_reducible exact ih0 _ _ _ _ _ _)
      | (with_reducible exact LeO.refl _)
      | (with_reducible exact LeO.none _)
      | (with_reducible refine LeO.ite ?_ ?_)
      | (with_reducible refine LeO.bind ?_ (fun _ => ?_))
      | exact ih0 _ _ _ _ _ _
      | exact LeO.none _
      | refine LeO.ite ?_ ?_
      | refine LeO.bind ?_ (fun _ => ?_)
theorem sweep_town_isLayout.mono : ∀ a0 a1 k, LeO (sweep_town_isLayout.f k a0 a1) (sweep_town_isLayout.f (k + 1) a0 a1) := by
  intro a0 a1 k
  have ih0 := sweep_town_isLayout.mono_l k
  unfold sweep_town_isLayout.f
  repeat' first
      | (with_reducible exact ih0 _ _ _ _ _ _)
      | (with_reducible exact LeO.refl _)
      | (with_reducible exact LeO.none _)
      | (with_reducible refine LeO.ite ?_ ?_)
      | (with_reducible refine LeO.bind ?_ (fun _ => ?_))
      | exact ih0 _ _ _ _ _ _
      | exact LeO.none _
      | refine LeO.ite ?_ ?_
      | refine LeO.bind ?_ (fun _ => ?_)
set_option maxHeartbeats 8000000 in
set_option maxRecDepth 100000 in
theorem sweep_town_isLayout.calls (k : Nat) (A0 : Option Addr) (c0 : Nat) (l0 : List Int) (A1 : Option Addr) (c1 : Nat) (l1 : List Int) (r : Bool) (w : World) (hr0 : Kd.C (Kd.int .i64) w A0 l0.length l0) (hc0 : l0.length ≤ c0) (hr1 : Kd.C (Kd.int .i64) w A1 l1.length l1) (hc1 : l1.length ≤ c1) (h : sweep_town_isLayout.f k l0 l1 = some r) :
    Calls Tryd.prog 55 #[.slice A0 l0.length c0, .slice A1 l1.length c1] w fun e w' => e = .returned (.bool r) ∧ Drawn0 w w' := by
  have HR0 := Aside0.mk hr0
  have HC0 := Aside0.mk hc0
  clear hr0 hc0
  have HR1 := Aside0.mk hr1
  have HC1 := Aside0.mk hc1
  clear hr1 hc1
  have H : (sweep_town_isLayout.l0 k l0 l1 0 l1 (l1.length : Int) 0) = some r := h
  clear h
  have H' := Aside0.mk H
  clear H
  go_enter Tryd.func55, Tryd.ntmps55
  go_wp2
  go_loopg [5, 10] k (fun kq v5 v10 w' => ∃ (x5_1 : Int) (x10_1 : Int), v5 = .int .i64 x5_1 ∧ v10 = .int .i64 x10_1 ∧ Aside0 (sweep_town_isLayout.l0 kq l0 l1 x5_1 l1 (l1.length : Int) x10_1 = some r) ∧ Aside0 (kq ≤ k) ∧ Drawn0 w w')
  case atStart => exact ⟨(0), (0), (by first | rfl | (simp; done) | (simp [*]; done)), (by first | rfl | (simp; done) | (simp [*]; done)), H', ⟨Nat.le_refl _⟩, by repeat (first | exact Drawn0.refl _ | apply Drawn0.step)⟩
  case round =>
    clear H'
    try clear c1
    try clear p2
    obtain ⟨x5_1, x10_1, rfl, rfl, HA, HK1, ⟨m1, rfl⟩⟩ := hrel
    cases gk with
    | zero => exact absurd HA.out (by simp [sweep_town_isLayout.l0])
    | succ k1 =>
      have H := HA.out
      clear HA
      simp only [sweep_town_isLayout.l0] at H
      by_cases c3 : x10_1 < (l1.length : Int)
      · rw [if_pos c3] at H
        have c3b0 : decide (x10_1 < (l1.length : Int)) = true := decide_eq_true c3
        clear c3
        by_cases c4 : 0 ≤ x10_1
        · rw [if_pos c4] at H
          have c4b0 : decide (0 ≤ x10_1) = true := decide_eq_true c4
          clear c4
          by_cases c5 : x10_1 < (l1.length : Int)
          · rw [if_pos c5] at H
            have c5b0 : decide (x10_1 < (l1.length : Int)) = true := decide_eq_true c5
            clear c5
            by_cases c6 : (rd l1 x10_1) < 0
            · rw [if_pos c6] at H
              have c6b0 : decide ((rd l1 x10_1) < 0) = true := decide_eq_true c6
              clear c6
              obtain rfl := Option.some.inj H
              have p214 : 0 ≤ (x10_1 : Int) := of_decide_eq_true (by first | (with_reducible assumption) | assumption)
              have q214 : x10_1 < (l1.length : Int) := of_decide_eq_true (by first | (with_reducible assumption) | assumption)
              obtain ⟨ad214, e214, hx214_0⟩ := Kd.at_int HR1.out x10_1 p214 q214
              cases e214
              replace p214 := eq_true p214
              replace q214 := eq_true q214
              go_wp2
              go_ret
              exact ⟨by first | rfl | (simp; done) | (simp [*]; done), by repeat (first | exact Drawn0.refl _ | apply Drawn0.step)⟩
            · rw [if_neg c6] at H
              have c6b0 : decide ((rd l1 x10_1) < 0) = false := decide_eq_false c6
              clear c6
              by_cases c7 : (rd l1 x10_1) ≥ (l0.length : Int)
              · rw [if_pos c7] at H
                have c7b0 : decide ((l0.length : Int) ≤ (rd l1 x10_1)) = true := decide_eq_true c7
                clear c7
                obtain rfl := Option.some.inj H
                have p214 : 0 ≤ (x10_1 : Int) := of_decide_eq_true (by first | (with_reducible assumption) | assumption)
                have q214 : x10_1 < (l1.length : Int) := of_decide_eq_true (by first | (with_reducible assumption) | assumption)
                obtain ⟨ad214, e214, hx214_0⟩ := Kd.at_int HR1.out x10_1 p214 q214
                cases e214
                replace p214 := eq_true p214
                replace q214 := eq_true q214
                go_wp2
                go_ret
                exact ⟨by first | rfl | (simp; done) | (simp [*]; done), by repeat (first | exact Drawn0.refl _ | apply Drawn0.step)⟩
              · rw [if_neg c7] at H
                have c7b0 : decide ((l0.length : Int) ≤ (rd l1 x10_1)) = false := decide_eq_false c7
                clear c7
                by_cases c8 : 0 ≤ (rd l1 x10_1)
                · rw [if_pos c8] at H
                  have c8b0 := eq_true c8
                  have c8b1 : decide (0 ≤ (rd l1 x10_1)) = true := decide_eq_true c8
                  clear c8
                  obtain ⟨ji9, hji9⟩ : ∃ j_ : Int, (shl .i64 1 (rd l1 x10_1)) = j_ := ⟨_, rfl⟩
                  replace H : (sweep_town_isLayout.l0 k1 l0 l1 (Go.bits .or .i64 x5_1 (ji9)) l1 (l1.length : Int) (wrap64 (x10_1 + 1))) = some r := by first | (rw [hji9] at H; exact H) | (simp only [hji9] at H ⊢; exact H)
                  have hji9_ : (IntKind.i64.wrap (1 * 2 ^ min (rd l1 x10_1).toNat 64)) = ji9 := hji9
                  have hji9z : (rd l1 x10_1) ≤ 64 → (IntKind.i64.wrap (1 * 2 ^ (rd l1 x10_1).toNat)) = ji9 := shl_small hji9
                  have hji9u : (IntKind.i64.wrap (2 ^ min (rd l1 x10_1).toNat 64)) = ji9 := by have h_ := hji9_; rw [Int.one_mul] at h_; exact h_
                  have hji9v : (rd l1 x10_1) ≤ 64 → (IntKind.i64.wrap (2 ^ (rd l1 x10_1).toNat)) = ji9 := fun hle_ => by have h_ := hji9z hle_; rw [Int.one_mul] at h_; exact h_
                  have hji9y : (wrap64 (1 * 2 ^ min (rd l1 x10_1).toNat 64)) = ji9 := (i64_w _).symm.trans hji9_
                  have hji9x : (rd l1 x10_1) ≤ 64 → (wrap64 (1 * 2 ^ (rd l1 x10_1).toNat)) = ji9 := fun h_ => (i64_w _).symm.trans (hji9z h_)
                  have H' := Aside0.mk H
                  clear H
                  have p214 : 0 ≤ (x10_1 : Int) := of_decide_eq_true (by first | (with_reducible assumption) | assumption)
                  have q214 : x10_1 < (l1.length : Int) := of_decide_eq_true (by first | (with_reducible assumption) | assumption)
                  obtain ⟨ad214, e214, hx214_0⟩ := Kd.at_int HR1.out x10_1 p214 q214
                  cases e214
                  replace p214 := eq_true p214
                  replace q214 := eq_true q214
                  go_wp2
                  go_roundg k1
                  case measure => have := HK1.out; omega
                  case rel => exact ⟨(Go.bits .or .i64 x5_1 (ji9)), (wrap64 (x10_1 + 1)), (by first | rfl | (simp; done) | (simp only [← hji9] <;> (first | rfl | simp)) | (simp [*]; done)), (by first | rfl | (simp; done) | (simp [*]; done)), H', ⟨by have := HK1.out; omega⟩, by repeat (first | exact Drawn0.refl _ | apply Drawn0.step)⟩
                · rw [if_neg c8] at H
                  exact absurd H (by simp)
          · rw [if_neg c5] at H
            exact absurd H (by simp)
        · rw [if_neg c4] at H
          exact absurd H (by simp)
      · rw [if_neg c3] at H
        have c3b0 : decide (x10_1 < (l1.length : Int)) = false := decide_eq_false c3
        clear c3
        by_cases c10 : (l1.length : Int) = (l0.length : Int)
        · rw [if_pos c10] at H
          have c10b0 : ((l1.length : Int) == (l0.length : Int)) = true := beq_iff_eq.mpr c10
          have c10b1 : ((l1.length : Int) != (l0.length : Int)) = false := bne_eq_false_iff_eq.mpr c10
          have c10b2 : (l1.length == l0.length) = true := by first | simpa using c10 | (simp at c10 ⊢; omega)
          clear c10
          replace H := Option.bind_eq_some_iff.mp H
          obtain ⟨t215, A110, H⟩ := H
          replace H : (some (x5_1 == t215)) = some r := H
          have A11 := Aside0.mk A110
          clear A110
          obtain rfl := Option.some.inj H
          go_wp2_with (first | (go_at_call 61; (with_reducible refine (sweep_town_all.calls _ _ l0 t215 _ ?side1 ?side2 A11.out).mono ?_); (case side1 => repeat (first | exact HR0.out | (with_reducible refine Kd.C_alloc ?_ _) | (with_reducible refine Kd.C_drewN ?_ _) | (with_reducible refine Kd.C_drew ?_))); (case side2 => exact HC0.out); rintro e w' ⟨rfl, ⟨nd, rfl⟩⟩))
          go_ret
          exact ⟨by first | rfl | (simp; done) | (simp [*]; done), by repeat (first | exact Drawn0.refl _ | apply Drawn0.step)⟩
        · rw [if_neg c10] at H
          have c10b0 : ((l1.length : Int) == (l0.length : Int)) = false := beq_eq_false_iff_ne.mpr c10
          have c10b1 : ((l1.length : Int) != (l0.length : Int)) = true := bne_iff_ne.mpr c10
          have c10b2 : (l1.length == l0.length) = false := by first | simpa using c10 | (simp at c10 ⊢; omega)
          obtain rfl := Option.some.inj H
          go_wp2
          go_ret
          exact ⟨by first | rfl | (simp; done) | (simp [*]; done), by repeat (first | exact Drawn0.refl _ | apply Drawn0.step)⟩

end Go.Proofs.YtijfddobandcdaaDoor.X
end
section
-- by ownprint.py (wip/tool), over the kit's print
namespace Go.Proofs.YtijfddobandcdaaDoor.X
open Go.RowKit Go.Proofs.YtijfddobandcdaaDoorW.PrintWords Go.Proofs.YtijfddobandcdaaDoorW.PrintLast Go.Proofs.YtijfddobandcdaaDoorW.PrintMore
attribute [local go_sem] max2_int min2_int max_two min_two max_three min_three max_four min_four
set_option linter.unusedVariables false
set_option linter.unusedSimpArgs false

/-! ### sweep_town_bags: function 52 -/
def sweep_town_bags.l0 : Nat → List Int → List Int → Int → List Int → Int → Int → Option (List Int)
  | 0, _, _, _, _, _, _ => none
  | k + 1, x0, x5, x6, x9, x10, x11 => if x11 < x10 then (if 0 ≤ x11 then (if x11 < (x9.length : Int) then ((sweep_town_border.f x0 x6).bind fun t191 => (if 0 ≤ (rd x9 x11) then (if x5.length < 17592186044416 then (sweep_town_bags.l0 k x0 (x5 ++ [Go.bits .or .i64 t191 (shl .i64 1 (rd x9 x11))]) (Go.bits .or .i64 x6 (shl .i64 1 (rd x9 x11))) x9 x10 (wrap64 (x11 + 1))) else (none)) else (none))) else (none)) else (none)) else (some x5)
def sweep_town_bags.f (k : Nat) (l0 : List Int) (l1 : List Int) : Option (List Int) := sweep_town_bags.l0 k l0 ([] : List Int) 0 l1 (l1.length : Int) 0
theorem sweep_town_bags.mono_l : ∀ k, (∀ y0 y1 y2 y3 y4 y5, LeO (sweep_town_bags.l0 k y0 y1 y2 y3 y4 y5) (sweep_town_bags.l0 (k + 1) y0 y1 y2 y3 y4 y5))
  | 0 => fun _ _ _ _ _ _ r h => by simp [sweep_town_bags.l0] at h
  | k + 1 => by
    have ih0 := sweep_town_bags.mono_l k
    · intro y0 y1 y2 y3 y4 y5
      unfold sweep_town_bags.l0
      repeat' first
      | (with_reducible exact ih0 _ _ _ _ _ _)
      | (with_reducible exact LeO.refl _)
      | (with_reducible exact LeO.none _)
      | (with_reducible refine LeO.ite ?_ ?_)
      | (with_reducible refine LeO.bind ?_ (fun _ => ?_))
      | exact ih0 _ _ _ _ _ _
      | exact LeO.none _
      | refine LeO.ite ?_ ?_
      | refine LeO.bind ?_ (fun _ => ?_)
theorem sweep_town_bags.mono : ∀ a0 a1 k, LeO (sweep_town_bags.f k a0 a1) (sweep_town_bags.f (k + 1) a0 a1) := by
  intro a0 a1 k
  have ih0 := sweep_town_bags.mono_l k
  unfold sweep_town_bags.f
  repeat' first
      | (with_reducible exact ih0 _ _ _ _ _ _)
      | (with_reducible exact LeO.refl _)
      | (with_reducible exact LeO.none _)
      | (with_reducible refine LeO.ite ?_ ?_)
      | (with_reducible refine LeO.bind ?_ (fun _ => ?_))
      | exact ih0 _ _ _ _ _ _
      | exact LeO.none _
      | refine LeO.ite ?_ ?_
      | refine LeO.bind ?_ (fun _ => ?_)
def sweep_town_bags.T6 : Bool × List (List Nat × List Nat) := (true, [([], []), ([], []), ([], []), ([1, 2], [1, 2]), ([], []), ([4], [4]), ([3, 5], [3, 5]), ([6], [6]), ([0, 7, 3], [0, 7]), ([8, 8, 0, 1, 2, 3, 4, 5, 6, 7, 8], [0, 8])])
def sweep_town_bags.B6 : List Nat := [0, 0, 0, 6, 0, 16, 62, 126, 255, 511]
theorem sweep_town_bags.tab6 : rtab .any (opsOf Tryd.f52 6) = sweep_town_bags.T6 := by kernel_rfl
theorem sweep_town_bags.bits6 : waitsOk sweep_town_bags.T6.2 sweep_town_bags.B6 = true := by kernel_rfl
set_option maxHeartbeats 8000000 in
set_option maxRecDepth 100000 in
theorem sweep_town_bags.calls (k : Nat) (A0 : Option Addr) (c0 : Nat) (l0 : List Int) (A1 : Option Addr) (c1 : Nat) (l1 : List Int) (r : List Int) (w : World) (hGL : GL w) (hr0 : Kd.C (Kd.int .i64) w A0 l0.length l0) (hc0 : l0.length ≤ c0) (hr1 : Kd.C (Kd.int .i64) w A1 l1.length l1) (hc1 : l1.length ≤ c1) (h : sweep_town_bags.f k l0 l1 = some r) :
    Calls Tryd.prog 52 #[.slice A0 l0.length c0, .slice A1 l1.length c1] w fun e w' => ∃ v0_ : Value, e = .returned (v0_) ∧ Kd.R (Kd.int .i64) 3 w' w.heap.size (fun _ => True) v0_ r ∧ Below w.heap.size w w' := by
  have HGL := Aside0.mk hGL
  clear hGL
  have HR0 := Aside0.mk hr0
  have HC0 := Aside0.mk hc0
  clear hr0 hc0
  have HR1 := Aside0.mk hr1
  have HC1 := Aside0.mk hc1
  clear hr1 hc1
  have HB := Aside0.mk (Below.refl w.heap.size w)
  have H : (sweep_town_bags.l0 k l0 ([] : List Int) 0 l1 (l1.length : Int) 0) = some r := h
  clear h
  have H' := Aside0.mk H
  clear H
  go_enter Tryd.func52, Tryd.ntmps52
  go_wp2
  go_loopg [5, 6, 11] k (fun kq v5 v6 v11 w' => ∃ (x5_1 : List Int) (x6_1 : Int) (x11_1 : Int), v6 = .int .i64 x6_1 ∧ v11 = .int .i64 x11_1 ∧ Aside0 (sweep_town_bags.l0 kq l0 x5_1 x6_1 l1 (l1.length : Int) x11_1 = some r) ∧ Aside0 (kq ≤ k) ∧ Aside0 (Kd.R (Kd.int .i64) 3 w' w.heap.size (fun _ => True) v5 x5_1) ∧ Aside0 (Below w.heap.size w w'))
  case atStart => exact ⟨(([] : List Int)), (0), (0), (by first | rfl | (simp; done) | (simp [*]; done)), (by first | rfl | (simp; done) | (simp [*]; done)), H', ⟨Nat.le_refl _⟩, ⟨by first | exact Kd.R_nil _ _ _ _ _ | exact Kd.N_nil _ _ _ _ _ | exact Kd.V_nil _ _ _ _ _ | exact Kd.Q_nil _ _ _ _ _ | exact Kd.S_nil _ _ _ _ _⟩, ⟨by repeat (first | (with_reducible first | exact HB.out | apply below_alloc | apply pw_below_drewN | apply below_drew1) | exact HB.out)⟩⟩
  case round =>
    clear H'
    try clear c1
    try clear p2
    obtain ⟨x5_1, x6_1, x11_1, rfl, rfl, HA, HK1, HO_5, HB⟩ := hrel
    cases gk with
    | zero => exact absurd HA.out (by simp [sweep_town_bags.l0])
    | succ k1 =>
      have H := HA.out
      clear HA
      simp only [sweep_town_bags.l0] at H
      by_cases c3 : x11_1 < (l1.length : Int)
      · rw [if_pos c3] at H
        have c3b0 : decide (x11_1 < (l1.length : Int)) = true := decide_eq_true c3
        clear c3
        by_cases c4 : 0 ≤ x11_1
        · rw [if_pos c4] at H
          have c4b0 : decide (0 ≤ x11_1) = true := decide_eq_true c4
          clear c4
          by_cases c5 : x11_1 < (l1.length : Int)
          · rw [if_pos c5] at H
            have c5b0 : decide (x11_1 < (l1.length : Int)) = true := decide_eq_true c5
            clear c5
            replace H := Option.bind_eq_some_iff.mp H
            obtain ⟨t191, A60, H⟩ := H
            replace H : (if 0 ≤ (rd l1 x11_1) then (if x5_1.length < 17592186044416 then (sweep_town_bags.l0 k1 l0 (x5_1 ++ [Go.bits .or .i64 t191 (shl .i64 1 (rd l1 x11_1))]) (Go.bits .or .i64 x6_1 (shl .i64 1 (rd l1 x11_1))) l1 (l1.length : Int) (wrap64 (x11_1 + 1))) else (none)) else (none)) = some r := H
            have A6 := Aside0.mk A60
            clear A60
            by_cases c7 : 0 ≤ (rd l1 x11_1)
            · rw [if_pos c7] at H
              have c7b0 := eq_true c7
              have c7b1 : decide (0 ≤ (rd l1 x11_1)) = true := decide_eq_true c7
              clear c7
              obtain ⟨ji8, hji8⟩ : ∃ j_ : Int, (shl .i64 1 (rd l1 x11_1)) = j_ := ⟨_, rfl⟩
              replace H : (if x5_1.length < 17592186044416 then (sweep_town_bags.l0 k1 l0 (x5_1 ++ [Go.bits .or .i64 t191 (ji8)]) (Go.bits .or .i64 x6_1 (ji8)) l1 (l1.length : Int) (wrap64 (x11_1 + 1))) else (none)) = some r := by first | (rw [hji8] at H; exact H) | (simp only [hji8] at H ⊢; exact H)
              (try rw [hji8] at A6)
              have hji8_ : (IntKind.i64.wrap (1 * 2 ^ min (rd l1 x11_1).toNat 64)) = ji8 := hji8
              have hji8z : (rd l1 x11_1) ≤ 64 → (IntKind.i64.wrap (1 * 2 ^ (rd l1 x11_1).toNat)) = ji8 := shl_small hji8
              have hji8u : (IntKind.i64.wrap (2 ^ min (rd l1 x11_1).toNat 64)) = ji8 := by have h_ := hji8_; rw [Int.one_mul] at h_; exact h_
              have hji8v : (rd l1 x11_1) ≤ 64 → (IntKind.i64.wrap (2 ^ (rd l1 x11_1).toNat)) = ji8 := fun hle_ => by have h_ := hji8z hle_; rw [Int.one_mul] at h_; exact h_
              have hji8y : (wrap64 (1 * 2 ^ min (rd l1 x11_1).toNat 64)) = ji8 := (i64_w _).symm.trans hji8_
              have hji8x : (rd l1 x11_1) ≤ 64 → (wrap64 (1 * 2 ^ (rd l1 x11_1).toNat)) = ji8 := fun h_ => (i64_w _).symm.trans (hji8z h_)
              by_cases c9 : x5_1.length < 17592186044416
              · rw [if_pos c9] at H
                have LMc9 := Aside0.mk c9
                clear c9
                obtain ⟨y192, hy192⟩ : ∃ y_ : List Int, y_ = (x5_1 ++ [Go.bits .or .i64 t191 (ji8)]) := ⟨_, rfl⟩
                replace H : (sweep_town_bags.l0 k1 l0 y192 (Go.bits .or .i64 x6_1 (ji8)) l1 (l1.length : Int) (wrap64 (x11_1 + 1))) = some r := by first | (rw [hy192]; with_reducible exact H) | (have H2_ := (Option.bind_some _ _).symm.trans H; rw [hy192]; with_reducible exact H2_) | (have H2_ := (Option.bind_some _ _).symm.trans H; with_reducible exact H2_) | with_reducible exact H | (rw [hy192]; exact H) | exact H
                have Ny192 := Aside0.mk hy192
                clear hy192
                have c10b0 := eq_true (of_decide_eq_true (by first | (with_reducible assumption) | assumption) : 0 ≤ (rd l1 x11_1))
                have H' := Aside0.mk H
                clear H
                have p190 : 0 ≤ (x11_1 : Int) := of_decide_eq_true (by first | (with_reducible assumption) | assumption)
                have q190 : x11_1 < (l1.length : Int) := of_decide_eq_true (by first | (with_reducible assumption) | assumption)
                obtain ⟨ad190, e190, hx190_0⟩ := Kd.at_int HR1.out x11_1 p190 q190
                cases e190
                replace hx190_0 := (HB.out.cell (World.block_lt_of_cell? w _ hx190_0)).trans hx190_0
                replace p190 := eq_true p190
                replace q190 := eq_true q190
                try go_wp2
                have n0_ := Aside0.mk (Kd.R_drew HO_5.out)
                have n1_ := Aside0.mk (below_drew1 HB.out)
                clear HO_5
                clear HB
                have HO_5 := n0_
                have HB := n1_
                clear n0_ n1_
                refine start_ (n := 10) (S := fun w' => True) (ds := []) #[false, false, false, false, false, false, false, false, false, false] (by kernel_rfl) rfl rfl trivial (fun hHeld => ?_); refine with_tabW sweep_town_bags.tab6 sweep_town_bags.bits6 (fun HT_ HW_ => ?_)
                generalize wr.drew = w11 at HO_5 HB hHeld ⊢
                refine pure_ (i := 0) (N := some 15) (v := ?_) (a' := ?_) #[true, false, false, false, false, false, false, false, false, false] rfl rfl (any_of HT_.out (by kernel_rfl)) (fun _ _ _ h => h) (Or.inl ⟨by rfl, ?_⟩) ?_ ?_
                rotate_left
                · intro w'
                  go_simp
                  with_reducible rfl
                rotate_left
                · simp only [Act.put, List.setIfInBounds_toArray, List.set_cons_zero, List.set_cons_succ, i64_w, i32_w]
                  rfl
                refine pure_ (i := 1) (N := some 16) (v := ?_) (a' := ?_) #[true, true, false, false, false, false, false, false, false, false] rfl rfl (any_of HT_.out (by kernel_rfl)) (fun _ _ _ h => h) (Or.inl ⟨by rfl, ?_⟩) ?_ ?_
                rotate_left
                · intro w'
                  go_simp
                  with_reducible rfl
                rotate_left
                · simp only [Act.put, List.setIfInBounds_toArray, List.set_cons_zero, List.set_cons_succ, i64_w, i32_w]
                  rfl
                refine pure_ (i := 2) (N := some 17) (v := ?_) (a' := ?_) #[true, true, true, false, false, false, false, false, false, false] rfl rfl (any_of HT_.out (by kernel_rfl)) (fun _ _ _ h => h) (Or.inl ⟨by rfl, ?_⟩) ?_ ?_
                rotate_left
                · intro w'
                  go_simp
                  with_reducible rfl
                rotate_left
                · simp only [Act.put, List.setIfInBounds_toArray, List.set_cons_zero, List.set_cons_succ, i64_w, i32_w]
                  rfl
                refine pure_ (i := 4) (N := some 19) (v := ?_) (a' := ?_) #[true, true, true, false, true, false, false, false, false, false] rfl rfl (any_of HT_.out (by kernel_rfl)) (fun _ _ _ h => h) (Or.inl ⟨by rfl, ?_⟩) ?_ ?_
                rotate_left
                · intro w'
                  go_simp
                  with_reducible rfl
                rotate_left
                · simp only [Act.put, List.setIfInBounds_toArray, List.set_cons_zero, List.set_cons_succ, i64_w, i32_w]
                  rfl
                refine pure_ (i := 5) (N := some 20) (v := ?_) (a' := ?_) #[true, true, true, false, true, true, false, false, false, false] rfl rfl (any_of HT_.out (by kernel_rfl)) (fun _ _ _ h => h) (Or.inl ⟨by rfl, ?_⟩) ?_ ?_
                rotate_left
                · intro w'
                  go_simp
                  with_reducible rfl
                rotate_left
                · simp only [Act.put, List.setIfInBounds_toArray, List.set_cons_zero, List.set_cons_succ, i64_w, i32_w]
                  rfl
                refine one_ (i := 3) (N := some 18) #[true, true, true, true, true, true, false, false, false, false] rfl rfl (one_of HT_.out (by kernel_rfl)) (by decide) (fun K hK => ?_)
                refine goes_ Tryd.func73 (by kernel_rfl) rfl #[.slice A0 l0.length c0, .int .i64 x6_1] (by rfl) rfl rfl (by (try simp only [List.map_toArray, List.map_cons, List.map_nil]); first | done | rfl | (simp only [List.length_drop, List.length_take]; rfl)) ?_
                with_reducible refine (sweep_town_border.calls (hGL := (by repeat (first | (with_reducible exact HGL.out) | (with_reducible exact GL_below HGL.out HB.out) | (with_reducible refine GL_alloc ?_ _) | (with_reducible refine GL_drewN ?_ _) | (with_reducible refine GL_drew ?_)))) _ _ l0 x6_1 t191 _ ?side1 ?side2 A6.out).mono ?_
                (case side1 => repeat (first | exact (Kd.C_below HR0.out HB.out) | (with_reducible refine Kd.C_alloc ?_ _) | (with_reducible refine Kd.C_drewN ?_ _) | (with_reducible refine Kd.C_drew ?_)))
                (case side2 => exact HC0.out)
                rintro e w12 ⟨rfl, hb⟩
                refine ⟨_, rfl, ?_⟩
                have n0_ := Aside0.mk (Kd.R_below (by (with_reducible repeat (first | apply Kd.R_alloc | apply Kd.R_drewN | apply Kd.R_drew)); exact HO_5.out) hb)
                have n1_ := Aside0.mk (below_step (by repeat (first | (with_reducible first | exact HB.out | apply below_alloc | apply pw_below_drewN | apply below_drew1) | exact HB.out)) hb)
                clear HO_5
                clear HB
                have HO_5 := n0_
                have HB := n1_
                clear n0_ n1_
                (try clear hb)
                (try clear hb2)
                (try clear hk)
                (try clear hi)
                refine hK.out _ _ trivial (fun hHeld => ?_)
                clear hK K
                refine norm_ (a' := ?_) ?_ ?_
                rotate_left
                · show Act.put _ (some 18) _ = _
                  simp only [Act.put, List.setIfInBounds_toArray, List.set_cons_zero, List.set_cons_succ, i64_w, i32_w]
                  rfl
                refine pure_ (i := 6) (N := some 21) (v := ?_) (a' := ?_) #[true, true, true, true, true, true, true, false, false, false] rfl rfl (any_of HT_.out (by kernel_rfl)) (fun _ _ _ h => h) (Or.inl ⟨by rfl, ?_⟩) ?_ ?_
                rotate_left
                · intro w'
                  go_simp
                  with_reducible rfl
                rotate_left
                · simp only [Act.put, List.setIfInBounds_toArray, List.set_cons_zero, List.set_cons_succ, i64_w, i32_w]
                  rfl
                refine one_ (i := 7) (N := some 22) #[true, true, true, true, true, true, true, true, false, false] rfl rfl (one_of HT_.out (by kernel_rfl)) (by decide) (fun K hK => ?_)
                refine value_ (w1 := ?_) (v := ?_) (by rfl) rfl ?_ ?_
                rotate_left 2
                · go_simp
                  constructor
                  · rfl
                  · rfl
                refine hK.out _ _ trivial (fun hHeld => ?_)
                clear hK K
                refine norm_ (a' := ?_) ?_ ?_
                rotate_left
                · show Act.put _ (some 22) _ = _
                  simp only [Act.put, List.setIfInBounds_toArray, List.set_cons_zero, List.set_cons_succ, i64_w, i32_w]
                  rfl
                refine one_ (i := 8) (N := some 23) #[true, true, true, true, true, true, true, true, true, false] rfl rfl (one_of HT_.out (by kernel_rfl)) (by decide) (fun K hK => ?_)
                refine Kd.R_append_step (Kd.int .i64) (w0 := w) w.heap.size (by rfl) (.tmp 15) (.tmp 22) 22 3 (.int .i64 0) 8 rfl Tryd.underlying22 info3 rfl (by decide) (by omega) u5 x5_1 (Go.bits .or .i64 t191 (ji8)) [.int .i64 (Go.bits .or .i64 t191 (ji8))] (fun _ => True) (fun _ => False) rfl rfl ?aP (fun _ hk => hk.elim) ?aF ?aO ?aB ?aS ?aL ?_
                (case aP => exact rfl)
                (case aB => exact (by repeat (first | (with_reducible first | exact HB.out | apply below_alloc | apply pw_below_drewN | apply below_drew1) | exact HB.out)))
                (case aF => exact (fun _ _ => trivial))
                (case aO => exact (by (with_reducible repeat (first | apply Kd.R_alloc | apply Kd.R_drewN | apply Kd.R_drew)); exact HO_5.out))
                (case aS => exact (below_size (by repeat (first | (with_reducible first | exact HB.out | apply below_alloc | apply pw_below_drewN | apply below_drew1) | exact HB.out))))
                (case aL => have := LMc9.out; omega)
                intro v193 w13 ho hb hg hat
                rw [← Ny192.out] at ho
                have n0_ := Aside0.mk (hb)
                have n1_ := Aside0.mk (ho)
                clear HB
                clear HO_5
                have HB := n0_
                have HO194 := n1_
                clear n0_ n1_
                clear ho hb hg hat
                refine hK.out _ _ trivial (fun hHeld => ?_)
                clear hK K
                refine norm_ (a' := ?_) ?_ ?_
                rotate_left
                · show Act.put _ (some 23) _ = _
                  simp only [Act.put, List.setIfInBounds_toArray, List.set_cons_zero, List.set_cons_succ, i64_w, i32_w]
                  rfl
                refine pure_ (i := 9) (N := some 5) (v := ?_) (a' := ?_) #[true, true, true, true, true, true, true, true, true, true] rfl rfl (any_of HT_.out (by kernel_rfl)) (fun _ _ _ h => h) (Or.inl ⟨by rfl, ?_⟩) ?_ ?_
                rotate_left
                · intro w'
                  go_simp
                  with_reducible rfl
                rotate_left
                · simp only [Act.put, List.setIfInBounds_toArray, List.set_cons_zero, List.set_cons_succ, i64_w, i32_w]
                  rfl
                refine done_ (done_of HT_.out (by kernel_rfl)) ?_
                try go_wp2
                go_roundg k1
                case measure => have := HK1.out; omega
                case rel => exact ⟨(y192), (Go.bits .or .i64 x6_1 (ji8)), (wrap64 (x11_1 + 1)), (by first | rfl | (simp; done) | (simp only [← hji8] <;> (first | rfl | simp)) | (simp [*]; done)), (by first | rfl | (simp; done) | (simp [*]; done)), H', ⟨by have := HK1.out; omega⟩, ⟨by (with_reducible repeat (first | apply Kd.R_alloc | apply Kd.R_drewN | apply Kd.R_drew)); exact HO194.out⟩, ⟨by repeat (first | (with_reducible first | exact HB.out | apply below_alloc | apply pw_below_drewN | apply below_drew1) | exact HB.out)⟩⟩
              · rw [if_neg c9] at H
                exact absurd H (by simp)
            · rw [if_neg c7] at H
              exact absurd H (by simp)
          · rw [if_neg c5] at H
            exact absurd H (by simp)
        · rw [if_neg c4] at H
          exact absurd H (by simp)
      · rw [if_neg c3] at H
        have c3b0 : decide (x11_1 < (l1.length : Int)) = false := decide_eq_false c3
        clear c3
        obtain rfl := Option.some.inj H
        go_wp2
        go_ret
        exact ⟨_, by first | rfl | (simp [errW_none, errW_some] <;> rfl) | (simp [*, errW_none, errW_some] <;> rfl), by (with_reducible repeat (first | apply Kd.R_alloc | apply Kd.R_drewN | apply Kd.R_drew)); exact HO_5.out, by repeat (first | (with_reducible first | exact HB.out | apply below_alloc | apply pw_below_drewN | apply below_drew1) | exact HB.out)⟩

end Go.Proofs.YtijfddobandcdaaDoor.X
end
section
-- by ownprint.py (wip/tool), over the kit's print
namespace Go.Proofs.YtijfddobandcdaaDoor.X
open Go.RowKit Go.Proofs.YtijfddobandcdaaDoorW.PrintWords Go.Proofs.YtijfddobandcdaaDoorW.PrintLast Go.Proofs.YtijfddobandcdaaDoorW.PrintMore
attribute [local go_sem] max2_int min2_int max_two min_two max_three min_three max_four min_four
set_option linter.unusedVariables false
set_option linter.unusedSimpArgs false

/-! ### lampblackref02_IsOrder: function 30 -/
def lampblackref02_IsOrder.l0 : Nat → List Int → Int → Int → List Int → Int → Int → Option (Bool)
  | 0, _, _, _, _, _, _ => none
  | k + 1, x0, x1, x5, x8, x9, x10 => if x10 < x9 then (if 0 ≤ x10 then (if x10 < (x8.length : Int) then (if (rd x8 x10) < 0 then (some false) else (if (rd x8 x10) ≥ x1 then (some false) else (if 0 ≤ (rd x8 x10) then (if (Go.bits .and .i64 (shr .i64 x5 (rd x8 x10)) 1) = 1 then (some false) else (lampblackref02_IsOrder.l0 k x0 x1 (Go.bits .or .i64 x5 (shl .i64 1 (rd x8 x10))) x8 x9 (wrap64 (x10 + 1)))) else (none)))) else (none)) else (none)) else (some ((x0.length : Int) == x1))
def lampblackref02_IsOrder.f (k : Nat) (l0 : List Int) (a1 : Int) : Option (Bool) := lampblackref02_IsOrder.l0 k l0 a1 0 l0 (l0.length : Int) 0
theorem lampblackref02_IsOrder.mono_l : ∀ k, (∀ y0 y1 y2 y3 y4 y5, LeO (lampblackref02_IsOrder.l0 k y0 y1 y2 y3 y4 y5) (lampblackref02_IsOrder.l0 (k + 1) y0 y1 y2 y3 y4 y5))
  | 0 => fun _ _ _ _ _ _ r h => by simp [lampblackref02_IsOrder.l0] at h
  | k + 1 => by
    have ih0 := lampblackref02_IsOrder.mono_l k
    · intro y0 y1 y2 y3 y4 y5
      unfold lampblackref02_IsOrder.l0
      repeat' first
      | (with_reducible exact ih0 _ _ _ _ _ _)
      | (with_reducible exact LeO.refl _)
      | (with_reducible exact LeO.none _)
      | (with_reducible refine LeO.ite ?_ ?_)
      | (with_reducible refine LeO.bind ?_ (fun _ => ?_))
      | exact ih0 _ _ _ _ _ _
      | exact LeO.none _
      | refine LeO.ite ?_ ?_
      | refine LeO.bind ?_ (fun _ => ?_)
theorem lampblackref02_IsOrder.mono : ∀ a0 a1 k, LeO (lampblackref02_IsOrder.f k a0 a1) (lampblackref02_IsOrder.f (k + 1) a0 a1) := by
  intro a0 a1 k
  have ih0 := lampblackref02_IsOrder.mono_l k
  unfold lampblackref02_IsOrder.f
  repeat' first
      | (with_reducible exact ih0 _ _ _ _ _ _)
      | (with_reducible exact LeO.refl _)
      | (with_reducible exact LeO.none _)
      | (with_reducible refine LeO.ite ?_ ?_)
      | (with_reducible refine LeO.bind ?_ (fun _ => ?_))
      | exact ih0 _ _ _ _ _ _
      | exact LeO.none _
      | refine LeO.ite ?_ ?_
      | refine LeO.bind ?_ (fun _ => ?_)
set_option maxHeartbeats 8000000 in
set_option maxRecDepth 100000 in
theorem lampblackref02_IsOrder.calls (k : Nat) (A0 : Option Addr) (c0 : Nat) (l0 : List Int) (a1 : Int) (r : Bool) (w : World) (hr0 : Kd.C (Kd.int .i64) w A0 l0.length l0) (hc0 : l0.length ≤ c0) (h : lampblackref02_IsOrder.f k l0 a1 = some r) :
    Calls Tryd.prog 30 #[.slice A0 l0.length c0, .int .i64 a1] w fun e w' => e = .returned (.bool r) ∧ Drawn0 w w' := by
  have HR0 := Aside0.mk hr0
  have HC0 := Aside0.mk hc0
  clear hr0 hc0
  have H : (lampblackref02_IsOrder.l0 k l0 a1 0 l0 (l0.length : Int) 0) = some r := h
  clear h
  have H' := Aside0.mk H
  clear H
  go_enter Tryd.func30, Tryd.ntmps30
  go_wp2
  go_loopg [5, 10] k (fun kq v5 v10 w' => ∃ (x5_1 : Int) (x10_1 : Int), v5 = .int .i64 x5_1 ∧ v10 = .int .i64 x10_1 ∧ Aside0 (lampblackref02_IsOrder.l0 kq l0 a1 x5_1 l0 (l0.length : Int) x10_1 = some r) ∧ Aside0 (kq ≤ k) ∧ Drawn0 w w')
  case atStart => exact ⟨(0), (0), (by first | rfl | (simp; done) | (simp [*]; done)), (by first | rfl | (simp; done) | (simp [*]; done)), H', ⟨Nat.le_refl _⟩, by repeat (first | exact Drawn0.refl _ | apply Drawn0.step)⟩
  case round =>
    clear H'
    try clear p2
    obtain ⟨x5_1, x10_1, rfl, rfl, HA, HK1, ⟨m1, rfl⟩⟩ := hrel
    cases gk with
    | zero => exact absurd HA.out (by simp [lampblackref02_IsOrder.l0])
    | succ k1 =>
      have H := HA.out
      clear HA
      simp only [lampblackref02_IsOrder.l0] at H
      by_cases c3 : x10_1 < (l0.length : Int)
      · rw [if_pos c3] at H
        have c3b0 : decide (x10_1 < (l0.length : Int)) = true := decide_eq_true c3
        clear c3
        by_cases c4 : 0 ≤ x10_1
        · rw [if_pos c4] at H
          have c4b0 : decide (0 ≤ x10_1) = true := decide_eq_true c4
          clear c4
          by_cases c5 : x10_1 < (l0.length : Int)
          · rw [if_pos c5] at H
            have c5b0 : decide (x10_1 < (l0.length : Int)) = true := decide_eq_true c5
            clear c5
            by_cases c6 : (rd l0 x10_1) < 0
            · rw [if_pos c6] at H
              have c6b0 : decide ((rd l0 x10_1) < 0) = true := decide_eq_true c6
              clear c6
              obtain rfl := Option.some.inj H
              have p231 : 0 ≤ (x10_1 : Int) := of_decide_eq_true (by first | (with_reducible assumption) | assumption)
              have q231 : x10_1 < (l0.length : Int) := of_decide_eq_true (by first | (with_reducible assumption) | assumption)
              obtain ⟨ad231, e231, hx231_0⟩ := Kd.at_int HR0.out x10_1 p231 q231
              cases e231
              replace p231 := eq_true p231
              replace q231 := eq_true q231
              go_wp2
              go_ret
              exact ⟨by first | rfl | (simp; done) | (simp [*]; done), by repeat (first | exact Drawn0.refl _ | apply Drawn0.step)⟩
            · rw [if_neg c6] at H
              have c6b0 : decide ((rd l0 x10_1) < 0) = false := decide_eq_false c6
              clear c6
              by_cases c7 : (rd l0 x10_1) ≥ a1
              · rw [if_pos c7] at H
                have c7b0 : decide (a1 ≤ (rd l0 x10_1)) = true := decide_eq_true c7
                clear c7
                obtain rfl := Option.some.inj H
                have p231 : 0 ≤ (x10_1 : Int) := of_decide_eq_true (by first | (with_reducible assumption) | assumption)
                have q231 : x10_1 < (l0.length : Int) := of_decide_eq_true (by first | (with_reducible assumption) | assumption)
                obtain ⟨ad231, e231, hx231_0⟩ := Kd.at_int HR0.out x10_1 p231 q231
                cases e231
                replace p231 := eq_true p231
                replace q231 := eq_true q231
                go_wp2
                go_ret
                exact ⟨by first | rfl | (simp; done) | (simp [*]; done), by repeat (first | exact Drawn0.refl _ | apply Drawn0.step)⟩
              · rw [if_neg c7] at H
                have c7b0 : decide (a1 ≤ (rd l0 x10_1)) = false := decide_eq_false c7
                clear c7
                by_cases c8 : 0 ≤ (rd l0 x10_1)
                · rw [if_pos c8] at H
                  have c8b0 := eq_true c8
                  have c8b1 : decide (0 ≤ (rd l0 x10_1)) = true := decide_eq_true c8
                  clear c8
                  obtain ⟨ji9, hji9⟩ : ∃ j_ : Int, (shr .i64 x5_1 (rd l0 x10_1)) = j_ := ⟨_, rfl⟩
                  replace H : (if (Go.bits .and .i64 (ji9) 1) = 1 then (some false) else (lampblackref02_IsOrder.l0 k1 l0 a1 (Go.bits .or .i64 x5_1 (shl .i64 1 (rd l0 x10_1))) l0 (l0.length : Int) (wrap64 (x10_1 + 1)))) = some r := by first | (rw [hji9] at H; exact H) | (simp only [hji9] at H ⊢; exact H)
                  have hji9_ : (x5_1 / 2 ^ min (rd l0 x10_1).toNat 64) = ji9 := hji9
                  have hji9z : (rd l0 x10_1) ≤ 64 → (x5_1 / 2 ^ (rd l0 x10_1).toNat) = ji9 := shr_small hji9
                  by_cases c10 : (Go.bits .and .i64 (ji9) 1) = 1
                  · rw [if_pos c10] at H
                    have c10b0 : ((Go.bits .and .i64 (ji9) 1) == 1) = true := beq_iff_eq.mpr c10
                    have c10b1 : ((Go.bits .and .i64 (ji9) 1) != 1) = false := bne_eq_false_iff_eq.mpr c10
                    clear c10
                    obtain rfl := Option.some.inj H
                    have p231 : 0 ≤ (x10_1 : Int) := of_decide_eq_true (by first | (with_reducible assumption) | assumption)
                    have q231 : x10_1 < (l0.length : Int) := of_decide_eq_true (by first | (with_reducible assumption) | assumption)
                    obtain ⟨ad231, e231, hx231_0⟩ := Kd.at_int HR0.out x10_1 p231 q231
                    cases e231
                    replace p231 := eq_true p231
                    replace q231 := eq_true q231
                    go_wp2
                    go_ret
                    exact ⟨by first | rfl | (simp; done) | (simp only [← hji9] <;> (first | rfl | simp)) | (simp [*]; done), by repeat (first | exact Drawn0.refl _ | apply Drawn0.step)⟩
                  · rw [if_neg c10] at H
                    have c10b0 : ((Go.bits .and .i64 (ji9) 1) == 1) = false := beq_eq_false_iff_ne.mpr c10
                    have c10b1 : ((Go.bits .and .i64 (ji9) 1) != 1) = true := bne_iff_ne.mpr c10
                    have c11b0 := eq_true (of_decide_eq_true (by first | (with_reducible assumption) | assumption) : 0 ≤ (rd l0 x10_1))
                    obtain ⟨ji12, hji12⟩ : ∃ j_ : Int, (shl .i64 1 (rd l0 x10_1)) = j_ := ⟨_, rfl⟩
                    replace H : (lampblackref02_IsOrder.l0 k1 l0 a1 (Go.bits .or .i64 x5_1 (ji12)) l0 (l0.length : Int) (wrap64 (x10_1 + 1))) = some r := by first | (rw [hji12] at H; exact H) | (simp only [hji12] at H ⊢; exact H)
                    have hji12_ : (IntKind.i64.wrap (1 * 2 ^ min (rd l0 x10_1).toNat 64)) = ji12 := hji12
                    have hji12z : (rd l0 x10_1) ≤ 64 → (IntKind.i64.wrap (1 * 2 ^ (rd l0 x10_1).toNat)) = ji12 := shl_small hji12
                    have hji12u : (IntKind.i64.wrap (2 ^ min (rd l0 x10_1).toNat 64)) = ji12 := by have h_ := hji12_; rw [Int.one_mul] at h_; exact h_
                    have hji12v : (rd l0 x10_1) ≤ 64 → (IntKind.i64.wrap (2 ^ (rd l0 x10_1).toNat)) = ji12 := fun hle_ => by have h_ := hji12z hle_; rw [Int.one_mul] at h_; exact h_
                    have hji12y : (wrap64 (1 * 2 ^ min (rd l0 x10_1).toNat 64)) = ji12 := (i64_w _).symm.trans hji12_
                    have hji12x : (rd l0 x10_1) ≤ 64 → (wrap64 (1 * 2 ^ (rd l0 x10_1).toNat)) = ji12 := fun h_ => (i64_w _).symm.trans (hji12z h_)
                    have H' := Aside0.mk H
                    clear H
                    have p231 : 0 ≤ (x10_1 : Int) := of_decide_eq_true (by first | (with_reducible assumption) | assumption)
                    have q231 : x10_1 < (l0.length : Int) := of_decide_eq_true (by first | (with_reducible assumption) | assumption)
                    obtain ⟨ad231, e231, hx231_0⟩ := Kd.at_int HR0.out x10_1 p231 q231
                    cases e231
                    replace p231 := eq_true p231
                    replace q231 := eq_true q231
                    go_wp2
                    go_roundg k1
                    case measure => have := HK1.out; omega
                    case rel => exact ⟨(Go.bits .or .i64 x5_1 (ji12)), (wrap64 (x10_1 + 1)), (by first | rfl | (simp; done) | (simp only [← hji12] <;> (first | rfl | simp)) | (simp [*]; done)), (by first | rfl | (simp; done) | (simp [*]; done)), H', ⟨by have := HK1.out; omega⟩, by repeat (first | exact Drawn0.refl _ | apply Drawn0.step)⟩
                · rw [if_neg c8] at H
                  exact absurd H (by simp)
          · rw [if_neg c5] at H
            exact absurd H (by simp)
        · rw [if_neg c4] at H
          exact absurd H (by simp)
      · rw [if_neg c3] at H
        have c3b0 : decide (x10_1 < (l0.length : Int)) = false := decide_eq_false c3
        clear c3
        obtain rfl := Option.some.inj H
        go_wp2
        go_ret
        exact ⟨by first | rfl | (simp; done) | (simp [*]; done), by repeat (first | exact Drawn0.refl _ | apply Drawn0.step)⟩

end Go.Proofs.YtijfddobandcdaaDoor.X
end
section
-- by ownprint.py (wip/tool), over the kit's print
namespace Go.Proofs.YtijfddobandcdaaDoor.X
open Go.RowKit Go.Proofs.YtijfddobandcdaaDoorW.PrintWords Go.Proofs.YtijfddobandcdaaDoorW.PrintLast Go.Proofs.YtijfddobandcdaaDoorW.PrintMore
attribute [local go_sem] max2_int min2_int max_two min_two max_three min_three max_four min_four
set_option linter.unusedVariables false
set_option linter.unusedSimpArgs false

/-! ### lampblackref03_Border: function 59 -/
def lampblackref03_Border.l0 : Nat → List Int → Int → Int → Int → Int → Option (Int)
  | 0, _, _, _, _, _ => none
  | k + 1, x0, x1, x5, x8, x9 => if x9 < x8 then (if 0 ≤ x9 then (if (Go.bits .and .i64 (shr .i64 x1 x9) 1) = 1 then (if x9 < (x0.length : Int) then (if (Go.bits .andNot .i64 (rd x0 x9) x1) = 0 then (lampblackref03_Border.l0 k x0 x1 x5 x8 (wrap64 (x9 + 1))) else (lampblackref03_Border.l0 k x0 x1 (Go.bits .or .i64 x5 (shl .i64 1 x9)) x8 (wrap64 (x9 + 1)))) else (none)) else (lampblackref03_Border.l0 k x0 x1 x5 x8 (wrap64 (x9 + 1)))) else (none)) else (some x5)
def lampblackref03_Border.f (k : Nat) (l0 : List Int) (a1 : Int) : Option (Int) := lampblackref03_Border.l0 k l0 a1 0 (l0.length : Int) 0
theorem lampblackref03_Border.mono_l : ∀ k, (∀ y0 y1 y2 y3 y4, LeO (lampblackref03_Border.l0 k y0 y1 y2 y3 y4) (lampblackref03_Border.l0 (k + 1) y0 y1 y2 y3 y4))
  | 0 => fun _ _ _ _ _ r h => by simp [lampblackref03_Border.l0] at h
  | k + 1 => by
    have ih0 := lampblackref03_Border.mono_l k
    · intro y0 y1 y2 y3 y4
      unfold lampblackref03_Border.l0
      repeat' first
      | (with_reducible exact ih0 _ _ _ _ _)
      | (with_reducible exact LeO.refl _)
      | (with_reducible exact LeO.none _)
      | (with_reducible refine LeO.ite ?_ ?_)
      | (with_reducible refine LeO.bind ?_ (fun _ => ?_))
      | exact ih0 _ _ _ _ _
      | exact LeO.none _
      | refine LeO.ite ?_ ?_
      | refine LeO.bind ?_ (fun _ => ?_)
theorem lampblackref03_Border.mono : ∀ a0 a1 k, LeO (lampblackref03_Border.f k a0 a1) (lampblackref03_Border.f (k + 1) a0 a1) := by
  intro a0 a1 k
  have ih0 := lampblackref03_Border.mono_l k
  unfold lampblackref03_Border.f
  repeat' first
      | (with_reducible exact ih0 _ _ _ _ _)
      | (with_reducible exact LeO.refl _)
      | (with_reducible exact LeO.none _)
      | (with_reducible refine LeO.ite ?_ ?_)
      | (with_reducible refine LeO.bind ?_ (fun _ => ?_))
      | exact ih0 _ _ _ _ _
      | exact LeO.none _
      | refine LeO.ite ?_ ?_
      | refine LeO.bind ?_ (fun _ => ?_)
set_option maxHeartbeats 8000000 in
set_option maxRecDepth 100000 in
theorem lampblackref03_Border.calls (k : Nat) (A0 : Option Addr) (c0 : Nat) (l0 : List Int) (a1 : Int) (r : Int) (w : World) (hr0 : Kd.C (Kd.int .i64) w A0 l0.length l0) (hc0 : l0.length ≤ c0) (h : lampblackref03_Border.f k l0 a1 = some r) :
    Calls Tryd.prog 59 #[.slice A0 l0.length c0, .int .i64 a1] w fun e w' => e = .returned (.int .i64 r) ∧ Drawn0 w w' := by
  have HR0 := Aside0.mk hr0
  have HC0 := Aside0.mk hc0
  clear hr0 hc0
  have H : (lampblackref03_Border.l0 k l0 a1 0 (l0.length : Int) 0) = some r := h
  clear h
  have H' := Aside0.mk H
  clear H
  go_enter Tryd.func59, Tryd.ntmps59
  go_wp2
  go_loopg [5, 9] k (fun kq v5 v9 w' => ∃ (x5_1 : Int) (x9_1 : Int), v5 = .int .i64 x5_1 ∧ v9 = .int .i64 x9_1 ∧ Aside0 (lampblackref03_Border.l0 kq l0 a1 x5_1 (l0.length : Int) x9_1 = some r) ∧ Aside0 (kq ≤ k) ∧ Drawn0 w w')
  case atStart => exact ⟨(0), (0), (by first | rfl | (simp; done) | (simp [*]; done)), (by first | rfl | (simp; done) | (simp [*]; done)), H', ⟨Nat.le_refl _⟩, by repeat (first | exact Drawn0.refl _ | apply Drawn0.step)⟩
  case round =>
    clear H'
    try clear p2
    obtain ⟨x5_1, x9_1, rfl, rfl, HA, HK1, ⟨m1, rfl⟩⟩ := hrel
    cases gk with
    | zero => exact absurd HA.out (by simp [lampblackref03_Border.l0])
    | succ k1 =>
      have H := HA.out
      clear HA
      simp only [lampblackref03_Border.l0] at H
      by_cases c3 : x9_1 < (l0.length : Int)
      · rw [if_pos c3] at H
        have c3b0 : decide (x9_1 < (l0.length : Int)) = true := decide_eq_true c3
        clear c3
        by_cases c4 : 0 ≤ x9_1
        · rw [if_pos c4] at H
          have c4b0 := eq_true c4
          have c4b1 : decide (0 ≤ x9_1) = true := decide_eq_true c4
          clear c4
          obtain ⟨ji5, hji5⟩ : ∃ j_ : Int, (shr .i64 a1 x9_1) = j_ := ⟨_, rfl⟩
          replace H : (if (Go.bits .and .i64 (ji5) 1) = 1 then (if x9_1 < (l0.length : Int) then (if (Go.bits .andNot .i64 (rd l0 x9_1) a1) = 0 then (lampblackref03_Border.l0 k1 l0 a1 x5_1 (l0.length : Int) (wrap64 (x9_1 + 1))) else (lampblackref03_Border.l0 k1 l0 a1 (Go.bits .or .i64 x5_1 (shl .i64 1 x9_1)) (l0.length : Int) (wrap64 (x9_1 + 1)))) else (none)) else (lampblackref03_Border.l0 k1 l0 a1 x5_1 (l0.length : Int) (wrap64 (x9_1 + 1)))) = some r := by first | (rw [hji5] at H; exact H) | (simp only [hji5] at H ⊢; exact H)
          have hji5_ : (a1 / 2 ^ min x9_1.toNat 64) = ji5 := hji5
          have hji5z : x9_1 ≤ 64 → (a1 / 2 ^ x9_1.toNat) = ji5 := shr_small hji5
          by_cases c6 : (Go.bits .and .i64 (ji5) 1) = 1
          · rw [if_pos c6] at H
            have c6b0 : ((Go.bits .and .i64 (ji5) 1) == 1) = true := beq_iff_eq.mpr c6
            have c6b1 : ((Go.bits .and .i64 (ji5) 1) != 1) = false := bne_eq_false_iff_eq.mpr c6
            clear c6
            by_cases c7 : x9_1 < (l0.length : Int)
            · rw [if_pos c7] at H
              have c7b0 : decide (x9_1 < (l0.length : Int)) = true := decide_eq_true c7
              clear c7
              by_cases c8 : (Go.bits .andNot .i64 (rd l0 x9_1) a1) = 0
              · rw [if_pos c8] at H
                have c8b0 : ((Go.bits .andNot .i64 (rd l0 x9_1) a1) == 0) = true := beq_iff_eq.mpr c8
                have c8b1 : ((Go.bits .andNot .i64 (rd l0 x9_1) a1) != 0) = false := bne_eq_false_iff_eq.mpr c8
                clear c8
                have H' := Aside0.mk H
                clear H
                have p136 : 0 ≤ (x9_1 : Int) := of_decide_eq_true (by first | (with_reducible assumption) | assumption)
                have q136 : x9_1 < (l0.length : Int) := of_decide_eq_true (by first | (with_reducible assumption) | assumption)
                obtain ⟨ad136, e136, hx136_0⟩ := Kd.at_int HR0.out x9_1 p136 q136
                cases e136
                replace p136 := eq_true p136
                replace q136 := eq_true q136
                go_wp2
                go_roundg k1
                case measure => have := HK1.out; omega
                case rel => exact ⟨(x5_1), (wrap64 (x9_1 + 1)), (by first | rfl | (simp; done) | (simp [*]; done)), (by first | rfl | (simp; done) | (simp [*]; done)), H', ⟨by have := HK1.out; omega⟩, by repeat (first | exact Drawn0.refl _ | apply Drawn0.step)⟩
              · rw [if_neg c8] at H
                have c8b0 : ((Go.bits .andNot .i64 (rd l0 x9_1) a1) == 0) = false := beq_eq_false_iff_ne.mpr c8
                have c8b1 : ((Go.bits .andNot .i64 (rd l0 x9_1) a1) != 0) = true := bne_iff_ne.mpr c8
                have c9b0 := eq_true (of_decide_eq_true (by first | (with_reducible assumption) | assumption) : 0 ≤ x9_1)
                obtain ⟨ji10, hji10⟩ : ∃ j_ : Int, (shl .i64 1 x9_1) = j_ := ⟨_, rfl⟩
                replace H : (lampblackref03_Border.l0 k1 l0 a1 (Go.bits .or .i64 x5_1 (ji10)) (l0.length : Int) (wrap64 (x9_1 + 1))) = some r := by first | (rw [hji10] at H; exact H) | (simp only [hji10] at H ⊢; exact H)
                have hji10_ : (IntKind.i64.wrap (1 * 2 ^ min x9_1.toNat 64)) = ji10 := hji10
                have hji10z : x9_1 ≤ 64 → (IntKind.i64.wrap (1 * 2 ^ x9_1.toNat)) = ji10 := shl_small hji10
                have hji10u : (IntKind.i64.wrap (2 ^ min x9_1.toNat 64)) = ji10 := by have h_ := hji10_; rw [Int.one_mul] at h_; exact h_
                have hji10v : x9_1 ≤ 64 → (IntKind.i64.wrap (2 ^ x9_1.toNat)) = ji10 := fun hle_ => by have h_ := hji10z hle_; rw [Int.one_mul] at h_; exact h_
                have hji10y : (wrap64 (1 * 2 ^ min x9_1.toNat 64)) = ji10 := (i64_w _).symm.trans hji10_
                have hji10x : x9_1 ≤ 64 → (wrap64 (1 * 2 ^ x9_1.toNat)) = ji10 := fun h_ => (i64_w _).symm.trans (hji10z h_)
                have H' := Aside0.mk H
                clear H
                have p136 : 0 ≤ (x9_1 : Int) := of_decide_eq_true (by first | (with_reducible assumption) | assumption)
                have q136 : x9_1 < (l0.length : Int) := of_decide_eq_true (by first | (with_reducible assumption) | assumption)
                obtain ⟨ad136, e136, hx136_0⟩ := Kd.at_int HR0.out x9_1 p136 q136
                cases e136
                replace p136 := eq_true p136
                replace q136 := eq_true q136
                go_wp2
                go_roundg k1
                case measure => have := HK1.out; omega
                case rel => exact ⟨(Go.bits .or .i64 x5_1 (ji10)), (wrap64 (x9_1 + 1)), (by first | rfl | (simp; done) | (simp only [← hji10] <;> (first | rfl | simp)) | (simp [*]; done)), (by first | rfl | (simp; done) | (simp [*]; done)), H', ⟨by have := HK1.out; omega⟩, by repeat (first | exact Drawn0.refl _ | apply Drawn0.step)⟩
            · rw [if_neg c7] at H
              exact absurd H (by simp)
          · rw [if_neg c6] at H
            have c6b0 : ((Go.bits .and .i64 (ji5) 1) == 1) = false := beq_eq_false_iff_ne.mpr c6
            have c6b1 : ((Go.bits .and .i64 (ji5) 1) != 1) = true := bne_iff_ne.mpr c6
            have H' := Aside0.mk H
            clear H
            go_wp2
            go_roundg k1
            case measure => have := HK1.out; omega
            case rel => exact ⟨(x5_1), (wrap64 (x9_1 + 1)), (by first | rfl | (simp; done) | (simp [*]; done)), (by first | rfl | (simp; done) | (simp [*]; done)), H', ⟨by have := HK1.out; omega⟩, by repeat (first | exact Drawn0.refl _ | apply Drawn0.step)⟩
        · rw [if_neg c4] at H
          exact absurd H (by simp)
      · rw [if_neg c3] at H
        have c3b0 : decide (x9_1 < (l0.length : Int)) = false := decide_eq_false c3
        clear c3
        obtain rfl := Option.some.inj H
        go_wp2
        go_ret
        exact ⟨by first | rfl | (simp; done) | (simp [*]; done), by repeat (first | exact Drawn0.refl _ | apply Drawn0.step)⟩

end Go.Proofs.YtijfddobandcdaaDoor.X
end
section
-- by ownprint.py (wip/tool), over the kit's print
namespace Go.Proofs.YtijfddobandcdaaDoor.X
open Go.RowKit Go.Proofs.YtijfddobandcdaaDoorW.PrintWords Go.Proofs.YtijfddobandcdaaDoorW.PrintLast Go.Proofs.YtijfddobandcdaaDoorW.PrintMore
attribute [local go_sem] max2_int min2_int max_two min_two max_three min_three max_four min_four
set_option linter.unusedVariables false
set_option linter.unusedSimpArgs false

/-! ### lampblackref03_Bags: function 33 -/
def lampblackref03_Bags.l0 : Nat → List Int → List Int → Int → List Int → Int → Int → Option (List Int)
  | 0, _, _, _, _, _, _ => none
  | k + 1, x0, x5, x6, x9, x10, x11 => if x11 < x10 then (if 0 ≤ x11 then (if x11 < (x9.length : Int) then ((lampblackref03_Border.f k x0 x6).bind fun t259 => (if 0 ≤ (rd x9 x11) then (if x5.length < 17592186044416 then (lampblackref03_Bags.l0 k x0 (x5 ++ [Go.bits .or .i64 t259 (shl .i64 1 (rd x9 x11))]) (Go.bits .or .i64 x6 (shl .i64 1 (rd x9 x11))) x9 x10 (wrap64 (x11 + 1))) else (none)) else (none))) else (none)) else (none)) else (some x5)
def lampblackref03_Bags.f (k : Nat) (l0 : List Int) (l1 : List Int) : Option (List Int) := lampblackref03_Bags.l0 k l0 ([] : List Int) 0 l1 (l1.length : Int) 0
theorem lampblackref03_Bags.mono_l : ∀ k, (∀ y0 y1 y2 y3 y4 y5, LeO (lampblackref03_Bags.l0 k y0 y1 y2 y3 y4 y5) (lampblackref03_Bags.l0 (k + 1) y0 y1 y2 y3 y4 y5))
  | 0 => fun _ _ _ _ _ _ r h => by simp [lampblackref03_Bags.l0] at h
  | k + 1 => by
    have ih0 := lampblackref03_Bags.mono_l k
    · intro y0 y1 y2 y3 y4 y5
      unfold lampblackref03_Bags.l0
      repeat' first
      | (with_reducible exact ih0 _ _ _ _ _ _)
      | (with_reducible exact lampblackref03_Border.mono _ _ _)
      | (with_reducible exact LeO.refl _)
      | (with_reducible exact LeO.none _)
      | (with_reducible refine LeO.ite ?_ ?_)
      | (with_reducible refine LeO.bind ?_ (fun _ => ?_))
      | exact ih0 _ _ _ _ _ _
      | exact lampblackref03_Border.mono _ _ _
      | exact LeO.none _
      | refine LeO.ite ?_ ?_
      | refine LeO.bind ?_ (fun _ => ?_)
theorem lampblackref03_Bags.mono : ∀ a0 a1 k, LeO (lampblackref03_Bags.f k a0 a1) (lampblackref03_Bags.f (k + 1) a0 a1) := by
  intro a0 a1 k
  have ih0 := lampblackref03_Bags.mono_l k
  unfold lampblackref03_Bags.f
  repeat' first
      | (with_reducible exact ih0 _ _ _ _ _ _)
      | (with_reducible exact lampblackref03_Border.mono _ _ _)
      | (with_reducible exact LeO.refl _)
      | (with_reducible exact LeO.none _)
      | (with_reducible refine LeO.ite ?_ ?_)
      | (with_reducible refine LeO.bind ?_ (fun _ => ?_))
      | exact ih0 _ _ _ _ _ _
      | exact lampblackref03_Border.mono _ _ _
      | exact LeO.none _
      | refine LeO.ite ?_ ?_
      | refine LeO.bind ?_ (fun _ => ?_)
def lampblackref03_Bags.T6 : Bool × List (List Nat × List Nat) := (true, [([], []), ([], []), ([], []), ([1, 2], [1, 2]), ([], []), ([4], [4]), ([3, 5], [3, 5]), ([6], [6]), ([0, 7, 3], [0, 7]), ([8, 8, 0, 1, 2, 3, 4, 5, 6, 7, 8], [0, 8])])
def lampblackref03_Bags.B6 : List Nat := [0, 0, 0, 6, 0, 16, 62, 126, 255, 511]
theorem lampblackref03_Bags.tab6 : rtab .any (opsOf Tryd.f33 6) = lampblackref03_Bags.T6 := by kernel_rfl
theorem lampblackref03_Bags.bits6 : waitsOk lampblackref03_Bags.T6.2 lampblackref03_Bags.B6 = true := by kernel_rfl
set_option maxHeartbeats 8000000 in
set_option maxRecDepth 100000 in
theorem lampblackref03_Bags.calls (k : Nat) (A0 : Option Addr) (c0 : Nat) (l0 : List Int) (A1 : Option Addr) (c1 : Nat) (l1 : List Int) (r : List Int) (w : World) (hr0 : Kd.C (Kd.int .i64) w A0 l0.length l0) (hc0 : l0.length ≤ c0) (hr1 : Kd.C (Kd.int .i64) w A1 l1.length l1) (hc1 : l1.length ≤ c1) (h : lampblackref03_Bags.f k l0 l1 = some r) :
    Calls Tryd.prog 33 #[.slice A0 l0.length c0, .slice A1 l1.length c1] w fun e w' => ∃ v0_ : Value, e = .returned (v0_) ∧ Kd.R (Kd.int .i64) 3 w' w.heap.size (fun _ => True) v0_ r ∧ Below w.heap.size w w' := by
  have HR0 := Aside0.mk hr0
  have HC0 := Aside0.mk hc0
  clear hr0 hc0
  have HR1 := Aside0.mk hr1
  have HC1 := Aside0.mk hc1
  clear hr1 hc1
  have HB := Aside0.mk (Below.refl w.heap.size w)
  have H : (lampblackref03_Bags.l0 k l0 ([] : List Int) 0 l1 (l1.length : Int) 0) = some r := h
  clear h
  have H' := Aside0.mk H
  clear H
  go_enter Tryd.func33, Tryd.ntmps33
  go_wp2
  go_loopg [5, 6, 11] k (fun kq v5 v6 v11 w' => ∃ (x5_1 : List Int) (x6_1 : Int) (x11_1 : Int), v6 = .int .i64 x6_1 ∧ v11 = .int .i64 x11_1 ∧ Aside0 (lampblackref03_Bags.l0 kq l0 x5_1 x6_1 l1 (l1.length : Int) x11_1 = some r) ∧ Aside0 (kq ≤ k) ∧ Aside0 (Kd.R (Kd.int .i64) 3 w' w.heap.size (fun _ => True) v5 x5_1) ∧ Aside0 (Below w.heap.size w w'))
  case atStart => exact ⟨(([] : List Int)), (0), (0), (by first | rfl | (simp; done) | (simp [*]; done)), (by first | rfl | (simp; done) | (simp [*]; done)), H', ⟨Nat.le_refl _⟩, ⟨by first | exact Kd.R_nil _ _ _ _ _ | exact Kd.N_nil _ _ _ _ _ | exact Kd.V_nil _ _ _ _ _ | exact Kd.Q_nil _ _ _ _ _ | exact Kd.S_nil _ _ _ _ _⟩, ⟨by repeat (first | (with_reducible first | exact HB.out | apply below_alloc | apply pw_below_drewN | apply below_drew1) | exact HB.out)⟩⟩
  case round =>
    clear H'
    try clear c1
    try clear p2
    obtain ⟨x5_1, x6_1, x11_1, rfl, rfl, HA, HK1, HO_5, HB⟩ := hrel
    cases gk with
    | zero => exact absurd HA.out (by simp [lampblackref03_Bags.l0])
    | succ k1 =>
      have H := HA.out
      clear HA
      simp only [lampblackref03_Bags.l0] at H
      by_cases c3 : x11_1 < (l1.length : Int)
      · rw [if_pos c3] at H
        have c3b0 : decide (x11_1 < (l1.length : Int)) = true := decide_eq_true c3
        clear c3
        by_cases c4 : 0 ≤ x11_1
        · rw [if_pos c4] at H
          have c4b0 : decide (0 ≤ x11_1) = true := decide_eq_true c4
          clear c4
          by_cases c5 : x11_1 < (l1.length : Int)
          · rw [if_pos c5] at H
            have c5b0 : decide (x11_1 < (l1.length : Int)) = true := decide_eq_true c5
            clear c5
            replace H := Option.bind_eq_some_iff.mp H
            obtain ⟨t259, A60, H⟩ := H
            replace H : (if 0 ≤ (rd l1 x11_1) then (if x5_1.length < 17592186044416 then (lampblackref03_Bags.l0 k1 l0 (x5_1 ++ [Go.bits .or .i64 t259 (shl .i64 1 (rd l1 x11_1))]) (Go.bits .or .i64 x6_1 (shl .i64 1 (rd l1 x11_1))) l1 (l1.length : Int) (wrap64 (x11_1 + 1))) else (none)) else (none)) = some r := H
            have A6 := Aside0.mk A60
            clear A60
            by_cases c7 : 0 ≤ (rd l1 x11_1)
            · rw [if_pos c7] at H
              have c7b0 := eq_true c7
              have c7b1 : decide (0 ≤ (rd l1 x11_1)) = true := decide_eq_true c7
              clear c7
              obtain ⟨ji8, hji8⟩ : ∃ j_ : Int, (shl .i64 1 (rd l1 x11_1)) = j_ := ⟨_, rfl⟩
              replace H : (if x5_1.length < 17592186044416 then (lampblackref03_Bags.l0 k1 l0 (x5_1 ++ [Go.bits .or .i64 t259 (ji8)]) (Go.bits .or .i64 x6_1 (ji8)) l1 (l1.length : Int) (wrap64 (x11_1 + 1))) else (none)) = some r := by first | (rw [hji8] at H; exact H) | (simp only [hji8] at H ⊢; exact H)
              (try rw [hji8] at A6)
              have hji8_ : (IntKind.i64.wrap (1 * 2 ^ min (rd l1 x11_1).toNat 64)) = ji8 := hji8
              have hji8z : (rd l1 x11_1) ≤ 64 → (IntKind.i64.wrap (1 * 2 ^ (rd l1 x11_1).toNat)) = ji8 := shl_small hji8
              have hji8u : (IntKind.i64.wrap (2 ^ min (rd l1 x11_1).toNat 64)) = ji8 := by have h_ := hji8_; rw [Int.one_mul] at h_; exact h_
              have hji8v : (rd l1 x11_1) ≤ 64 → (IntKind.i64.wrap (2 ^ (rd l1 x11_1).toNat)) = ji8 := fun hle_ => by have h_ := hji8z hle_; rw [Int.one_mul] at h_; exact h_
              have hji8y : (wrap64 (1 * 2 ^ min (rd l1 x11_1).toNat 64)) = ji8 := (i64_w _).symm.trans hji8_
              have hji8x : (rd l1 x11_1) ≤ 64 → (wrap64 (1 * 2 ^ (rd l1 x11_1).toNat)) = ji8 := fun h_ => (i64_w _).symm.trans (hji8z h_)
              by_cases c9 : x5_1.length < 17592186044416
              · rw [if_pos c9] at H
                have LMc9 := Aside0.mk c9
                clear c9
                obtain ⟨y260, hy260⟩ : ∃ y_ : List Int, y_ = (x5_1 ++ [Go.bits .or .i64 t259 (ji8)]) := ⟨_, rfl⟩
                replace H : (lampblackref03_Bags.l0 k1 l0 y260 (Go.bits .or .i64 x6_1 (ji8)) l1 (l1.length : Int) (wrap64 (x11_1 + 1))) = some r := by first | (rw [hy260]; with_reducible exact H) | (have H2_ := (Option.bind_some _ _).symm.trans H; rw [hy260]; with_reducible exact H2_) | (have H2_ := (Option.bind_some _ _).symm.trans H; with_reducible exact H2_) | with_reducible exact H | (rw [hy260]; exact H) | exact H
                have Ny260 := Aside0.mk hy260
                clear hy260
                have c10b0 := eq_true (of_decide_eq_true (by first | (with_reducible assumption) | assumption) : 0 ≤ (rd l1 x11_1))
                have H' := Aside0.mk H
                clear H
                have p258 : 0 ≤ (x11_1 : Int) := of_decide_eq_true (by first | (with_reducible assumption) | assumption)
                have q258 : x11_1 < (l1.length : Int) := of_decide_eq_true (by first | (with_reducible assumption) | assumption)
                obtain ⟨ad258, e258, hx258_0⟩ := Kd.at_int HR1.out x11_1 p258 q258
                cases e258
                replace hx258_0 := (HB.out.cell (World.block_lt_of_cell? w _ hx258_0)).trans hx258_0
                replace p258 := eq_true p258
                replace q258 := eq_true q258
                try go_wp2
                have n0_ := Aside0.mk (Kd.R_drew HO_5.out)
                have n1_ := Aside0.mk (below_drew1 HB.out)
                clear HO_5
                clear HB
                have HO_5 := n0_
                have HB := n1_
                clear n0_ n1_
                refine start_ (n := 10) (S := fun w' => True) (ds := []) #[false, false, false, false, false, false, false, false, false, false] (by kernel_rfl) rfl rfl trivial (fun hHeld => ?_); refine with_tabW lampblackref03_Bags.tab6 lampblackref03_Bags.bits6 (fun HT_ HW_ => ?_)
                generalize wr.drew = w11 at HO_5 HB hHeld ⊢
                refine pure_ (i := 0) (N := some 15) (v := ?_) (a' := ?_) #[true, false, false, false, false, false, false, false, false, false] rfl rfl (any_of HT_.out (by kernel_rfl)) (fun _ _ _ h => h) (Or.inl ⟨by rfl, ?_⟩) ?_ ?_
                rotate_left
                · intro w'
                  go_simp
                  with_reducible rfl
                rotate_left
                · simp only [Act.put, List.setIfInBounds_toArray, List.set_cons_zero, List.set_cons_succ, i64_w, i32_w]
                  rfl
                refine pure_ (i := 1) (N := some 16) (v := ?_) (a' := ?_) #[true, true, false, false, false, false, false, false, false, false] rfl rfl (any_of HT_.out (by kernel_rfl)) (fun _ _ _ h => h) (Or.inl ⟨by rfl, ?_⟩) ?_ ?_
                rotate_left
                · intro w'
                  go_simp
                  with_reducible rfl
                rotate_left
                · simp only [Act.put, List.setIfInBounds_toArray, List.set_cons_zero, List.set_cons_succ, i64_w, i32_w]
                  rfl
                refine pure_ (i := 2) (N := some 17) (v := ?_) (a' := ?_) #[true, true, true, false, false, false, false, false, false, false] rfl rfl (any_of HT_.out (by kernel_rfl)) (fun _ _ _ h => h) (Or.inl ⟨by rfl, ?_⟩) ?_ ?_
                rotate_left
                · intro w'
                  go_simp
                  with_reducible rfl
                rotate_left
                · simp only [Act.put, List.setIfInBounds_toArray, List.set_cons_zero, List.set_cons_succ, i64_w, i32_w]
                  rfl
                refine pure_ (i := 4) (N := some 19) (v := ?_) (a' := ?_) #[true, true, true, false, true, false, false, false, false, false] rfl rfl (any_of HT_.out (by kernel_rfl)) (fun _ _ _ h => h) (Or.inl ⟨by rfl, ?_⟩) ?_ ?_
                rotate_left
                · intro w'
                  go_simp
                  with_reducible rfl
                rotate_left
                · simp only [Act.put, List.setIfInBounds_toArray, List.set_cons_zero, List.set_cons_succ, i64_w, i32_w]
                  rfl
                refine pure_ (i := 5) (N := some 20) (v := ?_) (a' := ?_) #[true, true, true, false, true, true, false, false, false, false] rfl rfl (any_of HT_.out (by kernel_rfl)) (fun _ _ _ h => h) (Or.inl ⟨by rfl, ?_⟩) ?_ ?_
                rotate_left
                · intro w'
                  go_simp
                  with_reducible rfl
                rotate_left
                · simp only [Act.put, List.setIfInBounds_toArray, List.set_cons_zero, List.set_cons_succ, i64_w, i32_w]
                  rfl
                refine one_ (i := 3) (N := some 18) #[true, true, true, true, true, true, false, false, false, false] rfl rfl (one_of HT_.out (by kernel_rfl)) (by decide) (fun K hK => ?_)
                refine goes_ Tryd.func59 (by kernel_rfl) rfl #[.slice A0 l0.length c0, .int .i64 x6_1] (by rfl) rfl rfl (by (try simp only [List.map_toArray, List.map_cons, List.map_nil]); first | done | rfl | (simp only [List.length_drop, List.length_take]; rfl)) ?_
                with_reducible refine (lampblackref03_Border.calls k1 _ _ l0 x6_1 t259 _ ?side1 ?side2 A6.out).mono ?_
                (case side1 => repeat (first | exact (Kd.C_below HR0.out HB.out) | (with_reducible refine Kd.C_alloc ?_ _) | (with_reducible refine Kd.C_drewN ?_ _) | (with_reducible refine Kd.C_drew ?_)))
                (case side2 => exact HC0.out)
                rintro e w' ⟨rfl, ⟨nd, rfl⟩⟩
                refine ⟨_, rfl, ?_⟩
                refine hK.out _ _ trivial (fun hHeld => ?_)
                clear hK K
                refine norm_ (a' := ?_) ?_ ?_
                rotate_left
                · show Act.put _ (some 18) _ = _
                  simp only [Act.put, List.setIfInBounds_toArray, List.set_cons_zero, List.set_cons_succ, i64_w, i32_w]
                  rfl
                refine pure_ (i := 6) (N := some 21) (v := ?_) (a' := ?_) #[true, true, true, true, true, true, true, false, false, false] rfl rfl (any_of HT_.out (by kernel_rfl)) (fun _ _ _ h => h) (Or.inl ⟨by rfl, ?_⟩) ?_ ?_
                rotate_left
                · intro w'
                  go_simp
                  with_reducible rfl
                rotate_left
                · simp only [Act.put, List.setIfInBounds_toArray, List.set_cons_zero, List.set_cons_succ, i64_w, i32_w]
                  rfl
                refine one_ (i := 7) (N := some 22) #[true, true, true, true, true, true, true, true, false, false] rfl rfl (one_of HT_.out (by kernel_rfl)) (by decide) (fun K hK => ?_)
                refine value_ (w1 := ?_) (v := ?_) (by rfl) rfl ?_ ?_
                rotate_left 2
                · go_simp
                  constructor
                  · rfl
                  · rfl
                refine hK.out _ _ trivial (fun hHeld => ?_)
                clear hK K
                refine norm_ (a' := ?_) ?_ ?_
                rotate_left
                · show Act.put _ (some 22) _ = _
                  simp only [Act.put, List.setIfInBounds_toArray, List.set_cons_zero, List.set_cons_succ, i64_w, i32_w]
                  rfl
                refine one_ (i := 8) (N := some 23) #[true, true, true, true, true, true, true, true, true, false] rfl rfl (one_of HT_.out (by kernel_rfl)) (by decide) (fun K hK => ?_)
                refine Kd.R_append_step (Kd.int .i64) (w0 := w) w.heap.size (by rfl) (.tmp 15) (.tmp 22) 22 3 (.int .i64 0) 8 rfl Tryd.underlying22 info3 rfl (by decide) (by omega) u5 x5_1 (Go.bits .or .i64 t259 (ji8)) [.int .i64 (Go.bits .or .i64 t259 (ji8))] (fun _ => True) (fun _ => False) rfl rfl ?aP (fun _ hk => hk.elim) ?aF ?aO ?aB ?aS ?aL ?_
                (case aP => exact rfl)
                (case aB => exact (by repeat (first | (with_reducible first | exact HB.out | apply below_alloc | apply pw_below_drewN | apply below_drew1) | exact HB.out)))
                (case aF => exact (fun _ _ => trivial))
                (case aO => exact (by (with_reducible repeat (first | apply Kd.R_alloc | apply Kd.R_drewN | apply Kd.R_drew)); exact HO_5.out))
                (case aS => exact (below_size (by repeat (first | (with_reducible first | exact HB.out | apply below_alloc | apply pw_below_drewN | apply below_drew1) | exact HB.out))))
                (case aL => have := LMc9.out; omega)
                intro v261 w12 ho hb hg hat
                rw [← Ny260.out] at ho
                have n0_ := Aside0.mk (hb)
                have n1_ := Aside0.mk (ho)
                clear HB
                clear HO_5
                have HB := n0_
                have HO262 := n1_
                clear n0_ n1_
                clear ho hb hg hat
                refine hK.out _ _ trivial (fun hHeld => ?_)
                clear hK K
                refine norm_ (a' := ?_) ?_ ?_
                rotate_left
                · show Act.put _ (some 23) _ = _
                  simp only [Act.put, List.setIfInBounds_toArray, List.set_cons_zero, List.set_cons_succ, i64_w, i32_w]
                  rfl
                refine pure_ (i := 9) (N := some 5) (v := ?_) (a' := ?_) #[true, true, true, true, true, true, true, true, true, true] rfl rfl (any_of HT_.out (by kernel_rfl)) (fun _ _ _ h => h) (Or.inl ⟨by rfl, ?_⟩) ?_ ?_
                rotate_left
                · intro w'
                  go_simp
                  with_reducible rfl
                rotate_left
                · simp only [Act.put, List.setIfInBounds_toArray, List.set_cons_zero, List.set_cons_succ, i64_w, i32_w]
                  rfl
                refine done_ (done_of HT_.out (by kernel_rfl)) ?_
                try go_wp2
                go_roundg k1
                case measure => have := HK1.out; omega
                case rel => exact ⟨(y260), (Go.bits .or .i64 x6_1 (ji8)), (wrap64 (x11_1 + 1)), (by first | rfl | (simp; done) | (simp only [← hji8] <;> (first | rfl | simp)) | (simp [*]; done)), (by first | rfl | (simp; done) | (simp [*]; done)), H', ⟨by have := HK1.out; omega⟩, ⟨by (with_reducible repeat (first | apply Kd.R_alloc | apply Kd.R_drewN | apply Kd.R_drew)); exact HO262.out⟩, ⟨by repeat (first | (with_reducible first | exact HB.out | apply below_alloc | apply pw_below_drewN | apply below_drew1) | exact HB.out)⟩⟩
              · rw [if_neg c9] at H
                exact absurd H (by simp)
            · rw [if_neg c7] at H
              exact absurd H (by simp)
          · rw [if_neg c5] at H
            exact absurd H (by simp)
        · rw [if_neg c4] at H
          exact absurd H (by simp)
      · rw [if_neg c3] at H
        have c3b0 : decide (x11_1 < (l1.length : Int)) = false := decide_eq_false c3
        clear c3
        obtain rfl := Option.some.inj H
        go_wp2
        go_ret
        exact ⟨_, by first | rfl | (simp [errW_none, errW_some] <;> rfl) | (simp [*, errW_none, errW_some] <;> rfl), by (with_reducible repeat (first | apply Kd.R_alloc | apply Kd.R_drewN | apply Kd.R_drew)); exact HO_5.out, by repeat (first | (with_reducible first | exact HB.out | apply below_alloc | apply pw_below_drewN | apply below_drew1) | exact HB.out)⟩

end Go.Proofs.YtijfddobandcdaaDoor.X
end
section
-- by ownprint.py (wip/tool), over the kit's print
namespace Go.Proofs.YtijfddobandcdaaDoor.X
open Go.RowKit Go.Proofs.YtijfddobandcdaaDoorW.PrintWords Go.Proofs.YtijfddobandcdaaDoorW.PrintLast Go.Proofs.YtijfddobandcdaaDoorW.PrintMore
attribute [local go_sem] max2_int min2_int max_two min_two max_three min_three max_four min_four
set_option linter.unusedVariables false
set_option linter.unusedSimpArgs false

/-! ### slices_Equal_int_int: function 29 -/
def slices_Equal_int_int.l0 : Nat → List Int → List Int → Int → Int → Option (Bool)
  | 0, _, _, _, _ => none
  | k + 1, x0, x1, x12, x13 => if x13 < x12 then (if 0 ≤ x13 then (if x13 < (x0.length : Int) then (if x13 < (x1.length : Int) then (if (rd x0 x13) = (rd x1 x13) then (slices_Equal_int_int.l0 k x0 x1 x12 (wrap64 (x13 + 1))) else (some false)) else (none)) else (none)) else (none)) else (some true)
def slices_Equal_int_int.f (k : Nat) (l0 : List Int) (l1 : List Int) : Option (Bool) := if (l0.length : Int) = (l1.length : Int) then (slices_Equal_int_int.l0 k l0 l1 (l0.length : Int) 0) else (some false)
theorem slices_Equal_int_int.mono_l : ∀ k, (∀ y0 y1 y2 y3, LeO (slices_Equal_int_int.l0 k y0 y1 y2 y3) (slices_Equal_int_int.l0 (k + 1) y0 y1 y2 y3))
  | 0 => fun _ _ _ _ r h => by simp [slices_Equal_int_int.l0] at h
  | k + 1 => by
    have ih0 := slices_Equal_int_int.mono_l k
    · intro y0 y1 y2 y3
      unfold slices_Equal_int_int.l0
      repeat' first
      | (with_reducible exact ih0 _ _ _ _)
      | (with_reducible exact LeO.refl _)
      | (with_reducible exact LeO.none _)
      | (with_reducible refine LeO.ite ?_ ?_)
      | (with_reducible refine LeO.bind ?_ (fun _ => ?_))
      | exact ih0 _ _ _ _
      | exact LeO.none _
      | refine LeO.ite ?_ ?_
      | refine LeO.bind ?_ (fun _ => ?_)
theorem slices_Equal_int_int.mono : ∀ a0 a1 k, LeO (slices_Equal_int_int.f k a0 a1) (slices_Equal_int_int.f (k + 1) a0 a1) := by
  intro a0 a1 k
  have ih0 := slices_Equal_int_int.mono_l k
  unfold slices_Equal_int_int.f
  repeat' first
      | (with_reducible exact ih0 _ _ _ _)
      | (with_reducible exact LeO.refl _)
      | (with_reducible exact LeO.none _)
      | (with_reducible refine LeO.ite ?_ ?_)
      | (with_reducible refine LeO.bind ?_ (fun _ => ?_))
      | exact ih0 _ _ _ _
      | exact LeO.none _
      | refine LeO.ite ?_ ?_
      | refine LeO.bind ?_ (fun _ => ?_)
set_option maxHeartbeats 8000000 in
set_option maxRecDepth 100000 in
theorem slices_Equal_int_int.calls (k : Nat) (A0 : Option Addr) (c0 : Nat) (l0 : List Int) (A1 : Option Addr) (c1 : Nat) (l1 : List Int) (r : Bool) (w : World) (hr0 : Kd.C (Kd.int .i64) w A0 l0.length l0) (hc0 : l0.length ≤ c0) (hr1 : Kd.C (Kd.int .i64) w A1 l1.length l1) (hc1 : l1.length ≤ c1) (h : slices_Equal_int_int.f k l0 l1 = some r) :
    Calls Tryd.prog 29 #[.slice A0 l0.length c0, .slice A1 l1.length c1] w fun e w' => e = .returned (.bool r) ∧ Drawn0 w w' := by
  have HR0 := Aside0.mk hr0
  have HC0 := Aside0.mk hc0
  clear hr0 hc0
  have HR1 := Aside0.mk hr1
  have HC1 := Aside0.mk hc1
  clear hr1 hc1
  have H : (if (l0.length : Int) = (l1.length : Int) then (slices_Equal_int_int.l0 k l0 l1 (l0.length : Int) 0) else (some false)) = some r := h
  clear h
  by_cases c3 : (l0.length : Int) = (l1.length : Int)
  · rw [if_pos c3] at H
    have c3b0 : ((l0.length : Int) == (l1.length : Int)) = true := beq_iff_eq.mpr c3
    have c3b1 : ((l0.length : Int) != (l1.length : Int)) = false := bne_eq_false_iff_eq.mpr c3
    have c3b2 : (l0.length == l1.length) = true := by first | simpa using c3 | (simp at c3 ⊢; omega)
    clear c3
    have H' := Aside0.mk H
    clear H
    go_enter Tryd.func29, Tryd.ntmps29
    go_wp2
    repeat (go_quiet (fail); try go_wp2)
    go_loopg [13] k (fun kq v13 w' => ∃ (x13_1 : Int), v13 = .int .i64 x13_1 ∧ Aside0 (slices_Equal_int_int.l0 kq l0 l1 (l0.length : Int) x13_1 = some r) ∧ Aside0 (kq ≤ k) ∧ Drawn0 w w')
    case atStart => exact ⟨(0), (by first | rfl | (simp; done) | (simp [*]; done)), H', ⟨Nat.le_refl _⟩, by repeat (first | exact Drawn0.refl _ | apply Drawn0.step)⟩
    case round =>
      clear H'
      try clear c1
      try clear c2
      try clear p2
      try clear c3
      try clear c3b0
      try clear c3b1
      try clear c3b2
      obtain ⟨x13_1, rfl, HA, HK1, ⟨m1, rfl⟩⟩ := hrel
      cases gk with
      | zero => exact absurd HA.out (by simp [slices_Equal_int_int.l0])
      | succ k1 =>
        have H := HA.out
        clear HA
        simp only [slices_Equal_int_int.l0] at H
        by_cases c4 : x13_1 < (l0.length : Int)
        · rw [if_pos c4] at H
          have c4b0 : decide (x13_1 < (l0.length : Int)) = true := decide_eq_true c4
          clear c4
          by_cases c5 : 0 ≤ x13_1
          · rw [if_pos c5] at H
            have c5b0 : decide (0 ≤ x13_1) = true := decide_eq_true c5
            clear c5
            by_cases c6 : x13_1 < (l0.length : Int)
            · rw [if_pos c6] at H
              have c6b0 : decide (x13_1 < (l0.length : Int)) = true := decide_eq_true c6
              clear c6
              by_cases c7 : x13_1 < (l1.length : Int)
              · rw [if_pos c7] at H
                have c7b0 : decide (x13_1 < (l1.length : Int)) = true := decide_eq_true c7
                clear c7
                by_cases c8 : (rd l0 x13_1) = (rd l1 x13_1)
                · rw [if_pos c8] at H
                  have c8b0 : ((rd l0 x13_1) == (rd l1 x13_1)) = true := beq_iff_eq.mpr c8
                  have c8b1 : ((rd l0 x13_1) != (rd l1 x13_1)) = false := bne_eq_false_iff_eq.mpr c8
                  clear c8
                  have H' := Aside0.mk H
                  clear H
                  have p229 : 0 ≤ (x13_1 : Int) := of_decide_eq_true (by first | (with_reducible assumption) | assumption)
                  have q229 : x13_1 < (l0.length : Int) := of_decide_eq_true (by first | (with_reducible assumption) | assumption)
                  obtain ⟨ad229, e229, hx229_0⟩ := Kd.at_int HR0.out x13_1 p229 q229
                  cases e229
                  replace p229 := eq_true p229
                  replace q229 := eq_true q229
                  have p230 : 0 ≤ (x13_1 : Int) := of_decide_eq_true (by first | (with_reducible assumption) | assumption)
                  have q230 : x13_1 < (l1.length : Int) := of_decide_eq_true (by first | (with_reducible assumption) | assumption)
                  obtain ⟨ad230, e230, hx230_0⟩ := Kd.at_int HR1.out x13_1 p230 q230
                  cases e230
                  replace p230 := eq_true p230
                  replace q230 := eq_true q230
                  go_wp2
                  repeat (go_quiet (fail); try go_wp2)
                  go_roundg k1
                  case measure => have := HK1.out; omega
                  case rel => exact ⟨(wrap64 (x13_1 + 1)), (by first | rfl | (simp; done) | (simp [*]; done)), H', ⟨by have := HK1.out; omega⟩, by repeat (first | exact Drawn0.refl _ | apply Drawn0.step)⟩
                · rw [if_neg c8] at H
                  have c8b0 : ((rd l0 x13_1) == (rd l1 x13_1)) = false := beq_eq_false_iff_ne.mpr c8
                  have c8b1 : ((rd l0 x13_1) != (rd l1 x13_1)) = true := bne_iff_ne.mpr c8
                  obtain rfl := Option.some.inj H
                  have p229 : 0 ≤ (x13_1 : Int) := of_decide_eq_true (by first | (with_reducible assumption) | assumption)
                  have q229 : x13_1 < (l0.length : Int) := of_decide_eq_true (by first | (with_reducible assumption) | assumption)
                  obtain ⟨ad229, e229, hx229_0⟩ := Kd.at_int HR0.out x13_1 p229 q229
                  cases e229
                  replace p229 := eq_true p229
                  replace q229 := eq_true q229
                  have p230 : 0 ≤ (x13_1 : Int) := of_decide_eq_true (by first | (with_reducible assumption) | assumption)
                  have q230 : x13_1 < (l1.length : Int) := of_decide_eq_true (by first | (with_reducible assumption) | assumption)
                  obtain ⟨ad230, e230, hx230_0⟩ := Kd.at_int HR1.out x13_1 p230 q230
                  cases e230
                  replace p230 := eq_true p230
                  replace q230 := eq_true q230
                  go_wp2
                  repeat (go_quiet (fail); try go_wp2)
                  go_ret
                  exact ⟨by first | rfl | (simp; done) | (simp [*]; done), by repeat (first | exact Drawn0.refl _ | apply Drawn0.step)⟩
              · rw [if_neg c7] at H
                exact absurd H (by simp)
            · rw [if_neg c6] at H
              exact absurd H (by simp)
          · rw [if_neg c5] at H
            exact absurd H (by simp)
        · rw [if_neg c4] at H
          have c4b0 : decide (x13_1 < (l0.length : Int)) = false := decide_eq_false c4
          clear c4
          obtain rfl := Option.some.inj H
          go_wp2
          repeat (go_quiet (fail); try go_wp2)
          go_ret
          exact ⟨by first | rfl | (simp; done) | (simp [*]; done), by repeat (first | exact Drawn0.refl _ | apply Drawn0.step)⟩
  · rw [if_neg c3] at H
    have c3b0 : ((l0.length : Int) == (l1.length : Int)) = false := beq_eq_false_iff_ne.mpr c3
    have c3b1 : ((l0.length : Int) != (l1.length : Int)) = true := bne_iff_ne.mpr c3
    have c3b2 : (l0.length == l1.length) = false := by first | simpa using c3 | (simp at c3 ⊢; omega)
    obtain rfl := Option.some.inj H
    go_enter Tryd.func29, Tryd.ntmps29
    go_wp2
    repeat (go_quiet (fail); try go_wp2)
    go_ret
    exact ⟨by first | rfl | (simp; done) | (simp [*]; done), by repeat (first | exact Drawn0.refl _ | apply Drawn0.step)⟩

end Go.Proofs.YtijfddobandcdaaDoor.X
end
section
/- IsOrder, isLayout, Border, bags, Equal: what they compute. -/
set_option linter.unusedVariables false
namespace Go.Proofs.YtijfddobandcdaaDoor.X
open Go.RowKit Go.Proofs.YtijfddobandcdaaDoorW.PrintWords Go.Proofs.YtijfddobandcdaaDoorW.PrintLast Go.Proofs.YtijfddobandcdaaDoorW.PrintMore Go.Proofs.YtijfddobandcdaaDoor.T

theorem bit_bset (a i : Nat) (ha : a < 2 ^ 62) (hi : i < 62) : Go.bits .and .i64 (shr .i64 (a : Int) (i : Int)) 1 = 1 ↔ bset a i := bit_one a i ha hi
theorem isOrder_l0 (l : List Int) (n : Nat) (hn : n ≤ 9) (hl : l.length < 2 ^ 60) : ∀ (d i : Nat) (P : List Nat), i + d = l.length → l.take i = gi P → P.Nodup → (∀ v ∈ P, v < n) →
    ∃ r, Ev (fun k => lampblackref02_IsOrder.l0 k l (n : Int) ((lset P : Nat) : Int) l (l.length : Int) (i : Int)) r ∧ (r = true ↔ IsOrd n l) := by
  intro d
  induction d with
  | zero =>
    intro i P hi hP h1 h2
    have e : l = gi P := by rw [← hP, List.take_of_length_le (by omega)]
    refine ⟨((l.length : Int) == (n : Int)), Ev.step (f := fun _ => some ((l.length : Int) == (n : Int))) (fun k => by rw [lampblackref02_IsOrder.l0, if_neg (by omega)]) (Ev.some rfl), ?_⟩
    rw [e, IsOrd.of h1 h2, gi_length, beq_iff_eq]
    omega
  | succ d ih =>
    intro i P hi hP h1 h2
    have hil : i < l.length := by omega
    have hP62 : lset P < 2 ^ 62 := Nat.lt_of_lt_of_le (lset_lt h2) (Nat.pow_le_pow_right (by omega) (by omega))
    by_cases h3 : rd l (i : Int) < 0
    · refine ⟨false, Ev.step (f := fun _ => some false) (fun k => by rw [lampblackref02_IsOrder.l0, if_pos (by omega), if_pos (by omega), if_pos (by omega), if_pos h3]) (Ev.some rfl), ?_⟩
      simp only [Bool.false_eq_true, false_iff]
      intro h
      obtain ⟨v, hv, _⟩ := h.get i hil
      omega
    · by_cases h4 : rd l (i : Int) ≥ (n : Int)
      · refine ⟨false, Ev.step (f := fun _ => some false) (fun k => by rw [lampblackref02_IsOrder.l0, if_pos (by omega), if_pos (by omega), if_pos (by omega), if_neg h3, if_pos h4]) (Ev.some rfl), ?_⟩
        simp only [Bool.false_eq_true, false_iff]
        intro h
        obtain ⟨v, hv, hv2⟩ := h.get i hil
        omega
      · obtain ⟨v, hv⟩ : ∃ v : Nat, rd l (i : Int) = (v : Int) := ⟨(rd l (i : Int)).toNat, by omega⟩
        have hvn : v < n := by omega
        by_cases h5 : v ∈ P
        · refine ⟨false, Ev.step (f := fun _ => some false) (fun k => ?_) (Ev.some rfl), ?_⟩
          · rw [lampblackref02_IsOrder.l0, if_pos (by omega), if_pos (by omega), if_pos (by omega), if_neg h3, if_neg h4, if_pos (by omega), hv, if_pos ((bit_bset _ _ hP62 (by omega)).2 ((lset_bit P v).2 h5))]
          · simp only [Bool.false_eq_true, false_iff]
            intro h
            exact h.fresh hil hP hv h5
        · have hb : ¬ Go.bits .and .i64 (shr .i64 ((lset P : Nat) : Int) (v : Int)) 1 = 1 := fun h => h5 ((lset_bit P v).1 ((bit_bset _ _ hP62 (by omega)).1 h))
          obtain ⟨r, h6, h7⟩ := ih (i + 1) (P ++ [v]) (by omega) (take_snoc hP hil v hv) (List.nodup_append.2 ⟨h1, by simp, by simp; intro a ha; exact fun e => h5 (e ▸ ha)⟩) (by
            intro x hx
            rcases List.mem_append.1 hx with h | h
            · exact h2 x h
            · rw [List.mem_singleton.1 h]; exact hvn)
          refine ⟨r, Ev.step (fun k => ?_) h6, h7⟩
          have e2 : 2 ^ v < 2 ^ 62 := Nat.pow_lt_pow_right (by omega) (by omega)
          rw [lampblackref02_IsOrder.l0, if_pos (by omega), if_pos (by omega), if_pos (by omega), if_neg h3, if_neg h4, if_pos (by omega), hv, if_neg hb, s_one v (by omega), b_or _ _ hP62 e2, wrap_succ i (by omega), lset_snoc]
theorem isOrder_ev (l : List Int) (n : Nat) (hn : n ≤ 9) (hl : l.length < 2 ^ 60) : ∃ r, Ev (fun k => lampblackref02_IsOrder.f k l (n : Int)) r ∧ (r = true ↔ IsOrd n l) :=
  isOrder_l0 l n hn hl l.length 0 [] (by omega) (by simp [gi]) List.nodup_nil (by simp)
theorem isLayout_l0 (G : List Nat) (hG : Gr 7 G) (l : List Int) (hl : l.length < 2 ^ 60) : ∀ (d i : Nat) (P : List Nat), i + d = l.length → l.take i = gi P → (∀ v ∈ P, v < G.length) →
    ∃ r, Ev (fun k => sweep_town_isLayout.l0 k (gi G) l ((lset P : Nat) : Int) l (l.length : Int) (i : Int)) r ∧ (r = true ↔ IsOrd G.length l) := by
  have hn := hG.most
  intro d
  induction d with
  | zero =>
    intro i P hi hP h2
    have e : l = gi P := by rw [← hP, List.take_of_length_le (by omega)]
    have hall : sweep_town_all.f (gi G) = some ((2 ^ G.length - 1 : Nat) : Int) := by
      unfold sweep_town_all.f
      have h1 : 2 ^ G.length ≤ 2 ^ 9 := Nat.pow_le_pow_right (by omega) (by omega)
      have h2 := Nat.two_pow_pos G.length
      rw [gi_length, s_one _ (by omega), w64_small _ (by omega) (by omega)]
      congr 1
      omega
    by_cases hlen : l.length = G.length
    · refine ⟨(((lset P : Nat) : Int) == ((2 ^ G.length - 1 : Nat) : Int)), Ev.step (fun k => by rw [sweep_town_isLayout.l0, if_neg (by omega), if_pos (by rw [gi_length]; omega)]) (Ev.bind1 hall (Ev.some rfl)), ?_⟩
      have hPl : P.length = G.length := by rw [e, gi_length] at hlen; exact hlen
      constructor
      · intro h
        have h3 : lset P = 2 ^ G.length - 1 := Int.ofNat.inj (beq_iff_eq.1 h)
        have h4 := nodup_of_covers (P := P) (n := G.length) (by omega) fun j hj => by rw [← lset_bit, h3, full_bit]; exact hj
        exact e ▸ (IsOrd.of h4 h2).2 hPl
      · intro h
        rw [e] at h
        obtain ⟨Q, e2, h3, h4, h5⟩ := h
        obtain rfl := gi_inj e2
        have h6 : lset P = 2 ^ G.length - 1 := eq_of_bits fun j => by
          show bset _ _ ↔ bset _ _
          rw [lset_bit, full_bit]
          exact ⟨fun h => h4 j h, covers_of_nodup h5 h3 h4 j⟩
        simp [h6]
    · refine ⟨false, Ev.step (f := fun _ => some false) (fun k => by rw [sweep_town_isLayout.l0, if_neg (by omega), if_neg (by rw [gi_length]; omega)]) (Ev.some rfl), ?_⟩
      simp only [Bool.false_eq_true, false_iff]
      rintro ⟨Q, e2, _, _, h5⟩
      rw [e2, gi_length] at hlen
      exact hlen h5
  | succ d ih =>
    intro i P hi hP h2
    have hil : i < l.length := by omega
    have hP62 : lset P < 2 ^ 62 := Nat.lt_of_lt_of_le (lset_lt h2) (Nat.pow_le_pow_right (by omega) (by omega))
    by_cases h3 : rd l (i : Int) < 0
    · refine ⟨false, Ev.step (f := fun _ => some false) (fun k => by rw [sweep_town_isLayout.l0, if_pos (by omega), if_pos (by omega), if_pos (by omega), if_pos h3]) (Ev.some rfl), ?_⟩
      simp only [Bool.false_eq_true, false_iff]
      intro h
      obtain ⟨v, hv, _⟩ := h.get i hil
      omega
    · by_cases h4 : rd l (i : Int) ≥ (G.length : Int)
      · refine ⟨false, Ev.step (f := fun _ => some false) (fun k => by rw [sweep_town_isLayout.l0, if_pos (by omega), if_pos (by omega), if_pos (by omega), if_neg h3, if_pos (by rw [gi_length]; exact h4)]) (Ev.some rfl), ?_⟩
        simp only [Bool.false_eq_true, false_iff]
        intro h
        obtain ⟨v, hv, hv2⟩ := h.get i hil
        omega
      · obtain ⟨v, hv⟩ : ∃ v : Nat, rd l (i : Int) = (v : Int) := ⟨(rd l (i : Int)).toNat, by omega⟩
        have hvn : v < G.length := by omega
        obtain ⟨r, h6, h7⟩ := ih (i + 1) (P ++ [v]) (by omega) (take_snoc hP hil v hv) (by
          intro x hx
          rcases List.mem_append.1 hx with h | h
          · exact h2 x h
          · rw [List.mem_singleton.1 h]; exact hvn)
        refine ⟨r, Ev.step (fun k => ?_) h6, h7⟩
        have e2 : 2 ^ v < 2 ^ 62 := Nat.pow_lt_pow_right (by omega) (by omega)
        rw [sweep_town_isLayout.l0, if_pos (by omega), if_pos (by omega), if_pos (by omega), if_neg h3, if_neg (by rw [gi_length]; exact h4), if_pos (by omega), hv, s_one v (by omega), b_or _ _ hP62 e2, wrap_succ i (by omega), lset_snoc]
theorem isLayout_ev (G : List Nat) (hG : Gr 7 G) (l : List Int) (hl : l.length < 2 ^ 60) : ∃ r, Ev (fun k => sweep_town_isLayout.f k (gi G) l) r ∧ (r = true ↔ IsOrd G.length l) :=
  isLayout_l0 G hG l hl l.length 0 [] (by omega) (by simp [gi]) (by simp)
/-- list hands on a beginning of at least 140. -/
theorem list_eq (l : List Int) (hl : l.length < 2 ^ 44) : ∃ m, lampblacklaw03_list.f l = some m ∧ (l.length ≤ 140 → m = l) ∧ (140 < l.length → m.length = 140) ∧ m.length ≤ 140 := by
  have hm : mn (l.length : Int) 140 = ((min l.length 140 : Nat) : Int) := mn_nat l.length 140
  refine ⟨l.take (min l.length 140), ?_, fun h => List.take_of_length_le (by omega), fun h => by rw [List.length_take]; omega, by rw [List.length_take]; omega⟩
  unfold lampblacklaw03_list.f slices_Clone_int_int.f
  simp only [hm, Int.toNat_natCast]
  rw [if_pos (by omega), if_pos (by omega)]
  simp only [Option.bind_some, List.length_nil, List.nil_append]
  rw [if_pos (by rw [List.length_take]; omega)]
  rfl
theorem list_ord {l m : List Int} {n : Nat} (hn : n ≤ 9) (h1 : l.length ≤ 140 → m = l) (h2 : 140 < l.length → m.length = 140) : IsOrd n m ↔ IsOrd n l := by
  by_cases h : l.length ≤ 140
  · rw [h1 h]
  · have := h2 (by omega)
    exact ⟨fun h' => by have := h'.length; omega, fun h' => by have := h'.length; omega⟩

theorem refBorder_l0 (G : List Nat) (hG : Gr 7 G) (S : Nat) (hS : S < 2 ^ G.length) : ∀ (d i o : Nat), i + d = G.length → o < 2 ^ G.length → (∀ j, bset o j ↔ j < i ∧ bset (bor G S) j) →
    Ev (fun k => lampblackref03_Border.l0 k (gi G) (S : Int) (o : Int) (G.length : Int) (i : Int)) ((bor G S : Nat) : Int) := by
  have hn := hG.most
  intro d
  induction d with
  | zero =>
    intro i o hi ho h
    have e : o = bor G S := eq_of_bits fun j => by
      show bset _ _ ↔ bset _ _
      rw [h]
      exact ⟨fun h => h.2, fun h => ⟨by have := bit_lt (bor_lt G S) h; omega, h⟩⟩
    subst e
    exact Ev.step (f := fun _ => some ((bor G S : Nat) : Int)) (fun k => by rw [lampblackref03_Border.l0, if_neg (by omega)]) (Ev.some rfl)
  | succ d ih =>
    intro i o hi ho h
    have hi' : i < G.length := by omega
    have hS62 := big (small G (by omega) hS)
    have hr62 := big (small G (by omega) (hG.row i))
    have ho62 := big (small G (by omega) ho)
    have e2 : 2 ^ i < 2 ^ G.length := Nat.pow_lt_pow_right (by omega) hi'
    have e62 := big (small G (by omega) e2)
    have hE2 := Aside0.mk e2
    clear e2
    have step : ∀ o2 : Nat, o2 < 2 ^ G.length → (∀ j, bset o2 j ↔ bset o j ∨ (j = i ∧ bset (bor G S) i)) → Ev (fun k => lampblackref03_Border.l0 k (gi G) (S : Int) (o2 : Int) (G.length : Int) ((i + 1 : Nat) : Int)) ((bor G S : Nat) : Int) := fun o2 h1 h2 => by
      refine ih (i + 1) o2 (by omega) h1 fun j => ?_
      rw [h2, h]
      constructor
      · rintro (h | ⟨rfl, h⟩)
        · exact ⟨by omega, h.2⟩
        · exact ⟨by omega, h⟩
      · rintro ⟨h3, h4⟩
        by_cases e : j = i
        · subst e; exact .inr ⟨rfl, h4⟩
        · exact .inl ⟨by omega, h4⟩
    have hwi := wrap_succ i (by omega)
    by_cases hb : bset S i
    · by_cases hd : diff (G.getD i 0) S = 0
      · refine Ev.step (fun k => ?_) (step o ho fun j => ⟨.inl, fun h => h.elim id fun h => ?_⟩)
        · rw [lampblackref03_Border.l0, if_pos (by omega), if_pos (by omega), if_pos ((bit_bset _ _ hS62 (by omega)).2 hb), if_pos (by rw [gi_length]; omega), rd_gi, b_andNot _ _ hr62 hS62, hd, if_pos (show ((0 : Nat) : Int) = 0 from rfl), hwi]
        · obtain ⟨_, u, hu, hu'⟩ := (bor_bit hG S i).1 h.2
          exact (diff_ne.2 ⟨u, hu, hu'⟩ hd).elim
      · refine Ev.step (fun k => ?_) (step (o ||| 2 ^ i) (or_lt ho hE2.out) fun j => ?_)
        · rw [lampblackref03_Border.l0, if_pos (by omega), if_pos (by omega), if_pos ((bit_bset _ _ hS62 (by omega)).2 hb), if_pos (by rw [gi_length]; omega), rd_gi, b_andNot _ _ hr62 hS62, if_neg (by omega), s_one i (by omega), b_or _ _ ho62 e62, hwi]
        · rw [or_bset, two_pow_bit]
          refine ⟨fun h => h.imp id fun h => ⟨h, ?_⟩, fun h => h.imp id fun h => h.1⟩
          obtain ⟨u, hu⟩ := diff_ne.1 hd
          exact (bor_bit hG S i).2 ⟨hb, u, hu⟩
    · refine Ev.step (fun k => ?_) (step o ho fun j => ⟨.inl, fun h => h.elim id fun h => (hb ((bor_bit hG S i).1 h.2).1).elim⟩)
      rw [lampblackref03_Border.l0, if_pos (by omega), if_pos (by omega), if_neg (fun h => hb ((bit_bset _ _ hS62 (by omega)).1 h)), hwi]
theorem refBorder_ev (G : List Nat) (hG : Gr 7 G) (S : Nat) (hS : S < 2 ^ G.length) : Ev (fun k => lampblackref03_Border.f k (gi G) (S : Int)) ((bor G S : Nat) : Int) := by
  unfold lampblackref03_Border.f
  rw [gi_length]
  exact refBorder_l0 G hG S hS G.length 0 0 (by omega) (Nat.two_pow_pos _) fun j => ⟨fun h => by unfold bset at h; simp at h, fun h => by omega⟩

/-- The bags of a layout that goes on behind S. -/
noncomputable def bagsOf (G : List Nat) : Nat → List Nat → List Nat
  | _, [] => []
  | S, v :: P => (bor G S ||| 2 ^ v) :: bagsOf G (S ||| 2 ^ v) P
theorem bagsOf_length (G : List Nat) : ∀ (P : List Nat) (S : Nat), (bagsOf G S P).length = P.length
  | [], _ => rfl
  | v :: P, S => by simp [bagsOf, bagsOf_length G P]
theorem refBags_l0 (G : List Nat) (hG : Gr 7 G) (P : List Nat) (hP : ∀ v ∈ P, v < G.length) (hl : P.length < 2 ^ 40) : ∀ (d i S : Nat) (out : List Nat), i + d = P.length → S < 2 ^ G.length → out.length = i →
    Ev (fun k => lampblackref03_Bags.l0 k (gi G) (gi out) (S : Int) (gi P) (P.length : Int) (i : Int)) (gi (out ++ bagsOf G S (P.drop i))) := by
  have hn := hG.most
  intro d
  induction d with
  | zero =>
    intro i S out hi hS ho
    refine Ev.step (f := fun _ => some (gi out)) (fun k => by rw [lampblackref03_Bags.l0, if_neg (by omega)]) (Ev.some ?_)
    rw [List.drop_eq_nil_of_le (by omega)]
    simp [bagsOf]
  | succ d ih =>
    intro i S out hi hS ho
    have hi' : i < P.length := by omega
    have hm := hP _ (List.getElem_mem hi')
    have hr : rd (gi P) (i : Int) = ((P[i] : Nat) : Int) := by rw [rd_gi, List.getD_eq_getElem?_getD, List.getElem?_eq_getElem hi']; rfl
    have hS62 := big (small G (by omega) hS)
    have hb62 := big (small G (by omega) (bor_lt G S))
    have e2 : 2 ^ P[i] < 2 ^ G.length := Nat.pow_lt_pow_right (by omega) hm
    have e62 := big (small G (by omega) e2)
    have hS2 := or_lt hS e2
    clear e2
    have h := ih (i + 1) (S ||| 2 ^ P[i]) (out ++ [bor G S ||| 2 ^ P[i]]) (by omega) hS2 (by simp; omega)
    refine Ev.step (f := fun k => (lampblackref03_Border.f k (gi G) (S : Int)).bind fun t259 => if 0 ≤ ((P[i] : Nat) : Int) then (if (gi out).length < 17592186044416 then lampblackref03_Bags.l0 k (gi G) (gi out ++ [Go.bits .or .i64 t259 (shl .i64 1 ((P[i] : Nat) : Int))]) (Go.bits .or .i64 (S : Int) (shl .i64 1 ((P[i] : Nat) : Int))) (gi P) (P.length : Int) (wrap64 ((i : Int) + 1)) else none) else none) (fun k => ?_) ?_
    · rw [lampblackref03_Bags.l0, if_pos (by omega), if_pos (by omega), if_pos (by rw [gi_length]; omega), hr]
    · refine Ev.bind (refBorder_ev G hG S hS) (Ev.if_pos (by omega) (Ev.if_pos (by rw [gi_length]; omega) ?_))
      rw [s_one _ (by omega), b_or _ _ hb62 e62, b_or _ _ hS62 e62, wrap_succ i (by omega), gi_snoc]
      rw [List.drop_eq_getElem_cons hi', bagsOf]
      simpa using h
theorem bags_l0 (G : List Nat) (hG : Gr 7 G) (P : List Nat) (hP : ∀ v ∈ P, v < G.length) (hl : P.length < 2 ^ 40) : ∀ (d i S : Nat) (out : List Nat), i + d = P.length → S < 2 ^ G.length → out.length = i →
    Ev (fun k => sweep_town_bags.l0 k (gi G) (gi out) (S : Int) (gi P) (P.length : Int) (i : Int)) (gi (out ++ bagsOf G S (P.drop i))) := by
  have hn := hG.most
  intro d
  induction d with
  | zero =>
    intro i S out hi hS ho
    refine Ev.step (f := fun _ => some (gi out)) (fun k => by rw [sweep_town_bags.l0, if_neg (by omega)]) (Ev.some ?_)
    rw [List.drop_eq_nil_of_le (by omega)]
    simp [bagsOf]
  | succ d ih =>
    intro i S out hi hS ho
    have hi' : i < P.length := by omega
    have hm := hP _ (List.getElem_mem hi')
    have hr : rd (gi P) (i : Int) = ((P[i] : Nat) : Int) := by rw [rd_gi, List.getD_eq_getElem?_getD, List.getElem?_eq_getElem hi']; rfl
    have hS62 := big (small G (by omega) hS)
    have hb62 := big (small G (by omega) (bor_lt G S))
    have e2 : 2 ^ P[i] < 2 ^ G.length := Nat.pow_lt_pow_right (by omega) hm
    have e62 := big (small G (by omega) e2)
    have hS2 := or_lt hS e2
    clear e2
    have h := ih (i + 1) (S ||| 2 ^ P[i]) (out ++ [bor G S ||| 2 ^ P[i]]) (by omega) hS2 (by simp; omega)
    refine Ev.step (f := fun k => (sweep_town_border.f (gi G) (S : Int)).bind fun t259 => if 0 ≤ ((P[i] : Nat) : Int) then (if (gi out).length < 17592186044416 then sweep_town_bags.l0 k (gi G) (gi out ++ [Go.bits .or .i64 t259 (shl .i64 1 ((P[i] : Nat) : Int))]) (Go.bits .or .i64 (S : Int) (shl .i64 1 ((P[i] : Nat) : Int))) (gi P) (P.length : Int) (wrap64 ((i : Int) + 1)) else none) else none) (fun k => ?_) ?_
    · rw [sweep_town_bags.l0, if_pos (by omega), if_pos (by omega), if_pos (by rw [gi_length]; omega), hr]
    · refine Ev.bind1 (border_eq G hG S hS) (Ev.if_pos (by omega) (Ev.if_pos (by rw [gi_length]; omega) ?_))
      rw [s_one _ (by omega), b_or _ _ hb62 e62, b_or _ _ hS62 e62, wrap_succ i (by omega), gi_snoc]
      rw [List.drop_eq_getElem_cons hi', bagsOf]
      simpa using h
theorem bags_ev (G : List Nat) (hG : Gr 7 G) (P : List Nat) (hP : ∀ v ∈ P, v < G.length) (hl : P.length < 2 ^ 40) : Ev (fun k => sweep_town_bags.f k (gi G) (gi P)) (gi (bagsOf G 0 P)) := by
  unfold sweep_town_bags.f
  rw [gi_length]
  exact bags_l0 G hG P hP hl P.length 0 0 [] (by omega) (Nat.two_pow_pos _) rfl
theorem refBags_ev (G : List Nat) (hG : Gr 7 G) (P : List Nat) (hP : ∀ v ∈ P, v < G.length) (hl : P.length < 2 ^ 40) : Ev (fun k => lampblackref03_Bags.f k (gi G) (gi P)) (gi (bagsOf G 0 P)) := by
  unfold lampblackref03_Bags.f
  rw [gi_length]
  exact refBags_l0 G hG P hP hl P.length 0 0 [] (by omega) (Nat.two_pow_pos _) rfl

theorem equal_l0 (a b : List Int) (hl : a.length = b.length) (h40 : a.length < 2 ^ 40) : ∀ d i, i + d = a.length → Ev (fun k => slices_Equal_int_int.l0 k a b (a.length : Int) (i : Int)) (decide (a.drop i = b.drop i)) := by
  intro d
  induction d with
  | zero =>
    intro i hi
    refine Ev.step (f := fun _ => some true) (fun k => by rw [slices_Equal_int_int.l0, if_neg (by omega)]) (Ev.some ?_)
    rw [List.drop_eq_nil_of_le (by omega), List.drop_eq_nil_of_le (by omega)]
    rfl
  | succ d ih =>
    intro i hi
    have h1 : i < a.length := by omega
    have h2 : i < b.length := by omega
    have r1 : rd a (i : Int) = a[i] := by unfold rd; rw [Int.toNat_natCast, List.getD_eq_getElem?_getD, List.getElem?_eq_getElem h1]; rfl
    have r2 : rd b (i : Int) = b[i] := by unfold rd; rw [Int.toNat_natCast, List.getD_eq_getElem?_getD, List.getElem?_eq_getElem h2]; rfl
    rw [List.drop_eq_getElem_cons h1, List.drop_eq_getElem_cons h2]
    by_cases e : a[i] = b[i]
    · refine Ev.step (f := fun k => slices_Equal_int_int.l0 k a b (a.length : Int) ((i + 1 : Nat) : Int)) (fun k => ?_) ?_
      · rw [slices_Equal_int_int.l0, if_pos (by omega), if_pos (by omega), if_pos (by omega), if_pos (by omega), r1, r2, if_pos e, wrap_succ i (by omega)]
      · rw [show (decide (a[i] :: a.drop (i + 1) = b[i] :: b.drop (i + 1))) = decide (a.drop (i + 1) = b.drop (i + 1)) from decide_eq_decide.2 ⟨fun h => (List.cons.inj h).2, fun h => by rw [e, h]⟩]
        exact ih (i + 1) (by omega)
    · refine Ev.step (f := fun _ => some false) (fun k => ?_) (Ev.some (decide_eq_false fun h => e (List.cons.inj h).1).symm)
      rw [slices_Equal_int_int.l0, if_pos (by omega), if_pos (by omega), if_pos (by omega), if_pos (by omega), r1, r2, if_neg e]
theorem equal_ev (a b : List Int) (h40 : a.length < 2 ^ 40) : Ev (fun k => slices_Equal_int_int.f k a b) (decide (a = b)) := by
  unfold slices_Equal_int_int.f
  by_cases hl : a.length = b.length
  · refine Ev.if_pos (by omega) ?_
    have := equal_l0 a b hl h40 a.length 0 (by omega)
    simpa using this
  · exact Ev.if_neg (by omega) (Ev.some (by symm; rw [decide_eq_false_iff_not]; exact fun e => hl (by rw [e])))
theorem equal_same (a : List Int) (h40 : a.length < 2 ^ 40) : Ev (fun k => slices_Equal_int_int.f k a a) true := by
  have := equal_ev a a h40
  simpa using this
end Go.Proofs.YtijfddobandcdaaDoor.X
end
section
/- SweepTurns, without Go and memory: a path decomposition backward is one, of the same width. -/
set_option linter.unusedVariables false
namespace Go.Proofs.YtijfddobandcdaaDoor.Pure
open Go.RowKit Go.Proofs.YtijfddobandcdaaDoorW.PrintWords Go.Proofs.YtijfddobandcdaaDoorW.PrintLast Go.Proofs.YtijfddobandcdaaDoorW.PrintMore Go.Proofs.YtijfddobandcdaaDoor.T Go.Proofs.YtijfddobandcdaaDoor.X

theorem rev_l0 (l : List Int) (hl : l.length < 2 ^ 60) : ∀ (d i : Nat) (L : List Int), i + i + d = l.length → L.length = l.length → (∀ q, q < l.length → L[q]? = if q < i ∨ l.length < q + i + 1 then l.reverse[q]? else l[q]?) →
    Ev (fun k => slices_Reverse_int_int.l0 k L (i : Int) ((l.length : Int) - 1 - (i : Int))) l.reverse := by
  intro d
  induction d using Nat.strongRecOn with
  | _ d ih =>
    intro i L hi hL h
    by_cases h2 : d ≤ 1
    · refine Ev.step (f := fun _ => some L) (fun k => by rw [slices_Reverse_int_int.l0, if_neg (by omega)]) (Ev.some ?_)
      apply List.ext_getElem?
      intro q
      by_cases hq : q < l.length
      · rw [h q hq]
        by_cases e : q < i ∨ l.length < q + i + 1
        · rw [if_pos e]
        · rw [if_neg e, List.getElem?_reverse hq]
          congr 1
          omega
      · rw [List.getElem?_eq_none (by omega), List.getElem?_eq_none (by rw [List.length_reverse]; omega)]
    · have hj : ((l.length : Int) - 1 - (i : Int)) = ((l.length - 1 - i : Nat) : Int) := by omega
      have hw1 : wrap64 ((i : Int) + 1) = ((i + 1 : Nat) : Int) := wrap_succ i (by omega)
      have hw2 : wrap64 (((l.length - 1 - i : Nat) : Int) - 1) = (l.length : Int) - 1 - ((i + 1 : Nat) : Int) := by
        rw [w64_small _ (by omega) (by omega)]; omega
      have r1 : rd L ((l.length - 1 - i : Nat) : Int) = l[l.length - 1 - i]'(by omega) := by
        have := ((h (l.length - 1 - i) (by omega)).trans (if_neg (by omega))).trans (List.getElem?_eq_getElem (show l.length - 1 - i < l.length by omega))
        unfold rd
        rw [Int.toNat_natCast, List.getD_eq_getElem?_getD, this]
        rfl
      have r2 : rd L (i : Int) = l[i]'(by omega) := by
        have := ((h i (by omega)).trans (if_neg (by omega))).trans (List.getElem?_eq_getElem (show i < l.length by omega))
        unfold rd
        rw [Int.toNat_natCast, List.getD_eq_getElem?_getD, this]
        rfl
      rw [hj]
      refine Ev.step (f := fun k => slices_Reverse_int_int.l0 k ((L.set i (l[l.length - 1 - i]'(by omega))).set (l.length - 1 - i) (l[i]'(by omega))) ((i + 1 : Nat) : Int) ((l.length : Int) - 1 - ((i + 1 : Nat) : Int))) (fun k => ?_) ?_
      · rw [slices_Reverse_int_int.l0, if_pos (by omega), if_pos (by omega), if_pos (by omega), if_pos (by omega), if_pos (by omega), hw1, hw2, r1, r2, Int.toNat_natCast, Int.toNat_natCast]
      · refine ih (d - 2) (by omega) (i + 1) _ (by omega) (by simp; exact hL) fun q hq => ?_
        rw [List.getElem?_set, List.getElem?_set]
        by_cases e1 : l.length - 1 - i = q
        · rw [if_pos e1, if_pos (by simp; omega), if_pos (by omega), List.getElem?_reverse hq, List.getElem?_eq_getElem (by omega)]
          congr 2
          omega
        · rw [if_neg e1]
          by_cases e2 : i = q
          · rw [if_pos e2, if_pos (by omega), if_pos (by omega), List.getElem?_reverse hq, List.getElem?_eq_getElem (by omega)]
            congr 2
            omega
          · rw [if_neg e2, h q hq]
            by_cases e3 : q < i ∨ l.length < q + i + 1
            · rw [if_pos e3, if_pos (by omega)]
            · rw [if_neg e3, if_neg (by omega)]
theorem rev_ev (l : List Int) (hl : l.length < 2 ^ 60) : Ev (fun k => slices_Reverse_int_int.f k l) l.reverse := by
  unfold slices_Reverse_int_int.f
  have hw : wrap64 ((l.length : Int) - 1) = (l.length : Int) - 1 := w64_small _ (by omega) (by omega)
  rw [hw]
  have := rev_l0 l hl l.length 0 l (by omega) rfl (fun q hq => by rw [if_neg (by omega)])
  simpa using this
theorem path_rev {G : List Nat} {l : List Int} : IsPathL G l.reverse ↔ IsPathL G l := by
  have one : ∀ l : List Int, IsPathL G l → IsPathL G l.reverse := fun l ⟨B, e, h⟩ => ⟨B.reverse, by rw [e]; simp [gi], h.reverse⟩
  exact ⟨fun h => by have := one _ h; rwa [List.reverse_reverse] at this, one l⟩
theorem SweepTurns : ∀ (l0 l1 : List Int), l0.length ≤ maxLen → l0.length * 8 ≤ 140737488351232 → (∀ x ∈ l0, (Lit.int .i64 x).wf = true) → l1.length ≤ maxLen → l1.length * 8 ≤ 140737488351232 → (∀ x ∈ l1, (Lit.int .i64 x).wf = true) → ∃ k, lampblacklaw03_SweepTurns.f k l0 l1 = some true := by
  intro g l _ hg _ _ hl _
  apply Ev.rounds
  obtain ⟨h, e, e1, e2, e3⟩ := few_eq g (by omega)
  obtain ⟨m, f, f1, f2, f3⟩ := list_eq l (by omega)
  have hrev := rev_ev m (by omega)
  unfold lampblacklaw03_SweepTurns.f
  refine Ev.bind1 e (Ev.bind1 f ?_)
  by_cases hc : chk 7 g = true
  · obtain ⟨G, rfl, hG⟩ := (chk_iff 7 (by omega) _).1 hc
    rw [e1 hc] at e ⊢
    by_cases hp : IsPathL G m
    · obtain ⟨B, rfl, hB⟩ := hp
      have hr2 : (gi B).reverse = gi B.reverse := by simp [gi]
      rw [hr2] at hrev
      have hB2 := Check_yes G hG _ hB.reverse
      rw [mostOf_reverse] at hB2
      exact Ev.bind (Check_yes G hG B hB) (Ev.bind1 f (Ev.bind hrev (Ev.bind1 e (Ev.bind hB2 (Ev.if_pos rfl (Ev.if_pos rfl (Ev.if_pos rfl (Ev.if_pos rfl (Ev.bind awake_ev (Ev.some rfl))))))))))
    · exact Ev.bind (Check_no G hG m (by omega) hp) (Ev.bind1 f (Ev.bind hrev (Ev.bind1 e (Ev.bind (Check_no G hG m.reverse (by rw [List.length_reverse]; omega) (fun h => hp (path_rev.1 h))) (Ev.if_pos rfl (Ev.if_pos rfl (Ev.if_pos rfl (Ev.if_pos rfl (Ev.bind awake_ev (Ev.some rfl))))))))))
  · have hc' : chk 7 g = false := by simpa using hc
    exact Ev.bind (Check_bad h m (by omega) (e2 hc')) (Ev.bind1 f (Ev.bind hrev (Ev.bind1 e (Ev.bind (Check_bad h m.reverse (by omega) (e2 hc')) (Ev.if_neg (by simp) (Ev.if_pos rfl (Ev.if_pos rfl (Ev.bind awake_ev (Ev.some rfl)))))))))
end Go.Proofs.YtijfddobandcdaaDoor.Pure
end
