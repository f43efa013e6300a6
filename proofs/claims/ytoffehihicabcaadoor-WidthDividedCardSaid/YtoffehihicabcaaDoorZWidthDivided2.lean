/- Part 2 of what WidthDivided rests on: contracts of the functions that it reaches, and what they compute, in plain words. -/
import Derived.Test.YtoffehihicabcaaDoorZWidthDivided1
import Derived.Test.YtoffehihicabcaaDoorZWidthDivided0
section
/- Divide: the least of the smallest sets that divide a graph; the program's word and the reference's. -/
set_option linter.unusedVariables false
namespace Go.Proofs.YtoffehihicabcaaDoor.X
open Go.RowKit Go.Proofs.YtoffehihicabcaaDoorW.PrintWords Go.Proofs.YtoffehihicabcaaDoorW.PrintLast Go.Proofs.YtoffehihicabcaaDoorW.PrintMore Go.Proofs.YtoffehihicabcaaDoor.T

theorem divides_l0 (G : List Nat) (hG : Gr 9 G) (W : Nat) (hW : W < 2 ^ G.length) : ∀ l, (∀ u, bset l u → bset W u) → (∀ x u, bset l x → Adj G x u → bset W u → bset l u) →
    ∃ r, Ev (fun k => width_town_divides.l0 k (gi G) (l : Int)) r ∧ (r = true ↔ ∀ v, bset l v → 2 * pc (conset G (2 ^ v) W) G.length ≤ G.length) := by
  have hn := hG.most
  intro l
  induction l using Nat.strongRecOn with
  | _ l ih =>
    intro hl hc
    have hl2 : l < 2 ^ G.length := lt_of_bits fun j hj => bit_lt hW (hl j hj)
    by_cases h0 : l = 0
    · subst h0
      refine ⟨true, Ev.step (f := fun _ => some true) (fun k => by rw [width_town_divides.l0, if_pos (by omega)]) (Ev.some rfl), ?_⟩
      simp [bset]
    · have hpos : 0 < l := by omega
      have hb := (low_bits ⟨l, small G hn hl2⟩ hpos).1
      have hv := low_lt (G := G) hpos hl2 hn
      have hp : 2 ^ low l < 2 ^ G.length := Nat.pow_lt_pow_right (by omega) hv
      have hlow : Go.bits .and .i64 (l : Int) (wrap64 (-(l : Int))) = ((2 ^ low l : Nat) : Int) := low_neg ⟨l, small G hn hl2⟩ hpos
      generalize low l = v at hb hv hp hlow
      have hcl : conset G (2 ^ v) l = conset G (2 ^ v) W := conset_closed hG hb hv hl hc
      have hpl := conset_lt G (2 ^ v) W
      have hcnt := count_eq _ (small G hn hpl)
      have hpc : pc (conset G (2 ^ v) W) 9 = pc (conset G (2 ^ v) W) G.length := pc_nine hpl hn
      have hle := pc_le (conset G (2 ^ v) W) 9
      have start : ∀ (f : Nat → Option Bool) (r : Bool), Ev (fun k => if (wrap64 (2 * ((pc (conset G (2 ^ v) W) 9 : Nat) : Int))) > (((gi G).length : Nat) : Int) then some false else width_town_divides.l0 k (gi G) (Go.bits .andNot .i64 (l : Int) ((conset G (2 ^ v) W : Nat) : Int))) r → Ev (fun k => width_town_divides.l0 k (gi G) (l : Int)) r := by
        intro _ r h
        refine Ev.step (fun k => by rw [width_town_divides.l0, if_neg (by omega), hlow]) (Ev.bind (part_ev G hG (2 ^ v) l hp hl2) ?_)
        rw [hcl]
        exact Ev.bind1 hcnt h
      by_cases hbig : 2 * pc (conset G (2 ^ v) W) G.length ≤ G.length
      · have hself := conset_self hG (w := W) hv
        have hvW := hl v hb
        obtain ⟨r, h1, h2⟩ := ih (diff l (conset G (2 ^ v) W)) (by
            have h1 := diff_le l (conset G (2 ^ v) W)
            have h2 : diff l (conset G (2 ^ v) W) ≠ l := fun e => by
              have := (diff_bset l (conset G (2 ^ v) W) v).1 (by rw [e]; exact hb)
              exact this.2 hself
            omega)
          (fun u hu => hl u ((diff_bset _ _ u).1 hu).1)
          (fun x u hx ha hu => by
            obtain ⟨hx1, hx2⟩ := (diff_bset _ _ x).1 hx
            refine (diff_bset _ _ u).2 ⟨hc x u hx1 ha hu, fun hup => hx2 ?_⟩
            rw [conset_one hG hv] at hup ⊢
            exact .step hup (hG.adj_symm ha) (hl x hx1))
        refine ⟨r, start (fun _ => none) r ?_, h2.trans ⟨fun h u hu => ?_, fun h u hu => h u ((diff_bset _ _ u).1 hu).1⟩⟩
        · refine Ev.if_neg (by rw [gi_length, w64_small _ (by omega) (by omega)]; omega) ?_
          rw [b_andNot _ _ (big (small G hn hl2)) (big (small G hn hpl))]
          exact h1
        · by_cases hup : bset (conset G (2 ^ v) W) u
          · rw [conset_same hG hv hvW hup]; exact hbig
          · exact h u ((diff_bset _ _ u).2 ⟨hu, hup⟩)
      · refine ⟨false, start (fun _ => none) false (Ev.if_pos (by rw [gi_length, w64_small _ (by omega) (by omega)]; omega) (Ev.some rfl)), ?_⟩
        simp only [Bool.false_eq_true, false_iff]
        exact fun h => hbig (h v hb)

theorem all_lt (n : Nat) : 2 ^ n - 1 < 2 ^ n := by have := Nat.two_pow_pos n; omega
theorem divides_ev (G : List Nat) (hG : Gr 9 G) (S : Nat) (hS : S < 2 ^ G.length) : Ev (fun k => width_town_divides.f k (gi G) (S : Int)) (divB G S) := by
  have hn := hG.most
  have hall := all_lt G.length
  have hW : diff (2 ^ G.length - 1) S < 2 ^ G.length := Nat.lt_of_le_of_lt (diff_le _ _) hall
  obtain ⟨r, h1, h2⟩ := divides_l0 G hG (diff (2 ^ G.length - 1) S) hW (diff (2 ^ G.length - 1) S) (fun _ h => h) (fun _ _ _ _ h => h)
  have e : r = divB G S := by
    rw [Bool.eq_iff_iff, h2, divB_iff]
    constructor
    · intro h v hv hb
      exact h v ((diff_bset _ _ v).2 ⟨(all_bit _ v).2 hv, hb⟩)
    · intro h v hv
      obtain ⟨a, b⟩ := (diff_bset _ _ v).1 hv
      exact h v ((all_bit _ v).1 a) b
  subst e
  unfold width_town_divides.f
  refine Ev.bind1 (all_eq G hn) ?_
  rw [b_andNot _ _ (big (small G hn hall)) (big (small G hn hS))]
  exact h1

/-- The search: set by set. -/
noncomputable def pick (G : List Nat) (best set : Nat) : Nat := if pc set 9 < pc best 9 ∧ divB G set = true then set else best
noncomputable def picks (G : List Nat) : Nat → Nat → Nat → Nat
  | 0, best, _ => best
  | d + 1, best, set => picks G d (pick G best set) (set + 1)
theorem pick_lt {G : List Nat} {best set : Nat} (h : best < 2 ^ G.length) (h' : set < 2 ^ G.length) : pick G best set < 2 ^ G.length := by unfold pick; split <;> assumption
theorem Divide_l0 (G : List Nat) (hG : Gr 9 G) : ∀ (d set best : Nat), set + d = 2 ^ G.length → best < 2 ^ G.length →
    Ev (fun k => width_Divide.l0 k (gi G) (best : Int) ((2 ^ G.length : Nat) : Int) (set : Int)) (((picks G d best set : Nat) : Int), 0) := by
  have hn := hG.most
  have h9 : 2 ^ G.length ≤ 2 ^ 9 := Nat.pow_le_pow_right (by omega) hn
  intro d
  induction d with
  | zero =>
    intro set best hs hb
    exact Ev.step (f := fun _ => some ((best : Int), 0)) (fun k => by rw [width_Divide.l0, if_neg (by omega)]) (Ev.some rfl)
  | succ d ih =>
    intro set best hs hb
    have hset : set < 2 ^ G.length := by omega
    have hw : wrap64 ((set : Int) + 1) = ((set + 1 : Nat) : Int) := wrap_succ set (by omega)
    have next := ih (set + 1) (pick G best set) (by omega) (pick_lt hb hset)
    refine Ev.step (fun k => by rw [width_Divide.l0, if_pos (by omega), hw]) (Ev.bind1 (count_eq _ (small G hn hset)) (Ev.bind1 (count_eq _ (small G hn hb)) ?_))
    simp only [picks]
    by_cases h1 : pc set 9 < pc best 9
    · refine Ev.if_pos (by omega) (Ev.bind (divides_ev G hG set hset) ?_)
      by_cases h2 : divB G set = true
      · refine Ev.if_pos h2 ?_
        have e : pick G best set = set := by unfold pick; rw [if_pos ⟨h1, h2⟩]
        rw [e] at next ⊢
        exact next
      · refine Ev.if_neg h2 ?_
        have e : pick G best set = best := by unfold pick; rw [if_neg (fun h => h2 h.2)]
        rw [e] at next ⊢
        exact next
    · refine Ev.if_neg (by omega) ?_
      have e : pick G best set = best := by unfold pick; rw [if_neg (fun h => h1 h.1)]
      rw [e] at next ⊢
      exact next
noncomputable def divN (G : List Nat) : Nat := picks G (2 ^ G.length) (2 ^ G.length - 1) 0
theorem Divide_ev (G : List Nat) (hG : Gr 9 G) : Ev (fun k => width_Divide.f k (gi G)) (((divN G : Nat) : Int), 0) := by
  have hn := hG.most
  have hc : chk 9 (gi G) = true := (chk_iff 9 (by omega) _).2 ⟨G, rfl, hG⟩
  have hr := read_ev (gi G) (by rw [gi_length]; omega)
  rw [hc] at hr
  unfold width_Divide.f
  refine Ev.bind hr (Ev.if_pos rfl (Ev.bind1 (all_eq G hn) ?_))
  refine Ev.congr (f := fun k => width_Divide.l0 k (gi G) ((2 ^ G.length - 1 : Nat) : Int) ((2 ^ G.length : Nat) : Int) 0) (fun k => ?_) (Divide_l0 G hG (2 ^ G.length) 0 (2 ^ G.length - 1) (by omega) (all_lt _))
  show width_Divide.l0 k (gi G) _ (shl .i64 1 ((gi G).length : Int)) 0 = _
  rw [gi_length, s_one G.length (by omega)]
theorem Divide_bad (g : List Int) (hl : g.length < 2 ^ 60) (h : chk 9 g = false) : Ev (fun k => width_Divide.f k g) (0, 2) := by
  have hr := read_ev g hl
  rw [h] at hr
  unfold width_Divide.f
  exact Ev.bind hr (Ev.if_neg (by simp) (Ev.some rfl))

theorem refDivide_l1 (G : List Nat) (hG : Gr 9 G) (best set : Nat) (hb : best < 2 ^ G.length) (hs : set < 2 ^ G.length) (r : Int)
    (c1 : Ev (fun k => lampblackref02_Divide.l0 k (gi G) (set : Int) ((2 ^ G.length : Nat) : Int) ((set + 1 : Nat) : Int)) r ∨ ¬ (pc set 9 < pc best 9 ∧ divB G set = true))
    (c2 : Ev (fun k => lampblackref02_Divide.l0 k (gi G) (best : Int) ((2 ^ G.length : Nat) : Int) ((set + 1 : Nat) : Int)) r ∨ (pc set 9 < pc best 9 ∧ divB G set = true)) :
    ∀ d i (ok : Bool), i + d = G.length → (ok = true ↔ pc set 9 < pc best 9 ∧ ∀ v, v < i → ¬ bset set v → 2 * pc (conset G (2 ^ v) (diff (2 ^ G.length - 1) set)) G.length ≤ G.length) →
      Ev (fun k => lampblackref02_Divide.l1 k (gi G) (best : Int) (set : Int) ok ((2 ^ G.length : Nat) : Int) (set : Int) (G.length : Int) (i : Int)) r := by
  have hn := hG.most
  have hbig := big (small G hn hs)
  have h9 : 2 ^ G.length ≤ 2 ^ 9 := Nat.pow_le_pow_right (by omega) hn
  have h2p := Nat.two_pow_pos G.length
  have hw : wrap64 ((set : Int) + 1) = ((set + 1 : Nat) : Int) := wrap_succ set (by omega)
  have hall := all_lt G.length
  have hW : diff (2 ^ G.length - 1) set < 2 ^ G.length := Nat.lt_of_le_of_lt (diff_le _ _) hall
  intro d
  induction d with
  | zero =>
    intro i ok hi hok
    have hok' : ok = true ↔ pc set 9 < pc best 9 ∧ divB G set = true := by
      rw [hok, divB_iff]
      obtain rfl : i = G.length := by omega
      exact Iff.rfl
    by_cases h : ok = true
    · refine Ev.step (fun k => by rw [lampblackref02_Divide.l1, if_neg (by omega), if_pos h, hw]) ?_
      exact c1.resolve_right (fun hno => hno (hok'.1 h))
    · refine Ev.step (fun k => by rw [lampblackref02_Divide.l1, if_neg (by omega), if_neg h, hw]) ?_
      exact c2.resolve_right (fun hyes => h (hok'.2 hyes))
  | succ d ih =>
    intro i ok hi hok
    have hin : i < G.length := by omega
    have hwi : wrap64 ((i : Int) + 1) = ((i + 1 : Nat) : Int) := wrap_succ i (by omega)
    by_cases hbit : set.testBit i = true
    · refine Ev.step (fun k => by rw [lampblackref02_Divide.l1, if_pos (by omega), if_pos (by omega), if_neg (fun h => by have := (bit_zero set i hbig (by omega)).1 h; rw [hbit] at this; cases this), hwi]) ?_
      refine ih (i + 1) ok (by omega) (hok.trans ⟨fun h => ⟨h.1, fun v hv hvb => ?_⟩, fun h => ⟨h.1, fun v hv => h.2 v (by omega)⟩⟩)
      by_cases e : v = i
      · subst e; exact (hvb hbit).elim
      · exact h.2 v (by omega) hvb
    · have hbit' : set.testBit i = false := by simpa using hbit
      have hpl := conset_lt G (2 ^ i) (diff (2 ^ G.length - 1) set)
      have hle := pc_le (conset G (2 ^ i) (diff (2 ^ G.length - 1) set)) 9
      have hpc := pc_nine hpl hn
      have hall' : Go.bits .andNot .i64 (wrap64 (shl .i64 1 ((gi G).length : Int) - 1)) (set : Int) = ((diff (2 ^ G.length - 1) set : Nat) : Int) := by
        rw [gi_length, s_one _ (by omega), w64_small _ (by omega) (by omega), show (((2 ^ G.length : Nat) : Int) - 1) = ((2 ^ G.length - 1 : Nat) : Int) by omega, b_andNot _ _ (big (small G hn hall)) hbig]
      refine Ev.step (fun k => by rw [lampblackref02_Divide.l1, if_pos (by omega), if_pos (by omega), if_pos ((bit_zero set i hbig (by omega)).2 hbit'), hall', hwi]) ?_
      refine Ev.bind (reached_ev 9 G hG (by omega) _ i hW hin) (Ev.bind (size_ev _ (small G hn hpl)) ?_)
      by_cases hgt : 2 * pc (conset G (2 ^ i) (diff (2 ^ G.length - 1) set)) G.length ≤ G.length
      · refine Ev.if_neg (by rw [gi_length, w64_small _ (by omega) (by omega)]; omega) ?_
        refine ih (i + 1) ok (by omega) (hok.trans ⟨fun h => ⟨h.1, fun v hv hvb => ?_⟩, fun h => ⟨h.1, fun v hv => h.2 v (by omega)⟩⟩)
        by_cases e : v = i
        · subst e; exact hgt
        · exact h.2 v (by omega) hvb
      · refine Ev.if_pos (by rw [gi_length, w64_small _ (by omega) (by omega)]; omega) ?_
        refine ih (i + 1) false (by omega) ⟨fun h => (by cases h), fun h => (hgt (h.2 i (by omega) (by unfold bset; rw [hbit']; simp))).elim⟩
theorem refDivide_l0 (G : List Nat) (hG : Gr 9 G) : ∀ (d set best : Nat), set + d = 2 ^ G.length → best < 2 ^ G.length →
    Ev (fun k => lampblackref02_Divide.l0 k (gi G) (best : Int) ((2 ^ G.length : Nat) : Int) (set : Int)) ((picks G d best set : Nat) : Int) := by
  have hn := hG.most
  intro d
  induction d with
  | zero =>
    intro set best hs hb
    exact Ev.step (f := fun _ => some (best : Int)) (fun k => by rw [lampblackref02_Divide.l0, if_neg (by omega)]) (Ev.some rfl)
  | succ d ih =>
    intro set best hs hb
    have hset : set < 2 ^ G.length := by omega
    have next := ih (set + 1) (pick G best set) (by omega) (pick_lt hb hset)
    refine Ev.step (fun k => by rw [lampblackref02_Divide.l0, if_pos (by omega)]) (Ev.bind (size_ev _ (small G hn hset)) (Ev.bind (size_ev _ (small G hn hb)) ?_))
    simp only [picks, gi_length]
    refine refDivide_l1 G hG best set hb hset _ ?_ ?_ G.length 0 _ (by omega) ?_
    · by_cases h : pc set 9 < pc best 9 ∧ divB G set = true
      · left
        have e : pick G best set = set := by unfold pick; rw [if_pos h]
        rw [e] at next ⊢
        exact next
      · exact .inr h
    · by_cases h : pc set 9 < pc best 9 ∧ divB G set = true
      · exact .inr h
      · left
        have e : pick G best set = best := by unfold pick; rw [if_neg h]
        rw [e] at next ⊢
        exact next
    · rw [decide_eq_true_eq]
      exact ⟨fun h => ⟨by omega, fun v hv => by omega⟩, fun h => by omega⟩
theorem refDivide_ev (G : List Nat) (hG : Gr 9 G) : Ev (fun k => lampblackref02_Divide.f k (gi G)) ((divN G : Nat) : Int) := by
  have hn := hG.most
  have h9 : 2 ^ G.length ≤ 2 ^ 9 := Nat.pow_le_pow_right (by omega) hn
  have h2p := Nat.two_pow_pos G.length
  unfold lampblackref02_Divide.f
  rw [gi_length, s_one _ (by omega), w64_small _ (by omega) (by omega), show (((2 ^ G.length : Nat) : Int) - 1) = ((2 ^ G.length - 1 : Nat) : Int) by omega]
  exact refDivide_l0 G hG (2 ^ G.length) 0 (2 ^ G.length - 1) (by omega) (all_lt _)

/-- What the search finds divides, and is no greater than any set that does. -/
theorem picks_spec (G : List Nat) : ∀ (d set best : Nat), set + d = 2 ^ G.length → best < 2 ^ G.length → divB G best = true →
    picks G d best set < 2 ^ G.length ∧ divB G (picks G d best set) = true ∧ pc (picks G d best set) 9 ≤ pc best 9 ∧ ∀ X, set ≤ X → X < 2 ^ G.length → divB G X = true → pc (picks G d best set) 9 ≤ pc X 9 := by
  intro d
  induction d with
  | zero => intro set best hs hb hd; exact ⟨hb, hd, Nat.le_refl _, fun X h1 h2 _ => by omega⟩
  | succ d ih =>
    intro set best hs hb hd
    have hset : set < 2 ^ G.length := by omega
    have hd2 : divB G (pick G best set) = true := by unfold pick; split <;> simp_all
    have hle : pc (pick G best set) 9 ≤ pc best 9 := by unfold pick; split <;> omega
    obtain ⟨h1, h2, h3, h4⟩ := ih (set + 1) (pick G best set) (by omega) (pick_lt hb hset) hd2
    refine ⟨h1, h2, by simp only [picks]; omega, fun X hX1 hX2 hX3 => ?_⟩
    simp only [picks]
    by_cases e : X = set
    · subst e
      have : pc (pick G best X) 9 ≤ pc X 9 := by
        unfold pick
        by_cases hc : pc X 9 < pc best 9 ∧ divB G X = true
        · rw [if_pos hc]; exact Nat.le_refl _
        · rw [if_neg hc]; exact Nat.le_of_not_lt fun h => hc ⟨h, hX3⟩
      omega
    · exact h4 X (by omega) hX2 hX3
theorem lawSize_all : ∀ x : Fin 512, lampblacklaw02_size.f 12 (x.val : Int) = some (pc x.val 9 : Int) := by decide +kernel
theorem lawSize_ev (x : Nat) (hx : x < 512) : Ev (fun k => lampblacklaw02_size.f k (x : Int)) ((pc x 9 : Nat) : Int) := Ev.of (lampblacklaw02_size.mono _) (lawSize_all ⟨x, hx⟩)
end Go.Proofs.YtoffehihicabcaaDoor.X
end
section
/- WidthDivided, without Go and memory: Divide has at most Width and 1 nodes, and what is connected without them has at most half of the nodes. -/
set_option linter.unusedVariables false
namespace Go.Proofs.YtoffehihicabcaaDoor.Pure
open Go.RowKit Go.Proofs.YtoffehihicabcaaDoorW.PrintWords Go.Proofs.YtoffehihicabcaaDoorW.PrintLast Go.Proofs.YtoffehihicabcaaDoorW.PrintMore Go.Proofs.YtoffehihicabcaaDoor.T Go.Proofs.YtoffehihicabcaaDoor.X
theorem divided_l0 (G : List Nat) (hG : Gr 9 G) (D W : Nat) (hD : D < 2 ^ G.length) (hd : divB G D = true) (hle : pc D 9 ≤ W + 1) (hW : W < 100) : ∀ d i, i + d = G.length →
    Ev (fun k => lampblacklaw02_WidthDivided.l0 k (gi G) (D : Int) (W : Int) 0 (G.length : Int) (i : Int)) true := by
  have hn := hG.most
  have hbig := big (small G hn hD)
  have h9 : 2 ^ G.length ≤ 2 ^ 9 := Nat.pow_le_pow_right (by omega) hn
  have h2p := Nat.two_pow_pos G.length
  have hall := all_lt G.length
  have hWl : diff (2 ^ G.length - 1) D < 2 ^ G.length := Nat.lt_of_le_of_lt (diff_le _ _) hall
  intro d
  induction d with
  | zero =>
    intro i hi
    refine Ev.step (fun k => by rw [lampblacklaw02_WidthDivided.l0, if_neg (by omega), if_pos rfl, if_pos (by omega), if_pos (by rw [gi_length, s_one _ (by omega)]; omega)]) ?_
    exact Ev.bind (lawSize_ev D (small G hn hD)) (Ev.if_pos (by rw [w64_small _ (by omega) (by omega)]; omega) (Ev.bind awake_ev (Ev.some rfl)))
  | succ d ih =>
    intro i hi
    have hin : i < G.length := by omega
    have hwi : wrap64 ((i : Int) + 1) = ((i + 1 : Nat) : Int) := wrap_succ i (by omega)
    by_cases hbit : D.testBit i = true
    · refine Ev.step (fun k => by rw [lampblacklaw02_WidthDivided.l0, if_pos (by omega), if_pos (by omega), if_neg (fun h => by have := (bit_zero D i hbig (by omega)).1 h; rw [hbit] at this; cases this), hwi]) (ih (i + 1) (by omega))
    · have hbit' : D.testBit i = false := by simpa using hbit
      have hpl := conset_lt G (2 ^ i) (diff (2 ^ G.length - 1) D)
      have hpc := pc_nine hpl hn
      have hle2 := pc_le (conset G (2 ^ i) (diff (2 ^ G.length - 1) D)) 9
      have hall' : Go.bits .andNot .i64 (wrap64 (shl .i64 1 ((gi G).length : Int) - 1)) (D : Int) = ((diff (2 ^ G.length - 1) D : Nat) : Int) := by
        rw [gi_length, s_one _ (by omega), w64_small _ (by omega) (by omega), show (((2 ^ G.length : Nat) : Int) - 1) = ((2 ^ G.length - 1 : Nat) : Int) by omega, b_andNot _ _ (big (small G hn hall)) hbig]
      have hhalf := (divB_iff G D).1 hd i hin (by unfold bset; rw [hbit']; simp)
      refine Ev.step (fun k => by rw [lampblacklaw02_WidthDivided.l0, if_pos (by omega), if_pos (by omega), if_pos ((bit_zero D i hbig (by omega)).2 hbit'), hall', hwi]) ?_
      exact Ev.bind (reached_ev 9 G hG (by omega) _ i hWl hin) (Ev.bind (lawSize_ev _ (small G hn hpl)) (Ev.if_neg (by rw [gi_length, w64_small _ (by omega) (by omega)]; omega) (ih (i + 1) (by omega))))
theorem WidthDivided : ∀ (l0 : List Int), l0.length ≤ maxLen → l0.length * 8 ≤ 140737488351232 → (∀ x ∈ l0, (Lit.int .i64 x).wf = true) → ∃ k, lampblacklaw02_WidthDivided.f k l0 = some true := by
  intro g _ hl _
  apply Ev.rounds
  obtain ⟨h, e, e1, e2, e3⟩ := few_eq g (by omega)
  unfold lampblacklaw02_WidthDivided.f
  refine Ev.bind1 e ?_
  by_cases hc : chk 9 g = true
  · obtain ⟨G, rfl, hG⟩ := (chk_iff 9 (by omega) _).1 hc
    have hn := hG.most
    obtain ⟨W, hW, hWe⟩ := Width_ev G hG
    have e' := e
    rw [e1 hc] at e' ⊢
    obtain ⟨s1, s2, _, s4⟩ := picks_spec G (2 ^ G.length) 0 (2 ^ G.length - 1) (by omega) (all_lt _) (divB_all G)
    obtain ⟨X, x1, x2, x3⟩ := div_exists hG hW
    have hle : pc (divN G) 9 ≤ W + 1 := Nat.le_trans (s4 X (Nat.zero_le _) x1 x2) (by rw [pc_nine x1 hn]; exact x3)
    have hWs : W ≤ 9 := by
      obtain ⟨W', h1, h2⟩ := width_exists hG
      rw [hW.uniq h1]; omega
    refine Ev.bind (Divide_ev G hG) (Ev.bind1 e' (Ev.bind hWe (Ev.if_pos rfl ?_)))
    have := divided_l0 G hG (divN G) W s1 s2 hle (by omega) G.length 0 (by omega)
    rw [gi_length]
    exact this
  · have hc' : chk 9 g = false := by simpa using hc
    exact Ev.bind (Divide_bad h (by omega) (e2 hc')) (Ev.bind1 e (Ev.bind (Width_bad h (by omega) (e2 hc')) (Ev.if_neg (by simp) (Ev.if_pos rfl (Ev.if_pos rfl (Ev.bind awake_ev (Ev.some rfl)))))))
end Go.Proofs.YtoffehihicabcaaDoor.Pure
end
