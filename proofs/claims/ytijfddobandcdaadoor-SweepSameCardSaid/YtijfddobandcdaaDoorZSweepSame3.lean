/- Part 3 of what SweepSame rests on: contracts of the functions that it reaches, and what they compute, in plain words. -/
import Derived.Test.YtijfddobandcdaaDoorZSweepSame2
import Derived.Test.YtijfddobandcdaaDoorZSweepSame1
import Derived.Test.YtijfddobandcdaaDoorZSweepSame0
set_option linter.unusedVariables false
set_option linter.unusedSimpArgs false
section
/- The bags of a layout are a path decomposition, whose width is the breadth; Breadth. -/
namespace Go.Proofs.YtijfddobandcdaaDoor.X
open Go.RowKit YtijfddobandcdaaDoorW.PrintWords YtijfddobandcdaaDoorW.PrintLast YtijfddobandcdaaDoorW.PrintMore YtijfddobandcdaaDoor.T
noncomputable def brOf (G : List Nat) : Nat → List Nat → Nat
 | _, [] => 0
 | S, v :: P => max (bc G (S ||| 2 ^ v)) (brOf G (S ||| 2 ^ v) P)
theorem bc_le (G : List Nat) (S : Nat) : bc G S ≤ 9 := pc_le _ _
theorem brOf_le (G : List Nat) : ∀ (P : List Nat) (S : Nat), brOf G S P ≤ 9
 | [], _ => by simp [brOf]
 | v :: P, S => by simp only [brOf]; have := bc_le G (S ||| 2 ^ v); have := brOf_le G P (S ||| 2 ^ v); omega
theorem breadth_l0 (G : List Nat) (hG : Gr 7 G) (P : List Nat) (hP : ∀ v ∈ P, v < G.length) (hl : P.length < 2 ^ 40) : ∀ (d i S m : Nat), i + d = P.length → S < 2 ^ G.length →
  Ev (fun k => sweep_town_breadth.l0 k (gi G) (S : Int) (m : Int) (gi P) (P.length : Int) (i : Int)) ((max m (brOf G S (P.drop i)) : Nat) : Int) := by
 have hn := hG.most
 intro d
 induction d with
 | zero =>
  intro i S m hi hS
  refine Ev.step (f := fun _ => some (m : Int)) (fun k => by rw [sweep_town_breadth.l0, if_neg (by omega)]) (Ev.some ?_)
  rw [List.drop_eq_nil_of_le (by omega)]
  simp [brOf]
 | succ d ih =>
  intro i S m hi hS
  have hi' : i < P.length := by omega
  have hm := hP _ (List.getElem_mem hi')
  have hwi := wrap_succ i (by omega)
  have hr : rd (gi P) (i : Int) = ((P[i] : Nat) : Int) := by rw [rd_gi, List.getD_eq_getElem?_getD, List.getElem?_eq_getElem hi']; rfl
  have hS62 := big (small G (by omega) hS)
  have h7 : P[i] < 62 := by omega
  have HS2 := Aside0.mk (or_new hS hm)
  have e62 : 2 ^ P[i] < 2 ^ 62 := Nat.pow_lt_pow_right (by omega) h7
  have hor : Go.bits .or .i64 (S : Int) (shl .i64 1 ((P[i] : Nat) : Int)) = ((S ||| 2 ^ P[i] : Nat) : Int) := by rw [s_one _ h7, b_or _ _ hS62 e62]
  clear hS e62
  refine Ev.step (f := fun k => (sweep_town_border.f (gi G) ((S ||| 2 ^ P[i] : Nat) : Int)).bind fun t217 => (sweep_count.f t217).bind fun t218 => sweep_town_breadth.l0 k (gi G) ((S ||| 2 ^ P[i] : Nat) : Int) (mx (m : Int) t218) (gi P) (P.length : Int) ((i + 1 : Nat) : Int)) (fun k => ?_) ?_
  ·rw [sweep_town_breadth.l0, if_pos (by omega), if_pos (by omega), if_pos (by rw [gi_length]; omega), hr, if_pos (by omega), hor, hwi]
  ·refine Ev.bind1 (border_eq G hG _ HS2.out) (Ev.bind1 (count_eq _ (small G (by omega) (bor_lt G _))) ?_)
   rw [mx_nat, List.drop_eq_getElem_cons hi', brOf]
   have := ih (i + 1) (S ||| 2 ^ P[i]) (max m (bc G (S ||| 2 ^ P[i]))) (by omega) HS2.out
   rw [show max m (max (bc G (S ||| 2 ^ P[i])) (brOf G (S ||| 2 ^ P[i]) (P.drop (i + 1)))) = max (max m (bc G (S ||| 2 ^ P[i]))) (brOf G (S ||| 2 ^ P[i]) (P.drop (i + 1))) by omega]
   exact this
theorem breadth_ev (G : List Nat) (hG : Gr 7 G) (P : List Nat) (hP : ∀ v ∈ P, v < G.length) (hl : P.length < 2 ^ 40) : Ev (fun k => sweep_town_breadth.f k (gi G) (gi P)) ((brOf G 0 P : Nat) : Int) := by
 unfold sweep_town_breadth.f
 rw [gi_length]
 have := breadth_l0 G hG P hP hl P.length 0 0 0 (by omega) (Nat.two_pow_pos _)
 rwa [List.drop_zero, Nat.zero_max] at this
theorem Breadth_yes (G : List Nat) (hG : Gr 7 G) (P : List Nat) (h : IsOrd G.length (gi P)) : Ev (fun k => sweep_Breadth.f k (gi G) (gi P)) (((brOf G 0 P : Nat) : Int), 0) := by
 have hr := read_ev (gi G) (by rw [gi_length]; have := hG.most; omega)
 rw [(chk_iff 7 (by omega) _).2 ⟨G, rfl, hG⟩] at hr
 have hl := h.length
 rw [gi_length] at hl
 obtain ⟨r, h1, h2⟩ := isLayout_ev G hG (gi P) (by rw [gi_length]; have := hG.most; omega)
 rw [h2.2 h] at h1
 have hP : ∀ v ∈ P, v < G.length := by
  obtain ⟨Q, e, _, h3, _⟩ := h
  rw [gi_inj e]; exact h3
 unfold sweep_Breadth.f
 exact Ev.bind hr (Ev.if_pos rfl (Ev.bind h1 (Ev.if_pos rfl (Ev.bind (breadth_ev G hG P hP (by have := hG.most; omega)) (Ev.some rfl)))))
theorem Bags_yes (G : List Nat) (hG : Gr 7 G) (P : List Nat) (h : IsOrd G.length (gi P)) : Ev (fun k => sweep_Bags.f k (gi G) (gi P)) (gi (bagsOf G 0 P), 0) := by
 have hr := read_ev (gi G) (by rw [gi_length]; have := hG.most; omega)
 rw [(chk_iff 7 (by omega) _).2 ⟨G, rfl, hG⟩] at hr
 have hl := h.length
 rw [gi_length] at hl
 obtain ⟨r, h1, h2⟩ := isLayout_ev G hG (gi P) (by rw [gi_length]; have := hG.most; omega)
 rw [h2.2 h] at h1
 have hP : ∀ v ∈ P, v < G.length := by
  obtain ⟨Q, e, _, h3, _⟩ := h
  rw [gi_inj e]; exact h3
 unfold sweep_Bags.f
 exact Ev.bind hr (Ev.if_pos rfl (Ev.bind h1 (Ev.if_pos rfl (Ev.bind (bags_ev G hG P hP (by have := hG.most; omega)) (Ev.some rfl)))))
theorem Bags_no (G : List Nat) (hG : Gr 7 G) (l : List Int) (hl : l.length < 2 ^ 60) (h : ¬ IsOrd G.length l) : Ev (fun k => sweep_Bags.f k (gi G) l) (([] : List Int), 2) := by
 have hr := read_ev (gi G) (by rw [gi_length]; have := hG.most; omega)
 rw [(chk_iff 7 (by omega) _).2 ⟨G, rfl, hG⟩] at hr
 obtain ⟨r, h1, h2⟩ := isLayout_ev G hG l hl
 have hr2 : r = false := by cases r <;> simp_all
 rw [hr2] at h1
 unfold sweep_Bags.f
 exact Ev.bind hr (Ev.if_pos rfl (Ev.bind h1 (Ev.if_neg (by simp) (Ev.some rfl))))
/-! A layout's bags, as they go on behind S: S and the nodes of P are all nodes. -/
structure Goes (n S : Nat) (P : List Nat) : Prop where
 nodup : P.Nodup
 new : ∀ v ∈ P, v < n ∧ ¬ bset S v
 all : ∀ j, j < n → bset S j ∨ j ∈ P
theorem Goes.tail {n S v : Nat} {P : List Nat} (h : Goes n S (v :: P)) : Goes n (S ||| 2 ^ v) P where
 nodup := (List.nodup_cons.1 h.nodup).2
 new := fun u hu => ⟨(h.new u (List.mem_cons_of_mem _ hu)).1, fun hb => by
  rcases (or_bset _ _ _).1 hb with h1 | h1
  ·exact (h.new u (List.mem_cons_of_mem _ hu)).2 h1
  ·rw [(two_pow_bit v u).1 h1] at hu; exact (List.nodup_cons.1 h.nodup).1 hu⟩
 all := fun j hj => by
  rcases h.all j hj with h1 | h1
  ·exact .inl ((or_bset _ _ _).2 (.inl h1))
  ·rcases List.mem_cons.1 h1 with e | e
   ·exact .inl ((or_bset _ _ _).2 (.inr ((two_pow_bit v j).2 e)))
   ·exact .inr e
theorem goes_of {n : Nat} {P : List Nat} (h : IsOrd n (gi P)) : Goes n 0 P := by
 obtain ⟨Q, e, h1, h2, h3⟩ := h
 obtain rfl := gi_inj e
 exact ⟨h1, fun v hv => ⟨h2 v hv, fun hb => by unfold bset at hb; simp at hb⟩, fun j hj => .inr (covers_of_nodup h3 h1 h2 j hj)⟩
theorem late_marks {G : List Nat} (hG : Gr 7 G) (v : Nat) : ∀ (P : List Nat) (S : Nat) (p : Bool), bset S v → v ∉ P → (p = false → ¬ ∃ u, Adj G v u ∧ ¬ bset S u) → starts p (marks v (bagsOf G S P)) = 0 := by
 intro P
 induction P with
 | nil => intro S p _ _ _; rfl
 | cons x P ih =>
  intro S p hS hx hp
  have hvx : v ≠ x := fun e => hx (e ▸ List.mem_cons_self)
  simp only [bagsOf, marks, List.map_cons, starts]
  have hb : (bor G S ||| 2 ^ x).testBit v = true ↔ ∃ u, Adj G v u ∧ ¬ bset S u := by
   show bset _ v ↔ _
   rw [or_bset, bor_bit hG, two_pow_bit]
   exact ⟨fun h => h.elim (fun h => h.2) (fun h => (hvx h).elim), fun h => .inl ⟨hS, h⟩⟩
  have key := ih (S ||| 2 ^ x) ((bor G S ||| 2 ^ x).testBit v) ((or_bset _ _ _).2 (.inl hS)) (fun h => hx (List.mem_cons_of_mem _ h)) (fun h => by
   rintro ⟨u, hu, hu2⟩
   rw [hb.2 ⟨u, hu, fun h => hu2 ((or_bset _ _ _).2 (.inl h))⟩] at h
   cases h)
  unfold marks at key
  rw [key]
  by_cases h1 : (bor G S ||| 2 ^ x).testBit v = true
  ·cases p with
   | true => rw [if_neg (by simp)]
   | false => exact (hp rfl (hb.1 h1)).elim
  ·rw [if_neg (fun h => h1 h.1)]
theorem bags_run {G : List Nat} (hG : Gr 7 G) (v : Nat) : ∀ (P : List Nat) (S : Nat), Goes G.length S P → v ∈ P → starts false (marks v (bagsOf G S P)) = 1 := by
 intro P
 induction P with
 | nil => intro S _ h; simp at h
 | cons x P ih =>
  intro S hg hv
  have hvS := (hg.new v hv).2
  simp only [bagsOf, marks, List.map_cons, starts]
  by_cases e : v = x
  ·subst e
   have hb : (bor G S ||| 2 ^ v).testBit v = true := (or_bset _ _ _).2 (.inr ((two_pow_bit v v).2 rfl))
   rw [hb, if_pos (by simp)]
   have := late_marks hG v P (S ||| 2 ^ v) true ((or_bset _ _ _).2 (.inr ((two_pow_bit v v).2 rfl))) (List.nodup_cons.1 hg.nodup).1 (fun h => by cases h)
   unfold marks at this
   rw [this]
  ·have hb : (bor G S ||| 2 ^ x).testBit v = false := by
    cases h : (bor G S ||| 2 ^ x).testBit v
    ·rfl
    ·rcases (or_bset _ _ _).1 h with h1 | h1
     ·exact (hvS ((bor_bit hG _ _).1 h1).1).elim
     ·exact (e ((two_pow_bit x v).1 h1)).elim
   rw [hb, if_neg (by simp), Nat.zero_add]
   exact ih _ hg.tail ((List.mem_cons.1 hv).resolve_left e)
theorem bags_edge {G : List Nat} (hG : Gr 7 G) (v u : Nat) (ha : Adj G v u) : ∀ (P : List Nat) (S : Nat), Goes G.length S P → (bset S v ∨ v ∈ P) → u ∈ P → (v ∈ P → False) ∨ True → ∃ b ∈ bagsOf G S P, bset b v ∧ bset b u := by
 intro P
 induction P with
 | nil => intro S _ _ h; simp at h
 | cons x P ih =>
  intro S hg hv hu _
  simp only [bagsOf]
  by_cases e : u = x
  ·subst e
   rcases hv with h | h
   ·exact ⟨_, List.mem_cons_self, (or_bset _ _ _).2 (.inl ((bor_bit hG _ _).2 ⟨h, u, ha, (hg.new u hu).2⟩)), (or_bset _ _ _).2 (.inr ((two_pow_bit u u).2 rfl))⟩
   ·rcases List.mem_cons.1 h with e2 | h2
    ·subst e2; exact (hG.adj_irr ha).elim
    ·-- v comes behind u: the bag of v has both
     have ha' := hG.adj_symm ha
     have : ∀ (P : List Nat) (S : Nat), Goes G.length S P → bset S u → v ∈ P → ∃ b ∈ bagsOf G S P, bset b v ∧ bset b u := by
      intro P
      induction P with
      | nil => intro S _ _ h; simp at h
      | cons y P ih2 =>
       intro S hg hSu hv
       simp only [bagsOf]
       by_cases e3 : v = y
       ·subst e3
        exact ⟨_, List.mem_cons_self, (or_bset _ _ _).2 (.inr ((two_pow_bit v v).2 rfl)), (or_bset _ _ _).2 (.inl ((bor_bit hG _ _).2 ⟨hSu, v, ha', (hg.new v hv).2⟩))⟩
       ·obtain ⟨b, hb, h3⟩ := ih2 _ hg.tail ((or_bset _ _ _).2 (.inl hSu)) ((List.mem_cons.1 hv).resolve_left e3)
        exact ⟨b, List.mem_cons_of_mem _ hb, h3⟩
     obtain ⟨b, hb, h3⟩ := this P _ hg.tail ((or_bset _ _ _).2 (.inr ((two_pow_bit u u).2 rfl))) h2
     exact ⟨b, List.mem_cons_of_mem _ hb, h3⟩
  ·have hu2 := (List.mem_cons.1 hu).resolve_left e
   have hv2 : bset (S ||| 2 ^ x) v ∨ v ∈ P := by
    rcases hv with h | h
    ·exact .inl ((or_bset _ _ _).2 (.inl h))
    ·rcases List.mem_cons.1 h with e2 | h2
     ·exact .inl ((or_bset _ _ _).2 (.inr ((two_pow_bit x v).2 e2)))
     ·exact .inr h2
   obtain ⟨b, hb, h3⟩ := ih _ hg.tail hv2 hu2 (.inr trivial)
   exact ⟨b, List.mem_cons_of_mem _ hb, h3⟩
theorem bags_lt {G : List Nat} : ∀ (P : List Nat) (S : Nat), (∀ v ∈ P, v < G.length) → ∀ b ∈ bagsOf G S P, b < 2 ^ G.length
 | [], _, _ => by simp [bagsOf]
 | v :: P, S, h => by
  intro b hb
  rcases List.mem_cons.1 hb with e | e
  ·rw [e]; exact or_new (bor_lt G S) (h v List.mem_cons_self)
  ·exact bags_lt P _ (fun u hu => h u (List.mem_cons_of_mem _ hu)) b e
theorem bags_path {G : List Nat} (hG : Gr 7 G) {P : List Nat} (h : IsOrd G.length (gi P)) : PathDec G (bagsOf G 0 P) := by
 have hg := goes_of h
 have hl := h.length
 rw [gi_length] at hl
 have hin : ∀ v, v < G.length → v ∈ P := fun v hv => (hg.all v hv).resolve_left (fun hb => by unfold bset at hb; simp at hb)
 exact ⟨by rw [bagsOf_length]; have := hG.pos; omega, by rw [bagsOf_length]; have := hG.most; omega, bags_lt P 0 (fun v hv => (hg.new v hv).1),
  fun v hv => (starts_one _).1 (bags_run hG v P 0 hg (hin v hv)), fun v u hv ha => bags_edge hG v u ha P 0 hg (.inr (hin v hv)) (hin u (hG.adj_lt ha)) (.inr trivial)⟩
theorem pc_new {x v n : Nat} (hv : v < n) (h : ¬ bset x v) : pc (x ||| 2 ^ v) n = pc x n + 1 := by
 apply Nat.le_antisymm
 ·exact pc_onto1 v id fun j hj hb => by
   rcases (or_bset _ _ _).1 hb with h1 | h1
   ·exact .inr ⟨j, hj, h1, rfl⟩
   ·exact .inl ((two_pow_bit v j).1 h1)
 ·refine pc_lt v n (fun j _ h => (or_bset _ _ _).2 (.inl h)) hv ?_ ((or_bset _ _ _).2 (.inr ((two_pow_bit v v).2 rfl)))
  cases hx : x.testBit v
  ·rfl
  ·exact (h hx).elim
theorem bags_most {G : List Nat} (hG : Gr 7 G) : ∀ (P : List Nat) (S : Nat), Goes G.length S P → P ≠ [] → mostOf (bagsOf G S P) = max (bc G S) (brOf G S P) + 1 := by
 intro P
 induction P with
 | nil => intro S _ h; exact (h rfl).elim
 | cons v P ih =>
  intro S hg _
  have hn := hG.most
  have hvS := (hg.new v List.mem_cons_self)
  have h1 : pc (bor G S ||| 2 ^ v) 9 = bc G S + 1 := pc_new (by omega) (fun h => hvS.2 ((bor_bit hG _ _).1 h).1)
  simp only [bagsOf, brOf]
  have h2 : mostOf ((bor G S ||| 2 ^ v) :: bagsOf G (S ||| 2 ^ v) P) = max (pc (bor G S ||| 2 ^ v) 9) (mostOf (bagsOf G (S ||| 2 ^ v) P)) := rfl
  rw [h2, h1]
  cases P with
  | nil =>
   have h3 : bc G (S ||| 2 ^ v) = 0 := by
    have h4 := hg.tail.all
    unfold bc
    have := pc_onto (x := bor G (S ||| 2 ^ v)) (y := 0) (n := 9) [] id (fun j hj hb => by
     obtain ⟨_, u, hu, hu2⟩ := (bor_bit hG _ _).1 hb
     rcases h4 u (hG.adj_lt hu) with h | h
     ·exact (hu2 h).elim
     ·simp at h)
    have h5 : pc 0 9 = 0 := by decide
    simp at this
    omega
   rw [h3]
   simp [bagsOf, brOf, mostOf]
  | cons y P =>
   rw [ih _ hg.tail (by simp)]
   omega
theorem bags_width {G : List Nat} (hG : Gr 7 G) {P : List Nat} (h : IsOrd G.length (gi P)) : mostOf (bagsOf G 0 P) = brOf G 0 P + 1 := by
 have hl := h.length
 rw [gi_length] at hl
 rw [bags_most hG P 0 (goes_of h) (fun e => by rw [e] at hl; have := hG.pos; simp at hl; omega)]
 have h0 : bc G 0 = 0 := by
  unfold bc
  have e : bor G 0 = 0 := eq_of_bits fun j => by
   show bset _ _ ↔ bset _ _
   rw [bor_bit hG]
   exact ⟨fun h => h.1, fun h => by unfold bset at h; simp at h⟩
  rw [e]
  decide
 rw [h0, Nat.zero_max]
end Go.Proofs.YtijfddobandcdaaDoor.X
end
section
namespace Go.Proofs.YtijfddobandcdaaDoor.X
open Go.RowKit YtijfddobandcdaaDoorW.PrintWords YtijfddobandcdaaDoorW.PrintLast YtijfddobandcdaaDoorW.PrintMore
attribute [local go_sem] max2_int min2_int max_two min_two max_three min_three max_four min_four
/-! ### lampblackref03_IsPath: function 42 -/
mutual
def lampblackref03_IsPath.j0 : Nat → List Int → List Int → Bool → Option (Int × Bool)
 | 0, _, _, _ => none
 | k + 1, x0, x1, x21 => if x21 = true then (some (0, false)) else (lampblackref03_IsPath.l0 k x0 x1 0 x1 (x1.length : Int) 0)
def lampblackref03_IsPath.l0 : Nat → List Int → List Int → Int → List Int → Int → Int → Option (Int × Bool)
 | 0, _, _, _, _, _, _ => none
 | k + 1, x0, x1, x6, x22, x23, x24 => if x24 < x23 then (if 0 ≤ x24 then (if x24 < (x22.length : Int) then (if (rd x22 x24) < 0 then (some (0, false)) else (if (rd x22 x24) ≥ (shl .i64 1 (x0.length : Int)) then (some (0, false)) else ((lampblackref02_Size.f k (rd x22 x24)).bind fun t486 => (lampblackref03_IsPath.l0 k x0 x1 (mx x6 t486) x22 x23 (wrap64 (x24 + 1)))))) else (none)) else (none)) else (lampblackref03_IsPath.l1 k x0 x1 x6 (x0.length : Int) 0)
def lampblackref03_IsPath.l1 : Nat → List Int → List Int → Int → Int → Int → Option (Int × Bool)
 | 0, _, _, _, _, _ => none
 | k + 1, x0, x1, x6, x43, x44 => if x44 < x43 then (lampblackref03_IsPath.l2 k x0 x1 x6 x44 0 0 x43 x44 x1 (x1.length : Int) 0) else (some (wrap64 (x6 - 1), true))
def lampblackref03_IsPath.l2 : Nat → List Int → List Int → Int → Int → Int → Int → Int → Int → List Int → Int → Int → Option (Int × Bool)
 | 0, _, _, _, _, _, _, _, _, _, _, _ => none
 | k + 1, x0, x1, x6, x9, x10, x11, x43, x44, x47, x48, x49 => if x49 < x48 then (if 0 ≤ x49 then (if x49 < (x47.length : Int) then (if 0 ≤ x9 then (if (Go.bits .and .i64 (shr .i64 (rd x47 x49) x9) 1) = 0 then (lampblackref03_IsPath.l2 k x0 x1 x6 x9 x10 x11 x43 x44 x47 x48 (wrap64 (x49 + 1))) else (if x49 = 0 then (lampblackref03_IsPath.l2 k x0 x1 x6 x9 (wrap64 (x10 + 1)) (Go.bits .or .i64 x11 (rd x47 x49)) x43 x44 x47 x48 (wrap64 (x49 + 1))) else (if 0 ≤ (wrap64 (x49 - 1)) then (if (wrap64 (x49 - 1)) < (x1.length : Int) then (if (Go.bits .and .i64 (shr .i64 (rd x1 (wrap64 (x49 - 1))) x9) 1) = 0 then (lampblackref03_IsPath.l2 k x0 x1 x6 x9 (wrap64 (x10 + 1)) (Go.bits .or .i64 x11 (rd x47 x49)) x43 x44 x47 x48 (wrap64 (x49 + 1))) else (lampblackref03_IsPath.l2 k x0 x1 x6 x9 x10 (Go.bits .or .i64 x11 (rd x47 x49)) x43 x44 x47 x48 (wrap64 (x49 + 1)))) else (none)) else (none)))) else (none)) else (none)) else (none)) else (if x10 = 1 then (if 0 ≤ x9 then (if x9 < (x0.length : Int) then (if (Go.bits .andNot .i64 (rd x0 x9) x11) = 0 then (lampblackref03_IsPath.l1 k x0 x1 x6 x43 (wrap64 (x44 + 1))) else (some (0, false))) else (none)) else (none)) else (some (0, false)))
end
end Go.Proofs.YtijfddobandcdaaDoor.X
end
section
namespace Go.Proofs.YtijfddobandcdaaDoor.X
open Go.RowKit YtijfddobandcdaaDoorW.PrintWords YtijfddobandcdaaDoorW.PrintLast YtijfddobandcdaaDoorW.PrintMore
attribute [local go_sem] max2_int min2_int max_two min_two max_three min_three max_four min_four
/-! ### lampblackref03_Follow: function 44 -/
mutual
def lampblackref03_Follow.l0 : Nat → List Int → List (S70) → Int → List Int → Int → Int → Option ((List (S70)))
 | 0, _, _, _, _, _, _ => none
 | k + 1, x0, x5, x6, x15, x16, x17 => if x17 < x16 then (if 0 ≤ x17 then (if x17 < (x15.length : Int) then (lampblackref03_Follow.l1 k x0 x5 x6 (rd x15 x17) x15 x16 x17 (x0.length : Int) 0) else (none)) else (none)) else (some x5)
def lampblackref03_Follow.l1 : Nat → List Int → List (S70) → Int → Int → List Int → Int → Int → Int → Int → Option ((List (S70)))
 | 0, _, _, _, _, _, _, _, _, _ => none
 | k + 1, x0, x5, x6, x8, x15, x16, x17, x22, x23 => if x23 < x22 then (if 0 ≤ x23 then (if (Go.bits .and .i64 (shr .i64 (Go.bits .andNot .i64 x6 x8) x23) 1) = 1 then (if x5.length < 8796093022208 then (lampblackref03_Follow.l1 k x0 (x5 ++ [(⟨false, x23⟩ : S70)]) x6 x8 x15 x16 x17 x22 (wrap64 (x23 + 1))) else (none)) else (lampblackref03_Follow.l1 k x0 x5 x6 x8 x15 x16 x17 x22 (wrap64 (x23 + 1)))) else (none)) else (lampblackref03_Follow.l2 k x0 x5 x6 x8 x15 x16 x17 (x0.length : Int) 0)
def lampblackref03_Follow.l2 : Nat → List Int → List (S70) → Int → Int → List Int → Int → Int → Int → Int → Option ((List (S70)))
 | 0, _, _, _, _, _, _, _, _, _ => none
 | k + 1, x0, x5, x6, x8, x15, x16, x17, x40, x41 => if x41 < x40 then (if 0 ≤ x41 then (if (Go.bits .and .i64 (shr .i64 (Go.bits .andNot .i64 x8 x6) x41) 1) = 1 then (if x5.length < 8796093022208 then (lampblackref03_Follow.l2 k x0 (x5 ++ [(⟨true, x41⟩ : S70)]) x6 x8 x15 x16 x17 x40 (wrap64 (x41 + 1))) else (none)) else (lampblackref03_Follow.l2 k x0 x5 x6 x8 x15 x16 x17 x40 (wrap64 (x41 + 1)))) else (none)) else (lampblackref03_Follow.l0 k x0 x5 x8 x15 x16 (wrap64 (x17 + 1)))
end
end Go.Proofs.YtijfddobandcdaaDoor.X
end
section
namespace Go.Proofs.YtijfddobandcdaaDoor.X
open Go.RowKit YtijfddobandcdaaDoorW.PrintWords YtijfddobandcdaaDoorW.PrintLast YtijfddobandcdaaDoorW.PrintMore
attribute [local go_sem] max2_int min2_int max_two min_two max_three min_three max_four min_four
theorem eqA70 (d : Nat) (w : World) (x0 y0 : Bool) (x1 y1 : Int) :
  (Op.equalIn (d + 2) 70 (.agg #[.bool x0, .int .i64 x1]) (.agg #[.bool y0, .int .i64 y1])).run Tryd.prog w = .ok (x0 == y0 && (x1 == y1)) w := by
 refine eqA_of Tryd.underlying70 (by kernel_rfl) ?_
 refine eqf_cons (by rfl) (by go_simp; rfl) (by go_simp; rfl) (by go_simp) ?_
 exact eqf_last (by rfl) (by go_simp; rfl) (by go_simp; rfl) (by go_simp)
end Go.Proofs.YtijfddobandcdaaDoor.X
end
section
namespace Go.Proofs.YtijfddobandcdaaDoor.X
open Go.RowKit YtijfddobandcdaaDoorW.PrintWords YtijfddobandcdaaDoorW.PrintLast YtijfddobandcdaaDoorW.PrintMore
attribute [local go_sem] max2_int min2_int max_two min_two max_three min_three max_four min_four
attribute [local go_sem high] eqA70
/-! ### lampblackref03_Act: function 43 -/
def lampblackref03_Act.l0 : Nat → List (S70) → List (S70) → Int → Int → Option (Bool)
 | 0, _, _, _, _ => none
 | k + 1, x0, x1, x12, x13 => if x13 < x12 then (if 0 ≤ x13 then (if x13 < (x0.length : Int) then (if x13 < (x1.length : Int) then (if (!(((rd_T70 x0 x13).f0) == ((rd_T70 x1 x13).f0)) || (!(((rd_T70 x0 x13).f1) == ((rd_T70 x1 x13).f1)))) = true then (some false) else (lampblackref03_Act.l0 k x0 x1 x12 (wrap64 (x13 + 1)))) else (none)) else (none)) else (none)) else (some true)
end Go.Proofs.YtijfddobandcdaaDoor.X
end
section
namespace Go.Proofs.YtijfddobandcdaaDoor.X
open Go.RowKit YtijfddobandcdaaDoorW.PrintWords YtijfddobandcdaaDoorW.PrintLast YtijfddobandcdaaDoorW.PrintMore
attribute [local go_sem] max2_int min2_int max_two min_two max_three min_three max_four min_four
/-! ### lampblacklaw03_own: function 25 -/
def lampblacklaw03_own.l0 : Nat → List (S70) → List (S85) → Int → Int → Option ((List (S70)))
 | 0, _, _, _, _ => none
 | k + 1, x3, x6, x7, x8 => if x8 < x7 then (if 0 ≤ x8 then (if x8 < (x6.length : Int) then (if x3.length < 8796093022208 then (lampblacklaw03_own.l0 k (x3 ++ [(⟨(rd_T85 x6 x8).f0, (rd_T85 x6 x8).f1⟩ : S70)]) x6 x7 (wrap64 (x8 + 1))) else (none)) else (none)) else (none)) else (some x3)
end Go.Proofs.YtijfddobandcdaaDoor.X
end
section
/- The reference's IsPath and Follow, and the program's follow: what they compute. -/
namespace Go.Proofs.YtijfddobandcdaaDoor.X
open Go.RowKit YtijfddobandcdaaDoorW.PrintWords YtijfddobandcdaaDoorW.PrintLast YtijfddobandcdaaDoorW.PrintMore YtijfddobandcdaaDoor.T
theorem els_rest : ∀ z : Fin 512, z.val ≠ 0 → els z.val 9 = Lib.ctz 64 z.val :: els (rest z.val) 9 := by decide +kernel
theorem folTo_eq (b : Bool) : ∀ (k z : Nat) (xs : List S85), pc z 9 < k → z < 512 → folTo b k z xs = some (xs ++ (els z 9).map fun (v : Nat) => (⟨b, (v : Int)⟩ : S85))
 | 0, _, _, h, _ => by omega
 | k + 1, z, xs, h, hz => by
  simp only [folTo]
  by_cases h0 : z = 0
  ·subst h0
   rw [if_pos rfl, show els 0 9 = [] from by decide]
   simp
  ·have hr : rest z < 512 := by
    have := rest_lt' (n := 9) hz h0 (by omega)
    omega
   rw [if_neg h0, folTo_eq b k (rest z) _ (by have := rest_pc hz h0; omega) hr, els_rest ⟨z, hz⟩ h0]
   simp
def planOf : List Nat → Nat → List S85 → List S85
 | [], _, out => out
 | b :: B, now, out => planOf B b ((out ++ (els (diff now b) 9).map fun (v : Nat) => (⟨false, (v : Int)⟩ : S85)) ++ (els (diff b now) 9).map fun (v : Nat) => (⟨true, (v : Int)⟩ : S85))
theorem folAll_eq : ∀ (B : List Nat) (now : Nat) (out : List S85), (∀ b ∈ B, b < 512) → now < 512 → out.length + 18 * B.length ≤ 50000 → folAll (gi B) now out = some (planOf B now out)
 | [], now, out, _, _, _ => rfl
 | b :: B, now, out, hB, hn, hl => by
  have hb := hB b List.mem_cons_self
  have h1 := pc_le (diff now b) 9
  have h2 := pc_le (diff b now) 9
  have e1 := els_length (diff now b) 9
  have e2 := els_length (diff b now) 9
  simp only [List.length_cons] at hl
  show folAll ((b : Int) :: gi B) now out = _
  simp only [folAll, planOf]
  rw [if_pos ⟨by omega, by omega⟩, Int.toNat_natCast, folTo_eq false 64 _ _ (by omega) (Nat.lt_of_le_of_lt (diff_le _ _) hn), Option.bind_some, folTo_eq true 64 _ _ (by omega) (Nat.lt_of_le_of_lt (diff_le _ _) hb), Option.bind_some]
  rw [if_pos (by simp; omega)]
  exact folAll_eq B b _ (fun x hx => hB x (List.mem_cons_of_mem _ hx)) hb (by simp; omega)
theorem follow_eq (B : List Nat) (hB : ∀ b ∈ B, b < 512) (hl : B.length ≤ 30) : sweep_follow.f (gi B) = some (planOf (B ++ [0]) 0 []) := by
 unfold sweep_follow.f
 rw [if_pos (by rw [gi_length]; omega), show gi B ++ [0] = gi (B ++ [0]) from gi_snoc B 0]
 exact folAll_eq (B ++ [0]) 0 [] (by
  intro b hb
  rcases List.mem_append.1 hb with h | h
  ·exact hB b h
  ·rw [List.mem_singleton.1 h]; omega) (by omega) (by simp; omega)
def conv (p : S85) : S70 := ⟨p.f0, p.f1⟩
end Go.Proofs.YtijfddobandcdaaDoor.X
end
section
/- The reference's Layout: the first of all orders with the least breadth; it is the program's. -/
namespace Go.Proofs.YtijfddobandcdaaDoor.X
open Go.RowKit YtijfddobandcdaaDoorW.PrintWords YtijfddobandcdaaDoorW.PrintLast YtijfddobandcdaaDoorW.PrintMore YtijfddobandcdaaDoor.T
theorem lay_of_br {G : List Nat} {q : Nat} : ∀ (P : List Nat) (S : Nat), S < 2 ^ G.length → Goes G.length S P → brOf G S P ≤ q → Lay G q S
 | [], S, hS, h, _ => by
  have e : S = 2 ^ G.length - 1 := eq_of_bits fun j => by
   show bset _ _ ↔ bset _ _
   rw [full_bit]
   exact ⟨fun hj => bit_lt hS hj, fun hj => (h.all j hj).resolve_right (by simp)⟩
  rw [e]; exact .done
 | v :: P, S, hS, h, hq => by
  have hv := h.new v List.mem_cons_self
  simp only [brOf] at hq
  exact .step hv.1 hv.2 (show bc G (S ||| 2 ^ v) ≤ q by omega) (lay_of_br P _ (or_new hS hv.1) h.tail (by omega))
theorem greedy_goes {G : List Nat} {m : Nat} {S : Nat} {L : List Nat} (h : Greedy G m S L) : brOf G S L ≤ m := by
 induction h with
 | nil => simp [brOf]
 | cons _ _ h3 _ _ ih => simp only [brOf]; have := h3.2; omega
end Go.Proofs.YtijfddobandcdaaDoor.X
end
section
/- A plan played street by street (the reference's Play): what a step does to the marks; the plan of a layout's bags is right and never goes back. -/
namespace Go.Proofs.YtijfddobandcdaaDoor.X
open Go.RowKit YtijfddobandcdaaDoorW.PrintWords YtijfddobandcdaaDoorW.PrintLast YtijfddobandcdaaDoorW.PrintMore YtijfddobandcdaaDoor.T
def mk (C : List Bool) (a b : Nat) : Prop := C.getD (a * 8 + b) false = true
theorem getD_setB (C : List Bool) (i j : Nat) (x : Bool) (hi : i < C.length) : (C.set i x).getD j false = if j = i then x else C.getD j false := by
 rw [List.getD_eq_getElem?_getD, List.getElem?_set, List.getD_eq_getElem?_getD]
 by_cases e : i = j
 ·subst e; rw [if_pos rfl, if_pos rfl, if_pos hi]; rfl
 ·rw [if_neg e, if_neg (fun h => e h.symm)]
theorem mk_set (C : List Bool) (x y a b : Nat) (v : Bool) (hC : C.length = 64) (hx : x < 8) (hy : y < 8) (hb : b < 8) : mk (C.set (x * 8 + y) v) a b ↔ if a = x ∧ b = y then v = true else mk C a b := by
 unfold mk
 rw [getD_setB _ _ _ _ (by omega)]
 by_cases h : a = x ∧ b = y
 ·obtain ⟨rfl, rfl⟩ := h
  rw [if_pos rfl, if_pos ⟨rfl, rfl⟩]
 ·rw [if_neg h, if_neg (by omega)]
theorem row1_mk {G : List Nat} (hG : Gr 7 G) (gd x : Nat) (hx : x < G.length) : ∀ (d y : Nat) (C : List Bool), y + d = G.length → C.length = 64 → ∀ a b, b < 8 →
  (mk (row1 G gd x d y C) a b ↔ mk C a b ∨ (a = x ∧ y ≤ b ∧ Adj G x b ∧ bset gd x ∧ bset gd b)) := by
 have hn := hG.most
 intro d
 induction d with
 | zero =>
  intro y C hy hC a b hb
  simp only [row1]
  exact ⟨.inl, fun h => h.resolve_right fun ⟨_, h1, h2, _⟩ => by have := hG.adj_lt h2; omega⟩
 | succ d ih =>
  intro y C hy hC a b hb
  simp only [row1]
  by_cases hc : ((G.getD x 0).testBit y && gd.testBit x && gd.testBit y) = true
  ·rw [if_pos hc, ih (y + 1) _ (by omega) (by simpa using hC) a b hb, mk_set _ _ _ _ _ _ hC (by omega) (by omega) hb]
   simp only [Bool.and_eq_true] at hc
   by_cases e : a = x ∧ b = y
   ·obtain ⟨rfl, rfl⟩ := e
    rw [if_pos ⟨rfl, rfl⟩]
    exact ⟨fun _ => .inr ⟨rfl, Nat.le_refl _, hc.1.1, hc.1.2, hc.2⟩, fun _ => .inl rfl⟩
   ·rw [if_neg e]
    exact or_congr_right ⟨fun ⟨h1, h2, h3⟩ => ⟨h1, by omega, h3⟩, fun ⟨h1, h2, h3⟩ => ⟨h1, by omega, h3⟩⟩
  ·rw [if_neg hc, ih (y + 1) _ (by omega) hC a b hb]
   refine or_congr_right ⟨fun ⟨h1, h2, h3⟩ => ⟨h1, by omega, h3⟩, fun ⟨h1, h2, h3, h4, h5⟩ => ⟨h1, ?_, h3, h4, h5⟩⟩
   by_cases e : b = y
   ·subst e
    exact (hc (by simp only [Bool.and_eq_true]; exact ⟨⟨h3, h4⟩, h5⟩)).elim
   ·omega
theorem all1_mk {G : List Nat} (hG : Gr 7 G) (gd : Nat) : ∀ (d x : Nat) (C : List Bool), x + d = G.length → C.length = 64 → ∀ a b, b < 8 →
  (mk (all1 G gd d x C) a b ↔ mk C a b ∨ (x ≤ a ∧ Adj G a b ∧ bset gd a ∧ bset gd b)) := by
 intro d
 induction d with
 | zero =>
  intro x C hx hC a b hb
  simp only [all1]
  exact ⟨.inl, fun h => h.resolve_right fun ⟨h1, h2, _⟩ => by have := hG.adj_lt' h2; omega⟩
 | succ d ih =>
  intro x C hx hC a b hb
  simp only [all1]
  rw [ih (x + 1) _ (by omega) (by rw [row1_len]; exact hC) a b hb, row1_mk hG gd x (by omega) G.length 0 C (by omega) hC a b hb, or_assoc]
  refine or_congr_right ⟨?_, ?_⟩
  ·rintro (⟨rfl, _, h⟩ | ⟨h1, h2⟩)
   ·exact ⟨Nat.le_refl _, h⟩
   ·exact ⟨by omega, h2⟩
  ·rintro ⟨h1, h2⟩
   by_cases e : a = x
   ·subst e; exact .inl ⟨rfl, Nat.zero_le _, h2⟩
   ·exact .inr ⟨by omega, h2⟩
theorem all1_len (G : List Nat) (gd : Nat) : ∀ d x C, (all1 G gd d x C).length = C.length
 | 0, _, _ => rfl
 | d + 1, x, C => by rw [all1, all1_len G gd d, row1_len]
theorem smk_iff {G : List Nat} (hG : Gr 7 G) (C : List Bool) (gd x : Nat) : ∀ d y, y + d = G.length → (smk G C gd x d y = true ↔ ¬ bset gd x ∧ ∃ z, y ≤ z ∧ Adj G x z ∧ ¬ mk C x z) := by
 intro d
 induction d with
 | zero =>
  intro y hy
  simp only [smk]
  exact ⟨(fun h => by cases h), fun ⟨_, z, h1, h2, _⟩ => by have := hG.adj_lt h2; omega⟩
 | succ d ih =>
  intro y hy
  simp only [smk]
  by_cases hc : ((G.getD x 0).testBit y && !C.getD (x * 8 + y) false) = true
  ·rw [if_pos hc]
   simp only [Bool.and_eq_true, Bool.not_eq_true'] at hc
   have h2 : ¬ mk C x y := fun h => by unfold mk at h; rw [hc.2] at h; cases h
   have e : (!gd.testBit x) = true ↔ ¬ bset gd x := by unfold bset; cases gd.testBit x <;> simp
   rw [e]
   exact ⟨fun h => ⟨h, y, Nat.le_refl _, hc.1, h2⟩, fun h => h.1⟩
  ·rw [if_neg hc, ih (y + 1) (by omega)]
   refine and_congr_right fun _ => ⟨fun ⟨z, h1, h2⟩ => ⟨z, by omega, h2⟩, fun ⟨z, h1, h2, h3⟩ => ⟨z, ?_, h2, h3⟩⟩
   by_cases e : z = y
   ·subst e
    refine (hc ?_).elim
    simp only [Bool.and_eq_true, Bool.not_eq_true']
    exact ⟨h2, by cases hh : C.getD (x * 8 + z) false; rfl; exact (h3 hh).elim⟩
   ·omega
def Still (G : List Nat) (C : List Bool) (gd : Nat) : Prop := ∀ x y, Adj G x y → mk C x y → smk G C gd x G.length 0 = false ∧ smk G C gd y G.length 0 = false
theorem row2_still {G : List Nat} {C : List Bool} {gd : Nat} (h : Still G C gd) (x : Nat) (b : Bool) : ∀ d y, row2 G gd x d y (C, b) = (C, b)
 | 0, _ => rfl
 | d + 1, y => by
  rw [row2]
  rw [if_neg]
  ·exact row2_still h x b d (y + 1)
  ·simp only [Bool.and_eq_true, not_and]
   intro ⟨h1, h2⟩
   have := h x y h1 h2
   simp only [this.1, this.2]
   simp
theorem all2_still {G : List Nat} {C : List Bool} {gd : Nat} (h : Still G C gd) (b : Bool) : ∀ d x, all2 G gd d x (C, b) = (C, b)
 | 0, _ => rfl
 | d + 1, x => by rw [all2, row2_still h, all2_still h b d]
theorem iter2_still {G : List Nat} {C : List Bool} {gd : Nat} (h : Still G C gd) (b : Bool) : ∀ d, iter2 G gd d (C, b) = (C, b)
 | 0 => rfl
 | d + 1 => by rw [iter2, all2_still h, iter2_still h b d]
def Clr (G : List Nat) (S : Nat) (C : List Bool) : Prop := ∀ a b, Adj G a b → (mk C a b ↔ bset S a ∧ bset S b)
structure PI (G : List Nat) (S : Nat) (s : PS) : Prop where
 had : s.had = S
 inn : ∀ j, bset s.gd j → bset S j
 bor : ∀ j u, bset S j → Adj G j u → ¬ bset S u → bset s.gd j
 clr : Clr G S s.C
 len : s.C.length = 64
 bk : s.bk = false
 most : pc s.gd 9 ≤ s.most
theorem still_of {G : List Nat} (hG : Gr 7 G) {S gd : Nat} {C : List Bool} (hc : Clr G S C) (hb : ∀ j u, bset S j → Adj G j u → ¬ bset S u → bset gd j) : Still G C gd := by
 have key : ∀ x, bset S x → smk G C gd x G.length 0 = false := fun x hx => by
  cases hs : smk G C gd x G.length 0
  ·rfl
  ·obtain ⟨h1, z, _, h2, h3⟩ := (smk_iff hG C gd x G.length 0 (by omega)).1 hs
   exact (h1 (hb x z hx h2 (fun hz => h3 ((hc x z h2).2 ⟨hx, hz⟩)))).elim
 intro x y ha hm
 obtain ⟨h1, h2⟩ := (hc x y ha).1 hm
 exact ⟨key x h1, key y h2⟩
theorem pi_step {G : List Nat} (hG : Gr 7 G) {S S2 v : Nat} {s : PS} (h : PI G S s) (hS : ∀ j, bset S j → bset S2 j) (hh : S ||| (s.gd ^^^ 2 ^ v) = S2)
  (hb : ∀ j u, bset S2 j → Adj G j u → ¬ bset S2 u → bset (s.gd ^^^ 2 ^ v) j) (he : ∀ a b, Adj G a b → bset S2 a → bset S2 b → (bset S a ∧ bset S b) ∨ (bset (s.gd ^^^ 2 ^ v) a ∧ bset (s.gd ^^^ 2 ^ v) b)) :
  PI G S2 (stepP G s v) ∧ (stepP G s v).gd = s.gd ^^^ 2 ^ v ∧ (stepP G s v).most = max s.most (pc (s.gd ^^^ 2 ^ v) 9) := by
 have hn := hG.most
 obtain ⟨g2, hg2⟩ : ∃ g, s.gd ^^^ 2 ^ v = g := ⟨_, rfl⟩
 unfold stepP
 rw [hg2] at hh hb he ⊢
 have hin : ∀ j, bset g2 j → bset S2 j := fun j hj => by rw [← hh]; exact (or_bset _ _ _).2 (.inr hj)
 have hc : Clr G S2 (all1 G g2 G.length 0 s.C) := fun a b ha => by
  have hb8 := hG.adj_lt ha
  rw [all1_mk hG g2 G.length 0 s.C (by omega) h.len a b (by omega), h.clr a b ha]
  constructor
  ·rintro (⟨h1, h2⟩ | ⟨_, _, h1, h2⟩)
   ·exact ⟨hS _ h1, hS _ h2⟩
   ·exact ⟨hin _ h1, hin _ h2⟩
  ·intro ⟨h1, h2⟩
   exact (he a b ha h1 h2).imp id fun h => ⟨Nat.zero_le _, ha, h⟩
 rw [iter2_still (still_of hG hc hb)]
 refine ⟨⟨?_, hin, hb, hc, ?_, h.bk, Nat.le_max_right _ _⟩, rfl, rfl⟩
 ·show s.had ||| g2 = S2
  rw [h.had]; exact hh
 ·show (all1 G g2 G.length 0 s.C).length = 64
  rw [all1_len]; exact h.len
theorem xor_bset (a v j : Nat) : bset (a ^^^ 2 ^ v) j ↔ if j = v then ¬ bset a j else bset a j := by
 unfold bset
 rw [Nat.testBit_xor, Nat.testBit_two_pow]
 by_cases e : j = v
 ·subst e; simp
 ·rw [if_neg e, decide_eq_false (fun h => e h.symm)]; simp
def offs (R : List Nat) : List S70 := R.map fun (v : Nat) => (⟨false, (v : Int)⟩ : S70)
theorem playTo_append (G : List Nat) : ∀ (A B : List S70) (s : PS), playTo G (A ++ B) s = (playTo G A s).bind (playTo G B)
 | [], B, s => rfl
 | a :: A, B, s => by
  simp only [List.cons_append, playTo]
  split
  ·rfl
  ·split
   ·rfl
   ·split
    ·rfl
    ·exact playTo_append G A B _
theorem play_one {G : List Nat} {v : Nat} (hv : v < G.length) (b : Bool) (l : List S70) (s : PS) (hb : s.gd.testBit v = !b) : playTo G ((⟨b, (v : Int)⟩ : S70) :: l) s = playTo G l (stepP G s v) := by
 simp only [playTo, Int.toNat_natCast]
 rw [if_neg (by omega), if_neg (by omega), if_neg (by rw [hb]; cases b <;> simp)]
theorem play_offs {G : List Nat} (hG : Gr 7 G) {S : Nat} (hS : S < 2 ^ G.length) : ∀ (R : List Nat) (s : PS), PI G S s → R.Nodup → (∀ v ∈ R, bset s.gd v) → (∀ j u, bset S j → Adj G j u → ¬ bset S u → j ∉ R) →
  ∃ s2, playTo G (offs R) s = some s2 ∧ PI G S s2 ∧ s2.most = s.most ∧ ∀ j, bset s2.gd j ↔ bset s.gd j ∧ j ∉ R
 | [], s, h, _, _, _ => ⟨s, rfl, h, rfl, fun j => by simp⟩
 | v :: R, s, h, hd, hR, hb => by
  have hv := hR v List.mem_cons_self
  have hvn : v < G.length := bit_lt hS (h.inn v hv)
  obtain ⟨hd1, hd2⟩ := List.nodup_cons.1 hd
  have hx : ∀ j, bset (s.gd ^^^ 2 ^ v) j ↔ bset s.gd j ∧ j ≠ v := fun j => by
   rw [xor_bset]
   by_cases e : j = v
   ·subst e; rw [if_pos rfl]; exact ⟨fun h => (h hv).elim, fun h => (h.2 rfl).elim⟩
   ·rw [if_neg e]; exact ⟨fun h => ⟨h, e⟩, fun h => h.1⟩
  obtain ⟨h1, h2, h3⟩ := pi_step hG h (S2 := S) (v := v) (fun _ h => h)
   (eq_of_bits fun j => by
    show bset _ _ ↔ bset _ _
    rw [or_bset, hx]
    exact ⟨fun h' => h'.elim id fun h' => h.inn j h'.1, .inl⟩)
   (fun j u a b c => (hx j).2 ⟨h.bor j u a b c, fun e => hb j u a b c (by subst e; exact List.mem_cons_self)⟩)
   (fun a b _ h1 h2 => .inl ⟨h1, h2⟩)
  obtain ⟨s2, h4, h5, h6, h7⟩ := play_offs hG hS R _ h1 hd2 (fun u hu => by
    rw [h2]
    exact (hx u).2 ⟨hR u (List.mem_cons_of_mem _ hu), fun e => hd1 (by subst e; exact hu)⟩) (fun j u a b c hm => hb j u a b c (List.mem_cons_of_mem _ hm))
  refine ⟨s2, ?_, h5, ?_, fun j => ?_⟩
  ·rw [show offs (v :: R) = (⟨false, (v : Int)⟩ : S70) :: offs R from rfl, play_one hvn false _ _ hv]
   exact h4
  ·rw [h6, h3]
   have : pc (s.gd ^^^ 2 ^ v) 9 ≤ pc s.gd 9 := pc_mono 9 fun j _ hj => ((hx j).1 hj).1
   have := h.most
   omega
  ·rw [h7, h2, hx, List.mem_cons, not_or, and_assoc]
theorem planOf_out : ∀ (B : List Nat) (now : Nat) (out : List S85), planOf B now out = out ++ planOf B now []
 | [], _, out => by simp [planOf]
 | b :: B, now, out => by
  simp only [planOf]
  rw [planOf_out B b, planOf_out B b (([] ++ _) ++ _)]
  simp
theorem pc_split {x y : Nat} : ∀ n, (∀ j, bset x j → bset y j) → pc (diff y x) n + pc x n = pc y n
 | 0, _ => rfl
 | n + 1, h => by
  have ih := pc_split n h
  simp only [pc]
  have h1 := diff_testBit y x n
  have h2 := h n
  unfold bset at h2
  rw [h1]
  cases hx : x.testBit n <;> cases hy : y.testBit n <;> simp_all <;> omega
theorem diff_new {a v : Nat} (x : Nat) (hv : ¬ bset x v) : diff x (a ||| 2 ^ v) = diff x a := eq_of_bits fun j => by
 show bset _ _ ↔ bset _ _
 rw [diff_bset, diff_bset, or_bset, two_pow_bit]
 exact ⟨fun ⟨h1, h2⟩ => ⟨h1, fun h => h2 (.inl h)⟩, fun ⟨h1, h2⟩ => ⟨h1, fun h => h.elim h2 fun e => hv (by subst e; exact h1)⟩⟩
theorem els_one {v : Nat} (hv : v < 9) : els (2 ^ v) 9 = [v] := (show ∀ v : Fin 9, els (2 ^ v.val) 9 = [v.val] from by decide) ⟨v, hv⟩
theorem play_bags {G : List Nat} (hG : Gr 7 G) : ∀ (P : List Nat) (S : Nat) (s : PS), S < 2 ^ G.length → Goes G.length S P → PI G S s → s.gd < 512 →
  ∃ s2, playTo G ((planOf (bagsOf G S P ++ [0]) s.gd []).map conv) s = some s2 ∧ PI G (2 ^ G.length - 1) s2 ∧ s2.most = max s.most (mostOf (bagsOf G S P)) ∧ (planOf (bagsOf G S P ++ [0]) s.gd []).length = pc s.gd 9 + 2 * P.length
 | [], S, s, hS, hg, h, h5 => by
  have e : S = 2 ^ G.length - 1 := eq_of_bits fun j => by
   show bset _ _ ↔ bset _ _
   rw [full_bit]
   exact ⟨fun hj => bit_lt hS hj, fun hj => (hg.all j hj).resolve_right (by simp)⟩
  have e0 : els (diff 0 s.gd) 9 = [] := by
   have : diff 0 s.gd = 0 := by have := diff_le 0 s.gd; omega
   rw [this]; decide
  have ed : diff s.gd 0 = s.gd := by unfold diff; simp
  have ep : planOf (bagsOf G S [] ++ [0]) s.gd [] = (els s.gd 9).map fun (v : Nat) => (⟨false, (v : Int)⟩ : S85) := by
   simp only [bagsOf, List.nil_append, planOf, e0, ed, List.map_nil, List.append_nil]
  obtain ⟨s2, h1, h2, h3, _⟩ := play_offs hG hS (els s.gd 9) s h (els_nodup _ _) (fun v hv => (mem_els.1 hv).2) (fun j u a b c => by
   refine (c ?_).elim
   rw [e, full_bit]; exact hG.adj_lt b)
  refine ⟨s2, ?_, by rw [← e]; exact h2, ?_, ?_⟩
  ·rw [ep, List.map_map]; exact h1
  ·rw [h3]; simp [bagsOf, mostOf]
  ·rw [ep, List.length_map, els_length]; simp
 | v :: P, S, s, hS, hg, h, h5 => by
  have hn := hG.most
  have hv := hg.new v List.mem_cons_self
  have hvg : ¬ bset s.gd v := fun hb => hv.2 (h.inn v hb)
  have hbo : ∀ j, bset (bor G S) j → bset s.gd j := fun j hj => by
   obtain ⟨h1, u, h2, h3⟩ := (bor_bit hG S j).1 hj
   exact h.bor j u h1 h2 h3
  have hd1 : diff s.gd (bor G S ||| 2 ^ v) = diff s.gd (bor G S) := diff_new _ hvg
  have hd2 : diff (bor G S ||| 2 ^ v) s.gd = 2 ^ v := eq_of_bits fun j => by
   show bset _ _ ↔ bset _ _
   rw [diff_bset, or_bset, two_pow_bit]
   exact ⟨fun ⟨h1, h2⟩ => h1.resolve_left fun h => h2 (hbo j h), fun e => ⟨.inr e, by subst e; exact hvg⟩⟩
  obtain ⟨s1, p1, p2, p3, p4⟩ := play_offs hG hS (els (diff s.gd (bor G S)) 9) s h (els_nodup _ _) (fun u hu => ((diff_bset _ _ _).1 (mem_els.1 hu).2).1) (fun j u a b c hm =>
   ((diff_bset _ _ _).1 (mem_els.1 hm).2).2 ((bor_bit hG S j).2 ⟨a, u, b, c⟩))
  have hgd1 : s1.gd = bor G S := eq_of_bits fun j => by
   show bset _ _ ↔ bset _ _
   rw [p4]
   constructor
   ·intro ⟨h1, h2⟩
    apply Classical.byContradiction
    intro h3
    exact h2 (mem_els.2 ⟨bit_lt (n := 9) (by omega) h1, (diff_bset _ _ _).2 ⟨h1, h3⟩⟩)
   ·intro h1
    exact ⟨hbo j h1, fun hm => ((diff_bset _ _ _).1 (mem_els.1 hm).2).2 h1⟩
  have hvb : ¬ bset (bor G S) v := fun hb => hv.2 ((bor_bit hG S v).1 hb).1
  have hx : s1.gd ^^^ 2 ^ v = bor G S ||| 2 ^ v := eq_of_bits fun j => by
   show bset _ _ ↔ bset _ _
   rw [hgd1, xor_bset, or_bset, two_pow_bit]
   by_cases e : j = v
   ·subst e; rw [if_pos rfl]; exact ⟨fun _ => .inr rfl, fun _ => hvb⟩
   ·rw [if_neg e]; exact ⟨.inl, fun h => h.resolve_right e⟩
  obtain ⟨q1, q2, q3⟩ := pi_step hG p2 (S2 := S ||| 2 ^ v) (v := v) (fun j hj => (or_bset _ _ _).2 (.inl hj))
   (by
    rw [hx]
    exact eq_of_bits fun j => by
     show bset _ _ ↔ bset _ _
     rw [or_bset, or_bset, or_bset]
     exact ⟨fun h => h.elim .inl fun h => h.elim (fun h => .inl ((bor_bit hG S j).1 h).1) .inr, fun h => h.elim .inl fun h => .inr (.inr h)⟩)
   (by
    intro j u a b c
    rw [hx, or_bset]
    rcases (or_bset _ _ _).1 a with a | a
    ·exact .inl ((bor_bit hG S j).2 ⟨a, u, b, fun h => c ((or_bset _ _ _).2 (.inl h))⟩)
    ·exact .inr a)
   (by
    intro a b hab ha hb
    rw [hx]
    have side : ∀ a b, Adj G a b → bset S a → ¬ bset S b → bset (bor G S ||| 2 ^ v) a := fun a b h1 h2 h3 => (or_bset _ _ _).2 (.inl ((bor_bit hG S a).2 ⟨h2, b, h1, h3⟩))
    have vv : ∀ a, bset (S ||| 2 ^ v) a → ¬ bset S a → bset (bor G S ||| 2 ^ v) a := fun a h1 h2 => (or_bset _ _ _).2 (.inr (((or_bset _ _ _).1 h1).resolve_left h2))
    by_cases ha1 : bset S a
    ·by_cases hb1 : bset S b
     ·exact .inl ⟨ha1, hb1⟩
     ·exact .inr ⟨side a b hab ha1 hb1, vv b hb hb1⟩
    ·by_cases hb1 : bset S b
     ·exact .inr ⟨vv a ha ha1, side b a (hG.adj_symm hab) hb1 ha1⟩
     ·exact .inr ⟨vv a ha ha1, vv b hb hb1⟩)
  have hlt : bor G S ||| 2 ^ v < 512 := small G (by omega) (or_lt (bor_lt G S) (Nat.pow_lt_pow_right (by omega) hv.1))
  have hgq : (stepP G s1 v).gd = bor G S ||| 2 ^ v := by rw [q2, hx]
  obtain ⟨s2, r1, r2, r3, r4⟩ := play_bags hG P (S ||| 2 ^ v) (stepP G s1 v) (or_new hS hv.1) hg.tail q1 (by rw [hgq]; exact hlt)
  rw [hgq] at r1 r4
  have hpl : planOf (bagsOf G S (v :: P) ++ [0]) s.gd [] = ((els (diff s.gd (bor G S)) 9).map fun (v : Nat) => (⟨false, (v : Int)⟩ : S85)) ++ ((⟨true, (v : Int)⟩ : S85) :: planOf (bagsOf G (S ||| 2 ^ v) P ++ [0]) (bor G S ||| 2 ^ v) []) := by
   simp only [bagsOf, List.cons_append, planOf]
   rw [planOf_out, hd1, hd2, els_one (by omega)]
   simp
  have hpc := pc_split (x := bor G S) (y := s.gd) 9 hbo
  have hpn : pc (bor G S ||| 2 ^ v) 9 = pc (bor G S) 9 + 1 := pc_new (by omega) hvb
  refine ⟨s2, ?_, r2, ?_, ?_⟩
  ·rw [hpl, List.map_append, playTo_append, List.map_map, show playTo G ((els (diff s.gd (bor G S)) 9).map (conv ∘ fun (v : Nat) => (⟨false, (v : Int)⟩ : S85))) s = some s1 from p1, Option.bind_some, List.map_cons]
   rw [show conv (⟨true, (v : Int)⟩ : S85) = ⟨true, (v : Int)⟩ from rfl, play_one hv.1 true _ _ (by rw [hgd1]; cases hh : (bor G S).testBit v; rfl; exact (hvb hh).elim)]
   exact r1
  ·rw [r3, q3, p3, hx]
   simp only [bagsOf]
   have : mostOf ((bor G S ||| 2 ^ v) :: bagsOf G (S ||| 2 ^ v) P) = max (pc (bor G S ||| 2 ^ v) 9) (mostOf (bagsOf G (S ||| 2 ^ v) P)) := rfl
   rw [this]
   omega
  ·rw [hpl, List.length_append, List.length_map, els_length, List.length_cons, r4, hpn, List.length_cons]
   omega
theorem greedy_is {G : List Nat} {m : Nat} {S : Nat} {L : List Nat} (h : Greedy G m S L) : Goes G.length S L := by
 induction h with
 | nil => exact ⟨List.nodup_nil, fun v hv => by simp at hv, fun j hj => .inl ((full_bit _ _).2 hj)⟩
 | @cons S v L h1 h2 _ _ _ ih =>
  refine ⟨List.nodup_cons.2 ⟨fun hm => (ih.new v hm).2 ((or_bset _ _ _).2 (.inr ((two_pow_bit v v).2 rfl))), ih.nodup⟩, fun u hu => ?_, fun j hj => ?_⟩
  ·rcases List.mem_cons.1 hu with e | e
   ·subst e; exact ⟨h1, h2⟩
   ·exact ⟨(ih.new u e).1, fun hb => (ih.new u e).2 ((or_bset _ _ _).2 (.inl hb))⟩
  ·rcases ih.all j hj with hb | hb
   ·rcases (or_bset _ _ _).1 hb with hb | hb
    ·exact .inl hb
    ·exact .inr (by rw [(two_pow_bit v j).1 hb]; exact List.mem_cons_self)
   ·exact .inr (List.mem_cons_of_mem _ hb)
theorem greedy_ord {G : List Nat} {m : Nat} {L : List Nat} (h : Greedy G m 0 L) : IsOrd G.length (gi L) := by
 have hg := greedy_is h
 have hin : ∀ j, j < G.length → j ∈ L := fun j hj => (hg.all j hj).resolve_left fun hb => by unfold bset at hb; simp at hb
 refine ⟨L, rfl, hg.nodup, fun v hv => (hg.new v hv).1, Nat.le_antisymm ?_ ?_⟩
 ·have := nodup_le hg.nodup (m := List.range G.length) fun x hx => List.mem_range.2 (hg.new x hx).1
  simpa using this
 ·have := nodup_le (List.nodup_range (n := G.length)) (m := L) fun x hx => hin x (List.mem_range.1 hx)
  simpa using this
theorem row3_yes {G : List Nat} (hG : Gr 7 G) {C : List Bool} (h : Clr G (2 ^ G.length - 1) C) (x : Nat) : ∀ d y, row3 G C x d y = true
 | 0, _ => rfl
 | d + 1, y => by
  rw [row3, if_neg]
  ·exact row3_yes hG h x d (y + 1)
  ·simp only [Bool.and_eq_true, Bool.not_eq_true', not_and, Bool.not_eq_false]
   intro ha
   exact (h x y ha).2 ⟨(full_bit _ _).2 (hG.adj_lt' ha), (full_bit _ _).2 (hG.adj_lt ha)⟩
theorem all3_yes {G : List Nat} (hG : Gr 7 G) {C : List Bool} (h : Clr G (2 ^ G.length - 1) C) : ∀ d x, all3 G C d x = true
 | 0, _ => rfl
 | d + 1, x => by rw [all3, row3_yes hG h, all3_yes hG h d]; rfl
theorem getD_false (j : Nat) : (List.replicate 64 false).getD j false = false := by
 rw [List.getD_eq_getElem?_getD, List.getElem?_replicate]
 split <;> rfl
theorem pi_start (G : List Nat) : PI G 0 p0 := by
 have z : ∀ j, ¬ bset 0 j := fun j h => by unfold bset at h; simp at h
 exact ⟨rfl, fun j h => h, fun j u h => (z j h).elim, fun a b _ => ⟨(fun h => by unfold mk at h; rw [show p0.C = List.replicate 64 false from rfl, getD_false] at h; cases h), fun h => (z a h.1).elim⟩, rfl, rfl, by decide⟩
theorem plan_right {G : List Nat} (hG : Gr 7 G) {P : List Nat} (h : IsOrd G.length (gi P)) :
  refPlay G ((planOf (bagsOf G 0 P ++ [0]) 0 []).map conv) = (((brOf G 0 P : Nat) : Int) + 1, false, true) ∧ (planOf (bagsOf G 0 P ++ [0]) 0 []).length ≤ 14 := by
 have hn := hG.most
 have hl := h.length
 rw [gi_length] at hl
 obtain ⟨s2, h1, h2, h3, h4⟩ := play_bags hG P 0 p0 (Nat.two_pow_pos _) (goes_of h) (pi_start G) (by decide)
 have hg0 : p0.gd = 0 := rfl
 rw [hg0] at h1 h4
 have h5 : pc 0 9 = 0 := by decide
 unfold refPlay
 rw [List.length_map, h4, if_neg (by omega), h1]
 refine ⟨?_, by omega⟩
 simp only [finP]
 rw [if_pos (all3_yes hG h2.clr _ _), if_pos h2.had, h2.bk, h3, bags_width hG h]
 have : p0.most = 0 := rfl
 rw [this, Nat.zero_max]
 rfl
end Go.Proofs.YtijfddobandcdaaDoor.X
end
section
/- The program's Play is the reference's: both let smoke into the same streets. -/
namespace Go.Proofs.YtijfddobandcdaaDoor.X
open Go.RowKit YtijfddobandcdaaDoorW.PrintWords YtijfddobandcdaaDoorW.PrintLast YtijfddobandcdaaDoorW.PrintMore YtijfddobandcdaaDoor.T
structure Red (G : List Nat) (gd : Nat) (s t : List Bool × Bool) : Prop where
 len : t.1.length = 64
 sub : ∀ a b, Adj G a b → X.mk t.1 a b → X.mk s.1 a b
 sym : ∀ a b, Adj G a b → X.mk t.1 a b → X.mk t.1 b a
 great : ∀ D : Nat → Nat → Prop, (∀ a b, D a b → D b a) → (∀ a b z, Adj G a b → D a b → Adj G a z → ¬ bset gd a → D a z) → (∀ a b, Adj G a b → D a b → X.mk s.1 a b) → ∀ a b, Adj G a b → D a b → X.mk t.1 a b
 bk : t.2 = true ↔ s.2 = true ∨ ∃ a b, Adj G a b ∧ X.mk s.1 a b ∧ ¬ X.mk t.1 a b
 cnt : cntT t.1 ≤ cntT s.1
theorem Red.refl (G : List Nat) (gd : Nat) (s : List Bool × Bool) (h1 : s.1.length = 64) (h2 : ∀ a b, Adj G a b → X.mk s.1 a b → X.mk s.1 b a) : Red G gd s s :=
 ⟨h1, fun _ _ _ h => h, h2, fun _ _ _ h => h, ⟨.inl, fun h => h.resolve_right fun ⟨a, b, _, p, q⟩ => q p⟩, Nat.le_refl _⟩
theorem Red.trans {G : List Nat} {gd : Nat} {s t u : List Bool × Bool} (h : Red G gd s t) (h2 : Red G gd t u) : Red G gd s u := by
 refine ⟨h2.len, fun a b p q => h.sub a b p (h2.sub a b p q), h2.sym, fun D d1 d2 d3 => h2.great D d1 d2 (h.great D d1 d2 d3), ?_, Nat.le_trans h2.cnt h.cnt⟩
 rw [h2.bk, h.bk]
 constructor
 ·rintro ((q | ⟨a, b, p, q, r⟩) | ⟨a, b, p, q, r⟩)
  ·exact .inl q
  ·exact .inr ⟨a, b, p, q, fun hu => r (h2.sub a b p hu)⟩
  ·exact .inr ⟨a, b, p, h.sub a b p q, r⟩
 ·rintro (q | ⟨a, b, p, q, r⟩)
  ·exact .inl (.inl q)
  ·by_cases ht : X.mk t.1 a b
   ·exact .inr ⟨a, b, p, ht, r⟩
   ·exact .inl (.inr ⟨a, b, p, q, ht⟩)
def hit (G : List Nat) (gd : Nat) (C : List Bool) (x y : Nat) : Bool := (G.getD x 0).testBit y && C.getD (x * 8 + y) false && (smk G C gd x G.length 0 || smk G C gd y G.length 0)
theorem red_hit {G : List Nat} (hG : Gr 7 G) (gd : Nat) (C : List Bool) (b : Bool) (x y : Nat) (h1 : C.length = 64) (h2 : ∀ a b, Adj G a b → X.mk C a b → X.mk C b a) (hh : hit G gd C x y = true) :
  Red G gd (C, b) ((C.set (x * 8 + y) false).set (y * 8 + x) false, true) ∧ cntT ((C.set (x * 8 + y) false).set (y * 8 + x) false) < cntT C := by
 unfold hit at hh
 simp only [Bool.and_eq_true, Bool.or_eq_true] at hh
 obtain ⟨⟨ha, hm⟩, hs⟩ := hh
 have ha : Adj G x y := ha
 have hn := hG.most
 have hy := hG.adj_lt ha
 have hx := hG.adj_lt' ha
 have hmk : ∀ a b, b < 8 → (X.mk ((C.set (x * 8 + y) false).set (y * 8 + x) false) a b ↔ X.mk C a b ∧ ¬ (a = x ∧ b = y) ∧ ¬ (a = y ∧ b = x)) := fun a b hb => by
  rw [mk_set _ _ _ _ _ _ (by rw [List.length_set]; exact h1) (by omega) (by omega) hb, mk_set _ _ _ _ _ _ h1 (by omega) (by omega) hb]
  by_cases e : a = y ∧ b = x
  ·rw [if_pos e]; simp [e]
  ·rw [if_neg e]
   by_cases e2 : a = x ∧ b = y
   ·rw [if_pos e2]; simp [e2]
   ·rw [if_neg e2]; simp [e, e2]
 have hlt := cntT_lt C _ hm
 refine ⟨⟨by simp [h1], fun a b p q => ?_, fun a b p q => ?_, fun D d1 d2 d3 a b p q => ?_, ⟨fun _ => .inr ⟨x, y, ha, hm, fun q => ?_⟩, fun _ => rfl⟩, Nat.le_of_lt (Nat.lt_of_le_of_lt (cntT_set _ _) hlt)⟩, Nat.lt_of_le_of_lt (cntT_set _ _) hlt⟩
 ·exact ((hmk a b (by have := hG.adj_lt p; omega)).1 q).1
 ·obtain ⟨q1, q2, q3⟩ := (hmk a b (by have := hG.adj_lt p; omega)).1 q
  exact (hmk b a (by have := hG.adj_lt' p; omega)).2 ⟨h2 a b p q1, fun e => q3 ⟨e.2, e.1⟩, fun e => q2 ⟨e.2, e.1⟩⟩
 ·have key : ¬ D x y := fun hD => by
   rcases hs with hs | hs
   ·obtain ⟨g1, z, _, g2, g3⟩ := (smk_iff hG C gd x G.length 0 (by omega)).1 hs
    exact g3 (d3 x z g2 (d2 x y z ha hD g2 g1))
   ·obtain ⟨g1, z, _, g2, g3⟩ := (smk_iff hG C gd y G.length 0 (by omega)).1 hs
    exact g3 (d3 y z g2 (d2 y x z (hG.adj_symm ha) (d1 _ _ hD) g2 g1))
  refine (hmk a b (by have := hG.adj_lt p; omega)).2 ⟨d3 a b p q, ?_, ?_⟩
  ·rintro ⟨rfl, rfl⟩; exact key q
  ·rintro ⟨rfl, rfl⟩; exact key (d1 _ _ q)
 ·exact ((hmk x y (by omega)).1 q).2.1 ⟨rfl, rfl⟩
theorem row2_red {G : List Nat} (hG : Gr 7 G) (gd x : Nat) : ∀ (d y : Nat) (s : List Bool × Bool), s.1.length = 64 → (∀ a b, Adj G a b → X.mk s.1 a b → X.mk s.1 b a) → Red G gd s (row2 G gd x d y s) ∧ (cntT s.1 ≤ cntT (row2 G gd x d y s).1 → row2 G gd x d y s = s ∧ ∀ y', y ≤ y' → y' < y + d → hit G gd s.1 x y' = false)
 | 0, y, s, h1, h2 => ⟨Red.refl G gd s h1 h2, fun _ => ⟨rfl, fun y' _ _ => by omega⟩⟩
 | d + 1, y, s, h1, h2 => by
  obtain ⟨C, b⟩ := s
  rw [row2]
  by_cases hh : hit G gd C x y = true
  ·obtain ⟨r1, r2⟩ := red_hit hG gd C b x y h1 h2 hh
   unfold hit at hh
   rw [if_pos hh]
   obtain ⟨r3, _⟩ := row2_red hG gd x d (y + 1) _ r1.len r1.sym
   exact ⟨r1.trans r3, fun hc => by have := r3.cnt; dsimp only at hc this; omega⟩
  ·have hh' := hh
   unfold hit at hh
   rw [if_neg hh]
   obtain ⟨r3, r4⟩ := row2_red hG gd x d (y + 1) (C, b) h1 h2
   refine ⟨r3, fun hc => ?_⟩
   obtain ⟨q1, q2⟩ := r4 hc
   refine ⟨q1, fun y' h3 h4 => ?_⟩
   by_cases e : y' = y
   ·subst e
    simpa using hh'
   ·exact q2 y' (by omega) (by omega)
theorem all2_red {G : List Nat} (hG : Gr 7 G) (gd : Nat) : ∀ (d x : Nat) (s : List Bool × Bool), s.1.length = 64 → (∀ a b, Adj G a b → X.mk s.1 a b → X.mk s.1 b a) → Red G gd s (all2 G gd d x s) ∧ (cntT s.1 ≤ cntT (all2 G gd d x s).1 → ∀ x', x ≤ x' → x' < x + d → ∀ y', y' < G.length → hit G gd s.1 x' y' = false)
 | 0, x, s, h1, h2 => ⟨Red.refl G gd s h1 h2, fun _ x' _ _ => by omega⟩
 | d + 1, x, s, h1, h2 => by
  rw [all2]
  obtain ⟨r1, r2⟩ := row2_red hG gd x G.length 0 s h1 h2
  obtain ⟨r3, r4⟩ := all2_red hG gd d (x + 1) _ r1.len r1.sym
  refine ⟨r1.trans r3, fun hc x' h3 h4 y' hy => ?_⟩
  have c1 := r3.cnt
  have c2 := r1.cnt
  obtain ⟨q1, q2⟩ := r2 (by omega)
  rw [q1] at r4 hc
  by_cases e : x' = x
  ·subst e
   exact q2 y' (Nat.zero_le _) (by omega)
  ·exact r4 hc x' (by omega) (by omega) y' hy
theorem still_no {G : List Nat} (hG : Gr 7 G) {gd : Nat} {C : List Bool} (h : ∀ x y, x < G.length → y < G.length → hit G gd C x y = false) : Still G C gd := by
 intro x y ha hm
 have := h x y (hG.adj_lt' ha) (hG.adj_lt ha)
 unfold hit at this
 have ha' : (G.getD x 0).testBit y = true := ha
 have hm' : C.getD (x * 8 + y) false = true := hm
 rw [ha', hm'] at this
 simpa using this
theorem iter2_red {G : List Nat} (hG : Gr 7 G) (gd : Nat) : ∀ (n : Nat) (s : List Bool × Bool), s.1.length = 64 → (∀ a b, Adj G a b → X.mk s.1 a b → X.mk s.1 b a) → cntT s.1 ≤ n → Red G gd s (iter2 G gd n s) ∧ Still G (iter2 G gd n s).1 gd
 | 0, s, h1, h2, hc => ⟨Red.refl G gd s h1 h2, fun x y _ hm => by
   have := cntT_zero s.1 (by omega) (x * 8 + y)
   have hm' : s.1.getD (x * 8 + y) false = true := hm
   rw [this] at hm'
   cases hm'⟩
 | n + 1, s, h1, h2, hc => by
  rw [iter2]
  obtain ⟨r1, r2⟩ := all2_red hG gd G.length 0 s h1 h2
  by_cases hl : cntT s.1 ≤ cntT (all2 G gd G.length 0 s).1
  ·have hst := still_no hG fun x y hx hy => r2 hl x (Nat.zero_le _) (by omega) y hy
   have e : all2 G gd G.length 0 s = s := all2_still hst s.2 G.length 0
   rw [e]
   have e2 : iter2 G gd n s = s := iter2_still hst s.2 n
   rw [e2]
   exact ⟨Red.refl G gd s h1 h2, hst⟩
  ·obtain ⟨r3, r4⟩ := iter2_red hG gd n _ r1.len r1.sym (by omega)
   exact ⟨r1.trans r3, r4⟩
/-! The program's. -/
theorem endsOf_bit (E : List (Nat × Nat)) (i j : Nat) : bset (endsOf E i) j ↔ j = (E.getD i (0, 0)).1 ∨ j = (E.getD i (0, 0)).2 := by
 unfold endsOf
 rw [or_bset, two_pow_bit, two_pow_bit]
theorem zero_iff (x : Nat) : x = 0 ↔ ∀ j, ¬ bset x j := by
 constructor
 ·rintro rfl j h; unfold bset at h; simp at h
 ·intro h
  exact eq_of_bits fun j => ⟨fun hb => (h j hb).elim, fun hb => by simp at hb⟩
theorem marksO_get (E : List (Nat × Nat)) (gd : Nat) : ∀ (d i : Nat) (C : List Bool), C.length = E.length → i + d = E.length → ∀ j, j < E.length → ((marksO E gd d i C).getD j false = true ↔ C.getD j false = true ∨ (i ≤ j ∧ bset gd (E.getD j (0, 0)).1 ∧ bset gd (E.getD j (0, 0)).2))
 | 0, i, C, hC, hi, j, hj => by
  simp only [marksO]
  exact ⟨.inl, fun h => h.resolve_right fun h => by omega⟩
 | d + 1, i, C, hC, hi, j, hj => by
  simp only [marksO]
  rw [marksO_get E gd d (i + 1) _ (by rw [List.length_set]; exact hC) (by omega) j hj, getD_setB _ _ _ _ (by omega)]
  by_cases e : j = i
  ·subst e
   rw [if_pos rfl, Bool.or_eq_true, beq_iff_eq, zero_iff]
   refine ⟨fun h => ?_, fun h => ?_⟩
   ·rcases h with (h | h) | h
    ·exact .inl h
    ·refine .inr ⟨Nat.le_refl _, ?_, ?_⟩
     ·exact Classical.byContradiction fun hb => h _ ((diff_bset _ _ _).2 ⟨(endsOf_bit E j _).2 (.inl rfl), hb⟩)
     ·exact Classical.byContradiction fun hb => h _ ((diff_bset _ _ _).2 ⟨(endsOf_bit E j _).2 (.inr rfl), hb⟩)
    ·omega
   ·rcases h with h | ⟨_, h1, h2⟩
    ·exact .inl (.inl h)
    ·refine .inl (.inr fun z hz => ?_)
     obtain ⟨q1, q2⟩ := (diff_bset _ _ _).1 hz
     rcases (endsOf_bit E j z).1 q1 with rfl | rfl
     ·exact q2 h1
     ·exact q2 h2
  ·rw [if_neg e]
   exact or_congr_right ⟨fun h => ⟨by omega, h.2⟩, fun h => ⟨by omega, h.2⟩⟩
theorem comes_iff (E : List (Nat × Nat)) (gd : Nat) (C : List Bool) (i k : Nat) : comes E gd C i k = true ↔ C.getD i false = true ∧ ¬ C.getD k false = true ∧ ∃ j, ¬ bset gd j ∧ (j = (E.getD i (0, 0)).1 ∨ j = (E.getD i (0, 0)).2) ∧ (j = (E.getD k (0, 0)).1 ∨ j = (E.getD k (0, 0)).2) := by
 unfold comes
 simp only [Bool.and_eq_true, Bool.not_eq_true', Bool.not_eq_true, and_assoc]
 refine and_congr_right fun _ => and_congr_right fun _ => ?_
 rw [beq_eq_false_iff_ne, ne_eq, zero_iff]
 constructor
 ·intro h
  obtain ⟨j, hj⟩ := Classical.not_forall.1 h
  have hj := Classical.not_not.1 hj
  obtain ⟨q1, q2⟩ := (diff_bset _ _ _).1 hj
  obtain ⟨q3, q4⟩ := (and_bset _ _ _).1 q1
  exact ⟨j, q2, (endsOf_bit E i j).1 q3, (endsOf_bit E k j).1 q4⟩
 ·rintro ⟨j, q2, q3, q4⟩ h
  exact h j ((diff_bset _ _ _).2 ⟨(and_bset _ _ _).2 ⟨(endsOf_bit E i j).2 q3, (endsOf_bit E k j).2 q4⟩, q2⟩)
theorem spIn_iff (E : List (Nat × Nat)) (gd : Nat) (C : List Bool) (i : Nat) : ∀ d k, spIn E gd C i d k = true ↔ ∃ k', k ≤ k' ∧ k' < k + d ∧ comes E gd C i k' = true
 | 0, k => ⟨fun h => absurd h (by simp [spIn]), fun ⟨k', h1, h2, _⟩ => by omega⟩
 | d + 1, k => by
  simp only [spIn]
  by_cases h : comes E gd C i k = true
  ·rw [if_pos h]
   exact ⟨fun _ => ⟨k, Nat.le_refl _, by omega, h⟩, fun _ => rfl⟩
  ·rw [if_neg h, spIn_iff E gd C i d (k + 1)]
   refine ⟨fun ⟨k', h1, h2, h3⟩ => ⟨k', by omega, by omega, h3⟩, fun ⟨k', h1, h2, h3⟩ => ⟨k', ?_, by omega, h3⟩⟩
   by_cases e : k' = k
   ·subst e; exact (h h3).elim
   ·omega
theorem spOut_none (E : List (Nat × Nat)) (gd : Nat) (C : List Bool) : ∀ d i, spOut E gd C d i = none → ∀ j, i ≤ j → j < i + d → spIn E gd C j E.length 0 = false
 | 0, i, _, j, h1, h2 => by omega
 | d + 1, i, h, j, h1, h2 => by
  simp only [spOut] at h
  split at h
  ·cases h
  ·rename_i hs
   by_cases e : j = i
   ·subst e; simpa using hs
   ·exact spOut_none E gd C d (i + 1) h j (by omega) (by omega)
theorem spOut_some (E : List (Nat × Nat)) (gd : Nat) (C : List Bool) : ∀ d i j, spOut E gd C d i = some j → i ≤ j ∧ j < i + d ∧ spIn E gd C j E.length 0 = true
 | 0, i, j, h => by cases h
 | d + 1, i, j, h => by
  simp only [spOut] at h
  split at h
  ·rename_i hs
   cases h
   exact ⟨Nat.le_refl _, by omega, hs⟩
  ·obtain ⟨h1, h2, h3⟩ := spOut_some E gd C d (i + 1) j h
   exact ⟨by omega, by omega, h3⟩
theorem spAll_spec {E : List (Nat × Nat)} {gd : Nat} : ∀ (n : Nat) (s : List Bool × Bool), s.1.length = E.length → cntT s.1 < n →
  spOut E gd (spAll E gd n s).1 E.length 0 = none ∧ (∀ i, (spAll E gd n s).1.getD i false = true → s.1.getD i false = true) ∧
  (∀ K : Nat → Prop, (∀ i k, i < E.length → k < E.length → K i → ¬ K k → ¬ ∃ j, ¬ bset gd j ∧ (j = (E.getD i (0, 0)).1 ∨ j = (E.getD i (0, 0)).2) ∧ (j = (E.getD k (0, 0)).1 ∨ j = (E.getD k (0, 0)).2)) → (∀ i, i < E.length → K i → s.1.getD i false = true) → ∀ i, i < E.length → K i → (spAll E gd n s).1.getD i false = true) ∧
  ((spAll E gd n s).2 = true ↔ s.2 = true ∨ ∃ i, i < E.length ∧ s.1.getD i false = true ∧ ¬ (spAll E gd n s).1.getD i false = true)
 | 0, s, _, h => by omega
 | n + 1, s, hl, hc => by
  rw [spAll]
  cases hs : spOut E gd s.1 E.length 0 with
  | none => exact ⟨hs, fun _ h => h, fun K _ h => h, ⟨.inl, fun h => h.resolve_right fun ⟨i, _, p, q⟩ => q p⟩⟩
  | some i =>
   obtain ⟨_, hi, hin⟩ := spOut_some E gd s.1 _ _ _ hs
   obtain ⟨k, _, hk, hco⟩ := (spIn_iff E gd s.1 i _ _).1 hin
   obtain ⟨h1, h2, h3⟩ := (comes_iff E gd s.1 i k).1 hco
   have hcl := cntT_lt s.1 i h1
   obtain ⟨r1, r2, r3, r4⟩ := spAll_spec (E := E) (gd := gd) n (s.1.set i false, true) (by rw [List.length_set]; exact hl) (by dsimp only; omega)
   have hset : ∀ j, (s.1.set i false).getD j false = true ↔ s.1.getD j false = true ∧ j ≠ i := fun j => by
    rw [getD_setB _ _ _ _ (by omega)]
    by_cases e : j = i
    ·subst e; rw [if_pos rfl]; simp
    ·rw [if_neg e]; simp [e]
   refine ⟨r1, fun j hj => ((hset j).1 (r2 j hj)).1, fun K k1 k2 => r3 K k1 fun j hj hK => (hset j).2 ⟨k2 j hj hK, ?_⟩, ?_⟩
   ·rintro rfl
    exact k1 j k (by omega) (by omega) hK (fun hk2 => h2 (k2 k (by omega) hk2)) h3
   ·rw [r4]
    constructor
    ·intro _
     exact .inr ⟨i, by omega, h1, fun hj => ((hset i).1 (r2 i hj)).2 rfl⟩
    ·intro _; exact .inl rfl
structure Same (G : List Nat) (s : PS) (o : OS) : Prop where
 gd : o.gd = s.gd
 had : o.had = s.had
 bk : o.bk = s.bk
 len : s.C.length = 64
 olen : o.C.length = (streets G).length
 sym : ∀ a b, Adj G a b → X.mk s.C a b → X.mk s.C b a
 cl : ∀ i, i < (streets G).length → (o.C.getD i false = true ↔ X.mk s.C ((streets G).getD i (0, 0)).1 ((streets G).getD i (0, 0)).2)
theorem edge_of {G : List Nat} (hG : Gr 7 G) {a b : Nat} (h : Adj G a b) : ∃ i, i < (streets G).length ∧ ((streets G).getD i (0, 0) = (a, b) ∨ (streets G).getD i (0, 0) = (b, a)) := by
 by_cases hab : a < b
 ·obtain ⟨i, h1, h2⟩ := streets_of hG h hab
  exact ⟨i, h1, .inl h2⟩
 ·have : a ≠ b := fun e => by subst e; exact hG.adj_irr h
  obtain ⟨i, h1, h2⟩ := streets_of hG (hG.adj_symm h) (by omega)
  exact ⟨i, h1, .inr h2⟩
theorem Same.step {G : List Nat} (hG : Gr 7 G) {s : PS} {o : OS} (h : Same G s o) (v : Nat) : Same G (stepP G s v) (stepO (streets G) o v) := by
 have hn := hG.most
 unfold stepP stepO
 rw [h.gd, h.had, h.bk]
 obtain ⟨g, hg⟩ : ∃ g, s.gd ^^^ 2 ^ v = g := ⟨_, rfl⟩
 rw [hg]
 obtain ⟨C0, hC0⟩ : ∃ C, all1 G g G.length 0 s.C = C := ⟨_, rfl⟩
 obtain ⟨c0, hc0⟩ : ∃ C, marksO (streets G) g (streets G).length 0 o.C = C := ⟨_, rfl⟩
 have h64 : C0.length = 64 := by rw [← hC0, all1_len]; exact h.len
 have hol : c0.length = (streets G).length := by rw [← hc0, marksO_len]; exact h.olen
 have hm0 : ∀ a b, Adj G a b → (X.mk C0 a b ↔ X.mk s.C a b ∨ (bset g a ∧ bset g b)) := fun a b ha => by
  rw [← hC0, all1_mk hG g G.length 0 s.C (by omega) h.len a b (by have := hG.adj_lt ha; omega)]
  exact or_congr_right ⟨fun q => q.2.2, fun q => ⟨Nat.zero_le _, ha, q⟩⟩
 have hsym : ∀ a b, Adj G a b → X.mk C0 a b → X.mk C0 b a := fun a b ha q => by
  rw [hm0 b a (hG.adj_symm ha)]
  exact ((hm0 a b ha).1 q).imp (h.sym a b ha) fun q => ⟨q.2, q.1⟩
 have hcl : ∀ i, i < (streets G).length → (c0.getD i false = true ↔ X.mk C0 ((streets G).getD i (0, 0)).1 ((streets G).getD i (0, 0)).2) := fun i hi => by
  rw [← hc0, marksO_get (streets G) g (streets G).length 0 o.C h.olen (by omega) i hi, h.cl i hi, hm0 _ _ (streets_at hG hi).2]
  exact or_congr_right ⟨fun q => q.2, fun q => ⟨Nat.zero_le _, q⟩⟩
 rw [hC0, hc0]
 obtain ⟨r1, r2⟩ := iter2_red hG g 64 (C0, s.bk) h64 hsym (by have := cntT_le C0; dsimp only; omega)
 obtain ⟨t, ht⟩ : ∃ t, iter2 G g 64 (C0, s.bk) = t := ⟨_, rfl⟩
 rw [ht] at r1 r2 ⊢
 obtain ⟨p1, p2, p3, p4⟩ := spAll_spec (E := streets G) (gd := g) ((streets G).length + 1) (c0, s.bk) hol (by have := cntT_le c0; dsimp only; omega)
 have p5 := spAll_len (streets G) g ((streets G).length + 1) (c0, s.bk)
 obtain ⟨u, hu⟩ : ∃ u, spAll (streets G) g ((streets G).length + 1) (c0, s.bk) = u := ⟨_, rfl⟩
 rw [hu] at p1 p2 p3 p4 p5 ⊢
 have hst : ∀ a b z, Adj G a b → X.mk t.1 a b → Adj G a z → ¬ bset g a → X.mk t.1 a z := fun a b z ha hm hz hga => Classical.byContradiction fun hno => by
  have := (r2 a b ha hm).1
  rw [(smk_iff hG t.1 g a G.length 0 (by omega)).2 ⟨hga, z, Nat.zero_le _, hz, hno⟩] at this
  cases this
 have hboth : ∀ i, i < (streets G).length → (u.1.getD i false = true ↔ X.mk t.1 ((streets G).getD i (0, 0)).1 ((streets G).getD i (0, 0)).2) := by
  intro i hi
  constructor
  ·-- what the program keeps, the reference keeps
   intro hiu
   have hedge := (streets_at hG hi).2
   refine r1.great (fun a b => ∃ i, i < (streets G).length ∧ u.1.getD i false = true ∧ ((streets G).getD i (0, 0) = (a, b) ∨ (streets G).getD i (0, 0) = (b, a))) ?_ ?_ ?_ _ _ hedge ⟨i, hi, hiu, .inl rfl⟩
   ·rintro a b ⟨i, q1, q2, q3⟩
    exact ⟨i, q1, q2, q3.symm⟩
   ·rintro a b z ha ⟨i, q1, q2, q3⟩ hz hga
    obtain ⟨k, k1, k2⟩ := edge_of hG hz
    refine ⟨k, k1, Classical.byContradiction fun hk => ?_, k2⟩
    have hno := spOut_none (streets G) g u.1 _ _ p1 i (Nat.zero_le _) (by omega)
    rw [(spIn_iff (streets G) g u.1 i _ _).2 ⟨k, Nat.zero_le _, by omega, (comes_iff _ _ _ _ _).2 ⟨q2, hk, a, hga, ?_, ?_⟩⟩] at hno
    ·cases hno
    ·rcases q3 with e | e <;> rw [e]
     ·exact .inl rfl
     ·exact .inr rfl
    ·rcases k2 with e | e <;> rw [e]
     ·exact .inl rfl
     ·exact .inr rfl
   ·rintro a b ha ⟨i, q1, q2, q3⟩
    have := (hcl i q1).1 (p2 i q2)
    rcases q3 with e | e <;> rw [e] at this
    ·exact this
    ·exact hsym b a (hG.adj_symm ha) this
  ·-- what the reference keeps, the program keeps
   intro hm
   refine p3 (fun i => i < (streets G).length ∧ X.mk t.1 ((streets G).getD i (0, 0)).1 ((streets G).getD i (0, 0)).2) ?_ ?_ i hi ⟨hi, hm⟩
   ·rintro i k hi hk ⟨_, q⟩ hno ⟨j, hj, hj1, hj2⟩
    have ei := (streets_at hG hi).2
    have ek := (streets_at hG hk).2
    obtain ⟨b, hab, hmb⟩ : ∃ b, Adj G j b ∧ X.mk t.1 j b := by
     rcases hj1 with e | e
     ·exact ⟨_, by rw [e]; exact ei, by rw [e]; exact q⟩
     ·exact ⟨_, by rw [e]; exact hG.adj_symm ei, by rw [e]; exact r1.sym _ _ ei q⟩
    rcases hj2 with e | e
    ·exact hno ⟨hk, by
      have := hst j b ((streets G).getD k (0, 0)).2 hab hmb (by rw [e]; exact ek) hj
      rwa [e] at this⟩
    ·exact hno ⟨hk, by
      have := hst j b ((streets G).getD k (0, 0)).1 hab hmb (by rw [e]; exact hG.adj_symm ek) hj
      rw [e] at this
      exact r1.sym _ _ (hG.adj_symm ek) this⟩
   ·rintro i hi ⟨_, q⟩
    exact (hcl i hi).2 (r1.sub _ _ (streets_at hG hi).2 q)
 refine ⟨rfl, rfl, ?_, r1.len, by rw [p5]; exact hol, r1.sym, hboth⟩
 show u.2 = t.2
 have : u.2 = true ↔ t.2 = true := by
  rw [p4, r1.bk]
  refine or_congr_right ⟨?_, ?_⟩
  ·rintro ⟨i, q1, q2, q3⟩
   exact ⟨_, _, (streets_at hG q1).2, (hcl i q1).1 q2, fun q => q3 ((hboth i q1).2 q)⟩
  ·rintro ⟨a, b, q1, q2, q3⟩
   obtain ⟨i, k1, k2⟩ := edge_of hG q1
   refine ⟨i, k1, (hcl i k1).2 ?_, fun q => q3 ?_⟩
   ·rcases k2 with e | e <;> rw [e]
    ·exact q2
    ·exact hsym _ _ q1 q2
   ·have := (hboth i k1).1 q
    rcases k2 with e | e <;> rw [e] at this
    ·exact this
    ·exact r1.sym _ _ (hG.adj_symm q1) this
 cases hu2 : u.2 <;> cases ht2 : t.2 <;> simp_all
theorem all3_iff {G : List Nat} (hG : Gr 7 G) (C : List Bool) : all3 G C G.length 0 = true ↔ ∀ a b, Adj G a b → X.mk C a b := by
 have row : ∀ x d y, y + d = G.length → (row3 G C x d y = true ↔ ∀ b, y ≤ b → Adj G x b → X.mk C x b) := by
  intro x d
  induction d with
  | zero => intro y hy; exact ⟨fun _ b h1 h2 => by have := hG.adj_lt h2; omega, fun _ => rfl⟩
  | succ d ih =>
   intro y hy
   simp only [row3]
   by_cases hc : ((G.getD x 0).testBit y && !C.getD (x * 8 + y) false) = true
   ·rw [if_pos hc]
    simp only [Bool.and_eq_true, Bool.not_eq_true'] at hc
    exact ⟨fun h => absurd h (by decide), fun h => by
     have : C.getD (x * 8 + y) false = true := h y (Nat.le_refl _) hc.1
     rw [hc.2] at this
     cases this⟩
   ·rw [if_neg hc, ih (y + 1) (by omega)]
    refine ⟨fun h b h1 h2 => ?_, fun h b h1 h2 => h b (by omega) h2⟩
    by_cases e : b = y
    ·subst e
     simp only [Bool.and_eq_true, Bool.not_eq_true', not_and] at hc
     have := hc h2
     show C.getD (x * 8 + b) false = true
     simpa using this
    ·exact h b (by omega) h2
 have all : ∀ d x, x + d = G.length → (all3 G C d x = true ↔ ∀ a b, x ≤ a → Adj G a b → X.mk C a b) := by
  intro d
  induction d with
  | zero => intro x hx; exact ⟨fun _ a b h1 h2 => by have := hG.adj_lt' h2; omega, fun _ => rfl⟩
  | succ d ih =>
   intro x hx
   simp only [all3]
   rw [Bool.and_eq_true, row x G.length 0 (by omega), ih (x + 1) (by omega)]
   refine ⟨fun ⟨h1, h2⟩ a b h3 h4 => ?_, fun h => ⟨fun b _ h2 => h x b (Nat.le_refl _) h2, fun a b h3 h4 => h a b (by omega) h4⟩⟩
   by_cases e : a = x
   ·subst e; exact h1 b (Nat.zero_le _) h4
   ·exact h2 a b (by omega) h4
 rw [all G.length 0 (by omega)]
 exact ⟨fun h a b ha => h a b (Nat.zero_le _) ha, fun h a b _ ha => h a b ha⟩
theorem Same.fin {G : List Nat} (hG : Gr 7 G) {s : PS} {o : OS} (h : Same G s o) : o.C.contains false = !all3 G s.C G.length 0 := by
 have : (o.C.contains false = true) ↔ ¬ (all3 G s.C G.length 0 = true) := by
  rw [all3_iff hG, List.contains_iff_mem, List.mem_iff_getElem]
  constructor
  ·rintro ⟨i, hi, e⟩ hall
   have hi2 : i < (streets G).length := by rw [← h.olen]; exact hi
   have := (h.cl i hi2).2 (hall _ _ (streets_at hG hi2).2)
   rw [List.getD_eq_getElem?_getD, List.getElem?_eq_getElem hi, e] at this
   cases this
  ·intro hno
   apply Classical.byContradiction
   intro hex
   refine hno fun a b ha => ?_
   obtain ⟨i, k1, k2⟩ := edge_of hG ha
   have hi : i < o.C.length := by rw [h.olen]; exact k1
   have : o.C.getD i false = true := by
    rw [List.getD_eq_getElem?_getD, List.getElem?_eq_getElem hi]
    cases he : o.C[i]
    ·exact (hex ⟨i, hi, he⟩).elim
    ·simp [he]
   have := (h.cl i k1).1 this
   rcases k2 with e | e <;> rw [e] at this
   ·exact this
   ·exact h.sym _ _ (hG.adj_symm ha) this
 cases h1 : o.C.contains false <;> cases h2 : all3 G s.C G.length 0 <;> simp_all
theorem ownTo_same {G : List Nat} (hG : Gr 7 G) : ∀ (l : List S85) (s : PS) (o : OS), Same G s o → finO G (ownTo G.length (streets G) l o s.most) = finP G (playTo G (l.map conv) s)
 | [], s, o, h => by
  simp only [ownTo, List.map_nil, playTo, finO, finP]
  rw [h.fin hG, h.had, h.bk]
  cases all3 G s.C G.length 0
  ·simp
  ·simp
 | a :: l, s, o, h => by
  simp only [ownTo, List.map_cons, playTo, conv]
  by_cases h0 : a.f1 < 0
  ·rw [if_pos h0, if_pos h0]; rfl
  ·rw [if_neg h0, if_neg h0]
   by_cases h1 : (G.length : Int) ≤ a.f1
   ·rw [if_pos h1, if_pos h1]; rfl
   ·rw [if_neg h1, if_neg h1]
    unfold doO
    rw [h.gd]
    by_cases h2 : (s.gd.testBit a.f1.toNat == a.f0) = true
    ·rw [if_pos h2, if_pos h2]; rfl
    ·rw [if_neg h2, if_neg h2, Option.bind_some]
     have := ownTo_same hG l _ _ (h.step hG a.f1.toNat)
     rw [← this]
     congr 2
     show max s.most (pc (o.gd ^^^ 2 ^ a.f1.toNat) 9) = max s.most (pc (s.gd ^^^ 2 ^ a.f1.toNat) 9)
     rw [h.gd]
theorem same_start (G : List Nat) : Same G p0 (o0 (streets G)) := by
 have z : ∀ a b, ¬ X.mk p0.C a b := fun a b q => by
  unfold X.mk at q
  rw [show p0.C = List.replicate 64 false from rfl, getD_false] at q
  cases q
 refine ⟨rfl, rfl, rfl, rfl, by simp [o0], fun a b _ q => (z a b q).elim, fun i hi => ⟨fun q => ?_, fun q => (z _ _ q).elim⟩⟩
 unfold o0 at q
 dsimp only at q
 rw [List.getD_eq_getElem?_getD, List.getElem?_replicate] at q
 split at q <;> cases q
theorem ownPlay_eq {G : List Nat} (hG : Gr 7 G) (l : List S85) : ownPlay G l = refPlay G (l.map conv) := by
 unfold ownPlay refPlay
 rw [List.length_map]
 by_cases h : 100 < l.length
 ·rw [if_pos h, if_pos h]
 ·rw [if_neg h, if_neg h]
  exact ownTo_same hG l p0 _ (same_start G)
end Go.Proofs.YtijfddobandcdaaDoor.X
end
section
namespace Go.Proofs.YtijfddobandcdaaDoor.X
open Go.RowKit YtijfddobandcdaaDoorW.PrintWords YtijfddobandcdaaDoorW.PrintLast YtijfddobandcdaaDoorW.PrintMore
attribute [local go_sem] max2_int min2_int max_two min_two max_three min_three max_four min_four
/-! ### lampblacklaw03_plan: function 39 -/
def lampblacklaw03_plan.l0 : Nat → List (S85) → List (S70) → Int → Int → Option ((List (S85)))
 | 0, _, _, _, _ => none
 | k + 1, x3, x6, x7, x8 => if x8 < x7 then (if 0 ≤ x8 then (if x8 < (x6.length : Int) then (if x8 < 110 then (if x3.length < 8796093022208 then (lampblacklaw03_plan.l0 k (x3 ++ [(⟨(rd_T70 x6 x8).f0, (rd_T70 x6 x8).f1⟩ : S85)]) x6 x7 (wrap64 (x8 + 1))) else (none)) else (lampblacklaw03_plan.l0 k x3 x6 x7 (wrap64 (x8 + 1)))) else (none)) else (none)) else (some x3)
end Go.Proofs.YtijfddobandcdaaDoor.X
end
section
/- What Play answers, told by the reference's; the laws' plan. -/
namespace Go.Proofs.YtijfddobandcdaaDoor.X
open Go.RowKit YtijfddobandcdaaDoorW.PrintWords YtijfddobandcdaaDoorW.PrintLast YtijfddobandcdaaDoorW.PrintMore YtijfddobandcdaaDoor.T
theorem Play_eq (G : List Nat) (hG : Gr 7 G) (l : List S85) : sweep_Play.f (gi G) l = some ((refPlay G (l.map conv)).1, (refPlay G (l.map conv)).2.1, (refPlay G (l.map conv)).2.2, 0) := by
 unfold sweep_Play.f
 rw [if_pos (by rw [gi_length]; have := hG.most; omega), if_pos ((chk_iff 7 (by omega) _).2 ⟨G, rfl, hG⟩), gi_toNat, ownPlay_eq hG]
theorem Plan_ev (G : List Nat) (hG : Gr 7 G) {L : List Nat} {m : Nat} (hL : sweep_town_layout.f (gi G) = some (gi L, (m : Int))) (hLo : IsOrd G.length (gi L)) : Ev (fun k => sweep_Plan.f k (gi G)) (planOf (bagsOf G 0 L ++ [0]) 0 [], 0) := by
 have hn := hG.most
 have hLl := hLo.length
 rw [gi_length] at hLl
 have hLv : ∀ v ∈ L, v < G.length := fun v hv => ((goes_of hLo).new v hv).1
 have hr := read_ev (gi G) (by rw [gi_length]; omega)
 rw [(chk_iff 7 (by omega) _).2 ⟨G, rfl, hG⟩] at hr
 unfold sweep_Plan.f
 exact Ev.bind hr (Ev.if_pos rfl (Ev.bind1 hL (Ev.bind (bags_ev G hG L hLv (by omega)) (Ev.bind1 (follow_eq _ (fun b hb => small G (by omega) (bags_lt L 0 hLv b hb)) (by rw [bagsOf_length]; omega)) (Ev.some rfl)))))
theorem Plan_bad (g : List Int) (hl : g.length < 2 ^ 60) (h : chk 7 g = false) : Ev (fun k => sweep_Plan.f k g) (([] : List S85), 2) := by
 have hr := read_ev g hl
 rw [h] at hr
 unfold sweep_Plan.f
 exact Ev.bind hr (Ev.if_neg (by simp) (Ev.some rfl))
theorem FollowO (G : List Nat) (hG : Gr 7 G) (B : List Nat) (h : PathDec G B) : Ev (fun k => sweep_Follow.f k (gi G) (gi B)) (planOf (B ++ [0]) 0 [], 0) := by
 have hn := hG.most
 have hr := read_ev (gi G) (by rw [gi_length]; omega)
 rw [(chk_iff 7 (by omega) _).2 ⟨G, rfl, hG⟩] at hr
 have h30 := h.most
 obtain ⟨r, h1, h2⟩ := isPath_ev G hG (gi B) (by rw [gi_length]; omega)
 rw [h2.2 ⟨B, rfl, h⟩] at h1
 unfold sweep_Follow.f
 exact Ev.bind hr (Ev.if_pos rfl (Ev.bind h1 (Ev.if_pos rfl (Ev.bind1 (follow_eq B (fun b hb => small G (by omega) (h.lt b hb)) h30) (Ev.some rfl)))))
theorem br_vs {G : List Nat} (hG : Gr 7 G) {L : List Nat} {m : Nat} (hm : IsVs G m) (hgr : Greedy G m 0 L) : IsOrd G.length (gi L) ∧ brOf G 0 L = m := by
 have hLo : IsOrd G.length (gi L) := greedy_ord hgr
 exact ⟨hLo, Nat.le_antisymm (greedy_goes hgr) ((hm _).2 (lay_of_br L 0 (Nat.two_pow_pos _) (goes_of hLo) (Nat.le_refl _)))⟩
end Go.Proofs.YtijfddobandcdaaDoor.X
end
section
/- SweepSame, without Go and memory: Play accepts Plan, which has the path width and 1 as its guards and never goes back, and so is Follow of the Bags of any layout, with its breadth and 1; Least is the least of all. -/
namespace Go.Proofs.YtijfddobandcdaaDoor.Pure
open Go.RowKit YtijfddobandcdaaDoorW.PrintWords YtijfddobandcdaaDoorW.PrintLast YtijfddobandcdaaDoorW.PrintMore YtijfddobandcdaaDoor.T YtijfddobandcdaaDoor.X
set_option maxHeartbeats 2000000 in
theorem SweepSame : ∀ (l0 l1 : List Int), l0.length ≤ maxLen → l0.length * 8 ≤ 140737488351232 → (∀ x ∈ l0, (Lit.int .i64 x).wf = true) → l1.length ≤ maxLen → l1.length * 8 ≤ 140737488351232 → (∀ x ∈ l1, (Lit.int .i64 x).wf = true) → ∃ k, lampblacklaw03_SweepSame.f k l0 l1 = some true := by
 intro g l _ hg _ _ hl _
 apply Ev.rounds
 obtain ⟨h, e, e1, e2, e3⟩ := few_eq g (by omega)
 obtain ⟨m, f, f1, f2, f3⟩ := list_eq l (by omega)
 unfold lampblacklaw03_SweepSame.f
 by_cases hc : chk 7 g = true
 ·obtain ⟨G, rfl, hG⟩ := (chk_iff 7 (by omega) _).1 hc
  have hn := hG.most
  rw [e1 hc] at e
  obtain ⟨L, vs, hL, hm, hgr⟩ := layout_eq G hG
  obtain ⟨hLo, hbr⟩ := br_vs hG hm hgr
  obtain ⟨L2, vs2, hLay, hm2, hgr2⟩ := Layout_ev G hG
  obtain rfl := hm.uniq hm2
  obtain ⟨hpr, hpl⟩ := plan_right hG hLo
  have hv9 : vs ≤ 9 := by rw [← hbr]; exact brOf_le G L 0
  have hw : wrap64 ((vs : Int) + 1) = (vs : Int) + 1 := w64_small _ (by omega) (by omega)
  have hleast : Ev (fun k => sweep_Least.f k (gi G)) ((vs : Int) + 1, 0) := by
   unfold sweep_Least.f
   exact Ev.bind hLay (Ev.if_pos rfl (Ev.some (by rw [hw])))
  have hplay := Play_eq G hG (planOf (bagsOf G 0 L ++ [0]) 0 [])
  rw [hpr, hbr] at hplay
  refine Ev.bind1 e (Ev.bind hLay (Ev.bind1 e (Ev.bind (Plan_ev G hG hL hLo) (Ev.bind1 e (Ev.bind hleast (Ev.if_pos rfl (Ev.bind1 e (Ev.bind1 hplay (Ev.if_pos rfl (Ev.if_pos rfl (Ev.if_pos rfl (Ev.if_pos rfl (Ev.if_neg (by simp) (Ev.if_pos hw.symm ?_))))))))))))))
  rw [show (((vs : Int) + 1 != wrap64 ((vs : Int) + 1)) : Bool) = false by rw [hw]; simp]
  refine Ev.step (fun k => by rw [lampblacklaw03_SweepSame.j0, if_neg (by simp)]) ?_
  refine Ev.bind1 e (Ev.bind1 f ?_)
  have hord := list_ord (n := G.length) (by omega) f1 f2
  by_cases ho : IsOrd G.length l
  ·have hml : m = l := f1 (by have := ho.length; omega)
   obtain ⟨P, rfl, _, h3, h4⟩ := id ho
   rw [hml] at f ⊢
   obtain ⟨hpr2, hpl2⟩ := plan_right hG ho
   have hplay2 := Play_eq G hG (planOf (bagsOf G 0 P ++ [0]) 0 [])
   rw [hpr2] at hplay2
   have hb9 := brOf_le G P 0
   have hw2 : wrap64 (((brOf G 0 P : Nat) : Int) + 1) = ((brOf G 0 P : Nat) : Int) + 1 := w64_small _ (by omega) (by omega)
   have hge : vs ≤ brOf G 0 P := (hm _).2 (lay_of_br P 0 (Nat.two_pow_pos _) (goes_of ho) (Nat.le_refl _))
   have HBr := Breadth_yes G hG P ho
   have HBa := Bags_yes G hG P ho
   have HFo := FollowO G hG _ (bags_path hG ho)
   have hge2 : (vs : Int) ≤ ((brOf G 0 P : Nat) : Int) := Int.ofNat_le.2 hge
   generalize ((brOf G 0 P : Nat) : Int) = b at *
   generalize planOf (bagsOf G 0 P ++ [0]) 0 [] = PL at *
   generalize gi (bagsOf G 0 P) = BG at *
   generalize (vs : Int) = V at *
   clear hpr hpl hpr2 hpl2 hplay hleast hgr hgr2 hLo hbr hL hLay hm hm2 hge hb9 hv9
   refine Ev.bind HBa (Ev.if_pos rfl (Ev.bind1 e (Ev.bind HFo (Ev.bind1 e (Ev.bind1 f (Ev.bind HBr (Ev.bind1 e (Ev.bind1 hplay2 ?_))))))))
   refine Ev.if_pos rfl (Ev.if_pos rfl (Ev.if_pos rfl (Ev.if_pos rfl (Ev.if_neg (by simp) ?_))))
   refine Ev.if_pos hw2.symm ?_
   refine Ev.if_pos hge2 ?_
   exact Ev.bind awake_ev (Ev.some rfl)
  ·exact Ev.bind (Bags_no G hG m (by omega) (fun h => ho (hord.1 h))) (Ev.if_neg (by simp) (Ev.if_pos rfl (Ev.bind awake_ev (Ev.some rfl))))
 ·have hc' : chk 7 g = false := by simpa using hc
  have hb := e2 hc'
  have hleast : Ev (fun k => sweep_Least.f k h) (0, 2) := by
   unfold sweep_Least.f
   exact Ev.bind (Layout_bad h (by omega) hb) (Ev.if_neg (by simp) (Ev.some rfl))
  exact Ev.bind1 e (Ev.bind (Layout_bad h (by omega) hb) (Ev.bind1 e (Ev.bind (Plan_bad h (by omega) hb) (Ev.bind1 e (Ev.bind hleast (Ev.if_neg (by simp) (Ev.if_pos rfl (Ev.if_pos rfl (Ev.if_pos rfl (Ev.bind awake_ev (Ev.some rfl)))))))))))
end Go.Proofs.YtijfddobandcdaaDoor.Pure
end
