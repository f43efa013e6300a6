/- Part 2 of what SweepPlans rests on: contracts of the functions that it reaches, and what they compute, in plain words. -/
import Derived.Test.YtijfddobandcdaaDoorZSweepPlans0
import Derived.Test.YtijfddobandcdaaDoorZSweepPlans1
section
-- by ownprint.py (wip/tool), over the kit's print
namespace Go.Proofs.YtijfddobandcdaaDoor.X
open Go.RowKit Go.Proofs.YtijfddobandcdaaDoorW.PrintWords Go.Proofs.YtijfddobandcdaaDoorW.PrintLast Go.Proofs.YtijfddobandcdaaDoorW.PrintMore
attribute [local go_sem] max2_int min2_int max_two min_two max_three min_three max_four min_four
set_option linter.unusedVariables false
set_option linter.unusedSimpArgs false

/-! ### slices_Equal_int_int: function 29 -/
def slices_Equal_int_int.l0 : Nat → List Int → List Int → Int → Int → Option (Bool)
  | 0, _, _, _, _ => none
  | k + 1, x0, x1, x12, x13 => if x13 < x12 then (if 0 ≤ x13 then (if x13 < (x0.length : Int) then (if x13 < (x1.length : Int) then (if (rd x0 x13) = (rd x1 x13) then (slices_Equal_int_int.l0 k x0 x1 x12 (wrap64 (x13 + 1))) else (some false)) else (none)) else (none)) else (none)) else (some true)
end Go.Proofs.YtijfddobandcdaaDoor.X
end
section
/- IsOrder, isLayout, Border, bags, Equal: what they compute. -/
set_option linter.unusedVariables false
namespace Go.Proofs.YtijfddobandcdaaDoor.X
open Go.RowKit Go.Proofs.YtijfddobandcdaaDoorW.PrintWords Go.Proofs.YtijfddobandcdaaDoorW.PrintLast Go.Proofs.YtijfddobandcdaaDoorW.PrintMore Go.Proofs.YtijfddobandcdaaDoor.T

theorem bit_bset (a i : Nat) (ha : a < 2 ^ 62) (hi : i < 62) : Go.bits .and .i64 (shr .i64 (a : Int) (i : Int)) 1 = 1 ↔ bset a i := bit_one a i ha hi
theorem refBorder_l0 (G : List Nat) (hG : Gr 7 G) (S : Nat) (hS : S < 2 ^ G.length) : ∀ (d i o : Nat), i + d = G.length → o < 2 ^ G.length → (∀ j, bset o j ↔ j < i ∧ bset (bor G S) j) →
    Ev (fun k => lampblackref03_Border.l0 k (gi G) (S : Int) (o : Int) (G.length : Int) (i : Int)) ((bor G S : Nat) : Int) := by
  have hn := hG.most
  intro d
  induction d with
  | zero =>
    intro i o hi ho h
    have e : o = bor G S := eq_of_bits fun j => by
      show bset _ _ ↔ bset _ _
      rw [h]
      exact ⟨fun h => h.2, fun h => ⟨by have := bit_lt (bor_lt G S) h; omega, h⟩⟩
    subst e
    exact Ev.step (f := fun _ => some ((bor G S : Nat) : Int)) (fun k => by rw [lampblackref03_Border.l0, if_neg (by omega)]) (Ev.some rfl)
  | succ d ih =>
    intro i o hi ho h
    have hi' : i < G.length := by omega
    have hS62 := big (small G (by omega) hS)
    have hr62 := big (small G (by omega) (hG.row i))
    have ho62 := big (small G (by omega) ho)
    have e2 : 2 ^ i < 2 ^ G.length := Nat.pow_lt_pow_right (by omega) hi'
    have e62 := big (small G (by omega) e2)
    have hE2 := Aside0.mk e2
    clear e2
    have step : ∀ o2 : Nat, o2 < 2 ^ G.length → (∀ j, bset o2 j ↔ bset o j ∨ (j = i ∧ bset (bor G S) i)) → Ev (fun k => lampblackref03_Border.l0 k (gi G) (S : Int) (o2 : Int) (G.length : Int) ((i + 1 : Nat) : Int)) ((bor G S : Nat) : Int) := fun o2 h1 h2 => by
      refine ih (i + 1) o2 (by omega) h1 fun j => ?_
      rw [h2, h]
      constructor
      · rintro (h | ⟨rfl, h⟩)
        · exact ⟨by omega, h.2⟩
        · exact ⟨by omega, h⟩
      · rintro ⟨h3, h4⟩
        by_cases e : j = i
        · subst e; exact .inr ⟨rfl, h4⟩
        · exact .inl ⟨by omega, h4⟩
    have hwi := wrap_succ i (by omega)
    by_cases hb : bset S i
    · by_cases hd : diff (G.getD i 0) S = 0
      · refine Ev.step (fun k => ?_) (step o ho fun j => ⟨.inl, fun h => h.elim id fun h => ?_⟩)
        · rw [lampblackref03_Border.l0, if_pos (by omega), if_pos (by omega), if_pos ((bit_bset _ _ hS62 (by omega)).2 hb), if_pos (by rw [gi_length]; omega), rd_gi, b_andNot _ _ hr62 hS62, hd, if_pos (show ((0 : Nat) : Int) = 0 from rfl), hwi]
        · obtain ⟨_, u, hu, hu'⟩ := (bor_bit hG S i).1 h.2
          exact (diff_ne.2 ⟨u, hu, hu'⟩ hd).elim
      · refine Ev.step (fun k => ?_) (step (o ||| 2 ^ i) (or_lt ho hE2.out) fun j => ?_)
        · rw [lampblackref03_Border.l0, if_pos (by omega), if_pos (by omega), if_pos ((bit_bset _ _ hS62 (by omega)).2 hb), if_pos (by rw [gi_length]; omega), rd_gi, b_andNot _ _ hr62 hS62, if_neg (by omega), s_one i (by omega), b_or _ _ ho62 e62, hwi]
        · rw [or_bset, two_pow_bit]
          refine ⟨fun h => h.imp id fun h => ⟨h, ?_⟩, fun h => h.imp id fun h => h.1⟩
          obtain ⟨u, hu⟩ := diff_ne.1 hd
          exact (bor_bit hG S i).2 ⟨hb, u, hu⟩
    · refine Ev.step (fun k => ?_) (step o ho fun j => ⟨.inl, fun h => h.elim id fun h => (hb ((bor_bit hG S i).1 h.2).1).elim⟩)
      rw [lampblackref03_Border.l0, if_pos (by omega), if_pos (by omega), if_neg (fun h => hb ((bit_bset _ _ hS62 (by omega)).1 h)), hwi]
theorem refBorder_ev (G : List Nat) (hG : Gr 7 G) (S : Nat) (hS : S < 2 ^ G.length) : Ev (fun k => lampblackref03_Border.f k (gi G) (S : Int)) ((bor G S : Nat) : Int) := by
  unfold lampblackref03_Border.f
  rw [gi_length]
  exact refBorder_l0 G hG S hS G.length 0 0 (by omega) (Nat.two_pow_pos _) fun j => ⟨fun h => by unfold bset at h; simp at h, fun h => by omega⟩

/-- The bags of a layout that goes on behind S. -/
noncomputable def bagsOf (G : List Nat) : Nat → List Nat → List Nat
  | _, [] => []
  | S, v :: P => (bor G S ||| 2 ^ v) :: bagsOf G (S ||| 2 ^ v) P
theorem bagsOf_length (G : List Nat) : ∀ (P : List Nat) (S : Nat), (bagsOf G S P).length = P.length
  | [], _ => rfl
  | v :: P, S => by simp [bagsOf, bagsOf_length G P]
theorem bags_l0 (G : List Nat) (hG : Gr 7 G) (P : List Nat) (hP : ∀ v ∈ P, v < G.length) (hl : P.length < 2 ^ 40) : ∀ (d i S : Nat) (out : List Nat), i + d = P.length → S < 2 ^ G.length → out.length = i →
    Ev (fun k => sweep_town_bags.l0 k (gi G) (gi out) (S : Int) (gi P) (P.length : Int) (i : Int)) (gi (out ++ bagsOf G S (P.drop i))) := by
  have hn := hG.most
  intro d
  induction d with
  | zero =>
    intro i S out hi hS ho
    refine Ev.step (f := fun _ => some (gi out)) (fun k => by rw [sweep_town_bags.l0, if_neg (by omega)]) (Ev.some ?_)
    rw [List.drop_eq_nil_of_le (by omega)]
    simp [bagsOf]
  | succ d ih =>
    intro i S out hi hS ho
    have hi' : i < P.length := by omega
    have hm := hP _ (List.getElem_mem hi')
    have hr : rd (gi P) (i : Int) = ((P[i] : Nat) : Int) := by rw [rd_gi, List.getD_eq_getElem?_getD, List.getElem?_eq_getElem hi']; rfl
    have hS62 := big (small G (by omega) hS)
    have hb62 := big (small G (by omega) (bor_lt G S))
    have e2 : 2 ^ P[i] < 2 ^ G.length := Nat.pow_lt_pow_right (by omega) hm
    have e62 := big (small G (by omega) e2)
    have hS2 := or_lt hS e2
    clear e2
    have h := ih (i + 1) (S ||| 2 ^ P[i]) (out ++ [bor G S ||| 2 ^ P[i]]) (by omega) hS2 (by simp; omega)
    refine Ev.step (f := fun k => (sweep_town_border.f (gi G) (S : Int)).bind fun t259 => if 0 ≤ ((P[i] : Nat) : Int) then (if (gi out).length < 17592186044416 then sweep_town_bags.l0 k (gi G) (gi out ++ [Go.bits .or .i64 t259 (shl .i64 1 ((P[i] : Nat) : Int))]) (Go.bits .or .i64 (S : Int) (shl .i64 1 ((P[i] : Nat) : Int))) (gi P) (P.length : Int) (wrap64 ((i : Int) + 1)) else none) else none) (fun k => ?_) ?_
    · rw [sweep_town_bags.l0, if_pos (by omega), if_pos (by omega), if_pos (by rw [gi_length]; omega), hr]
    · refine Ev.bind1 (border_eq G hG S hS) (Ev.if_pos (by omega) (Ev.if_pos (by rw [gi_length]; omega) ?_))
      rw [s_one _ (by omega), b_or _ _ hb62 e62, b_or _ _ hS62 e62, wrap_succ i (by omega), gi_snoc]
      rw [List.drop_eq_getElem_cons hi', bagsOf]
      simpa using h
theorem bags_ev (G : List Nat) (hG : Gr 7 G) (P : List Nat) (hP : ∀ v ∈ P, v < G.length) (hl : P.length < 2 ^ 40) : Ev (fun k => sweep_town_bags.f k (gi G) (gi P)) (gi (bagsOf G 0 P)) := by
  unfold sweep_town_bags.f
  rw [gi_length]
  exact bags_l0 G hG P hP hl P.length 0 0 [] (by omega) (Nat.two_pow_pos _) rfl
end Go.Proofs.YtijfddobandcdaaDoor.X
end
section
-- by ownprint.py (wip/tool), over the kit's print
namespace Go.Proofs.YtijfddobandcdaaDoor.X
open Go.RowKit Go.Proofs.YtijfddobandcdaaDoorW.PrintWords Go.Proofs.YtijfddobandcdaaDoorW.PrintLast Go.Proofs.YtijfddobandcdaaDoorW.PrintMore
attribute [local go_sem] max2_int min2_int max_two min_two max_three min_three max_four min_four
set_option linter.unusedVariables false
set_option linter.unusedSimpArgs false

/-! ### sweep_town_breadth: function 56 -/
def sweep_town_breadth.l0 : Nat → List Int → Int → Int → List Int → Int → Int → Option (Int)
  | 0, _, _, _, _, _, _ => none
  | k + 1, x0, x5, x6, x9, x10, x11 => if x11 < x10 then (if 0 ≤ x11 then (if x11 < (x9.length : Int) then (if 0 ≤ (rd x9 x11) then ((sweep_town_border.f x0 (Go.bits .or .i64 x5 (shl .i64 1 (rd x9 x11)))).bind fun t237 => ((sweep_count.f t237).bind fun t238 => (sweep_town_breadth.l0 k x0 (Go.bits .or .i64 x5 (shl .i64 1 (rd x9 x11))) (mx x6 t238) x9 x10 (wrap64 (x11 + 1))))) else (none)) else (none)) else (none)) else (some x6)
end Go.Proofs.YtijfddobandcdaaDoor.X
end
section
/- The bags of a layout are a path decomposition, whose width is the breadth; Breadth. -/
set_option linter.unusedVariables false
namespace Go.Proofs.YtijfddobandcdaaDoor.X
open Go.RowKit Go.Proofs.YtijfddobandcdaaDoorW.PrintWords Go.Proofs.YtijfddobandcdaaDoorW.PrintLast Go.Proofs.YtijfddobandcdaaDoorW.PrintMore Go.Proofs.YtijfddobandcdaaDoor.T

/-- The breadth of a layout that goes on behind S. -/
noncomputable def brOf (G : List Nat) : Nat → List Nat → Nat
  | _, [] => 0
  | S, v :: P => max (bc G (S ||| 2 ^ v)) (brOf G (S ||| 2 ^ v) P)
theorem bc_le (G : List Nat) (S : Nat) : bc G S ≤ 9 := pc_le _ _
theorem brOf_le (G : List Nat) : ∀ (P : List Nat) (S : Nat), brOf G S P ≤ 9
  | [], _ => by simp [brOf]
  | v :: P, S => by simp only [brOf]; have := bc_le G (S ||| 2 ^ v); have := brOf_le G P (S ||| 2 ^ v); omega
/-! A layout's bags, as they go on behind S: S and the nodes of P are all nodes. -/
/-- P can go on behind S: its nodes are new, each once, and none is left out. -/
structure Goes (n S : Nat) (P : List Nat) : Prop where
  nodup : P.Nodup
  new : ∀ v ∈ P, v < n ∧ ¬ bset S v
  all : ∀ j, j < n → bset S j ∨ j ∈ P
theorem Goes.tail {n S v : Nat} {P : List Nat} (h : Goes n S (v :: P)) : Goes n (S ||| 2 ^ v) P where
  nodup := (List.nodup_cons.1 h.nodup).2
  new := fun u hu => ⟨(h.new u (List.mem_cons_of_mem _ hu)).1, fun hb => by
    rcases (or_bset _ _ _).1 hb with h1 | h1
    · exact (h.new u (List.mem_cons_of_mem _ hu)).2 h1
    · rw [(two_pow_bit v u).1 h1] at hu; exact (List.nodup_cons.1 h.nodup).1 hu⟩
  all := fun j hj => by
    rcases h.all j hj with h1 | h1
    · exact .inl ((or_bset _ _ _).2 (.inl h1))
    · rcases List.mem_cons.1 h1 with e | e
      · exact .inl ((or_bset _ _ _).2 (.inr ((two_pow_bit v j).2 e)))
      · exact .inr e
theorem goes_of {n : Nat} {P : List Nat} (h : IsOrd n (gi P)) : Goes n 0 P := by
  obtain ⟨Q, e, h1, h2, h3⟩ := h
  obtain rfl := gi_inj e
  exact ⟨h1, fun v hv => ⟨h2 v hv, fun hb => by unfold bset at hb; simp at hb⟩, fun j hj => .inr (covers_of_nodup h3 h1 h2 j hj)⟩
theorem bags_lt {G : List Nat} : ∀ (P : List Nat) (S : Nat), (∀ v ∈ P, v < G.length) → ∀ b ∈ bagsOf G S P, b < 2 ^ G.length
  | [], _, _ => by simp [bagsOf]
  | v :: P, S, h => by
    intro b hb
    rcases List.mem_cons.1 hb with e | e
    · rw [e]; exact or_new (bor_lt G S) (h v List.mem_cons_self)
    · exact bags_lt P _ (fun u hu => h u (List.mem_cons_of_mem _ hu)) b e
/-- A node that is new makes a set greater by one. -/
theorem pc_new {x v n : Nat} (hv : v < n) (h : ¬ bset x v) : pc (x ||| 2 ^ v) n = pc x n + 1 := by
  apply Nat.le_antisymm
  · exact pc_onto1 v id fun j hj hb => by
      rcases (or_bset _ _ _).1 hb with h1 | h1
      · exact .inr ⟨j, hj, h1, rfl⟩
      · exact .inl ((two_pow_bit v j).1 h1)
  · refine pc_lt v n (fun j _ h => (or_bset _ _ _).2 (.inl h)) hv ?_ ((or_bset _ _ _).2 (.inr ((two_pow_bit v v).2 rfl)))
    cases hx : x.testBit v
    · rfl
    · exact (h hx).elim
theorem bags_most {G : List Nat} (hG : Gr 7 G) : ∀ (P : List Nat) (S : Nat), Goes G.length S P → P ≠ [] → mostOf (bagsOf G S P) = max (bc G S) (brOf G S P) + 1 := by
  intro P
  induction P with
  | nil => intro S _ h; exact (h rfl).elim
  | cons v P ih =>
    intro S hg _
    have hn := hG.most
    have hvS := (hg.new v List.mem_cons_self)
    have h1 : pc (bor G S ||| 2 ^ v) 9 = bc G S + 1 := pc_new (by omega) (fun h => hvS.2 ((bor_bit hG _ _).1 h).1)
    simp only [bagsOf, brOf]
    have h2 : mostOf ((bor G S ||| 2 ^ v) :: bagsOf G (S ||| 2 ^ v) P) = max (pc (bor G S ||| 2 ^ v) 9) (mostOf (bagsOf G (S ||| 2 ^ v) P)) := rfl
    rw [h2, h1]
    cases P with
    | nil =>
      have h3 : bc G (S ||| 2 ^ v) = 0 := by
        have h4 := hg.tail.all
        unfold bc
        have := pc_onto (x := bor G (S ||| 2 ^ v)) (y := 0) (n := 9) [] id (fun j hj hb => by
          obtain ⟨_, u, hu, hu2⟩ := (bor_bit hG _ _).1 hb
          rcases h4 u (hG.adj_lt hu) with h | h
          · exact (hu2 h).elim
          · simp at h)
        have h5 : pc 0 9 = 0 := by decide
        simp at this
        omega
      rw [h3]
      simp [bagsOf, brOf, mostOf]
    | cons y P =>
      rw [ih _ hg.tail (by simp)]
      omega
theorem bags_width {G : List Nat} (hG : Gr 7 G) {P : List Nat} (h : IsOrd G.length (gi P)) : mostOf (bagsOf G 0 P) = brOf G 0 P + 1 := by
  have hl := h.length
  rw [gi_length] at hl
  rw [bags_most hG P 0 (goes_of h) (fun e => by rw [e] at hl; have := hG.pos; simp at hl; omega)]
  have h0 : bc G 0 = 0 := by
    unfold bc
    have e : bor G 0 = 0 := eq_of_bits fun j => by
      show bset _ _ ↔ bset _ _
      rw [bor_bit hG]
      exact ⟨fun h => h.1, fun h => by unfold bset at h; simp at h⟩
    rw [e]
    decide
  rw [h0, Nat.zero_max]
end Go.Proofs.YtijfddobandcdaaDoor.X
end
section
-- by ownprint.py (wip/tool), over the kit's print
namespace Go.Proofs.YtijfddobandcdaaDoor.X
open Go.RowKit Go.Proofs.YtijfddobandcdaaDoorW.PrintWords Go.Proofs.YtijfddobandcdaaDoorW.PrintLast Go.Proofs.YtijfddobandcdaaDoorW.PrintMore
attribute [local go_sem] max2_int min2_int max_two min_two max_three min_three max_four min_four
set_option linter.unusedVariables false
set_option linter.unusedSimpArgs false

/-! ### lampblackref03_IsPath: function 42 -/
mutual
def lampblackref03_IsPath.j0 : Nat → List Int → List Int → Bool → Option (Int × Bool)
  | 0, _, _, _ => none
  | k + 1, x0, x1, x21 => if x21 = true then (some (0, false)) else (lampblackref03_IsPath.l0 k x0 x1 0 x1 (x1.length : Int) 0)
def lampblackref03_IsPath.l0 : Nat → List Int → List Int → Int → List Int → Int → Int → Option (Int × Bool)
  | 0, _, _, _, _, _, _ => none
  | k + 1, x0, x1, x6, x22, x23, x24 => if x24 < x23 then (if 0 ≤ x24 then (if x24 < (x22.length : Int) then (if (rd x22 x24) < 0 then (some (0, false)) else (if (rd x22 x24) ≥ (shl .i64 1 (x0.length : Int)) then (some (0, false)) else ((lampblackref02_Size.f k (rd x22 x24)).bind fun t482 => (lampblackref03_IsPath.l0 k x0 x1 (mx x6 t482) x22 x23 (wrap64 (x24 + 1)))))) else (none)) else (none)) else (lampblackref03_IsPath.l1 k x0 x1 x6 (x0.length : Int) 0)
def lampblackref03_IsPath.l1 : Nat → List Int → List Int → Int → Int → Int → Option (Int × Bool)
  | 0, _, _, _, _, _ => none
  | k + 1, x0, x1, x6, x43, x44 => if x44 < x43 then (lampblackref03_IsPath.l2 k x0 x1 x6 x44 0 0 x43 x44 x1 (x1.length : Int) 0) else (some (wrap64 (x6 - 1), true))
def lampblackref03_IsPath.l2 : Nat → List Int → List Int → Int → Int → Int → Int → Int → Int → List Int → Int → Int → Option (Int × Bool)
  | 0, _, _, _, _, _, _, _, _, _, _, _ => none
  | k + 1, x0, x1, x6, x9, x10, x11, x43, x44, x47, x48, x49 => if x49 < x48 then (if 0 ≤ x49 then (if x49 < (x47.length : Int) then (if 0 ≤ x9 then (if (Go.bits .and .i64 (shr .i64 (rd x47 x49) x9) 1) = 0 then (lampblackref03_IsPath.l2 k x0 x1 x6 x9 x10 x11 x43 x44 x47 x48 (wrap64 (x49 + 1))) else (if x49 = 0 then (lampblackref03_IsPath.l2 k x0 x1 x6 x9 (wrap64 (x10 + 1)) (Go.bits .or .i64 x11 (rd x47 x49)) x43 x44 x47 x48 (wrap64 (x49 + 1))) else (if 0 ≤ (wrap64 (x49 - 1)) then (if (wrap64 (x49 - 1)) < (x1.length : Int) then (if (Go.bits .and .i64 (shr .i64 (rd x1 (wrap64 (x49 - 1))) x9) 1) = 0 then (lampblackref03_IsPath.l2 k x0 x1 x6 x9 (wrap64 (x10 + 1)) (Go.bits .or .i64 x11 (rd x47 x49)) x43 x44 x47 x48 (wrap64 (x49 + 1))) else (lampblackref03_IsPath.l2 k x0 x1 x6 x9 x10 (Go.bits .or .i64 x11 (rd x47 x49)) x43 x44 x47 x48 (wrap64 (x49 + 1)))) else (none)) else (none)))) else (none)) else (none)) else (none)) else (if x10 = 1 then (if 0 ≤ x9 then (if x9 < (x0.length : Int) then (if (Go.bits .andNot .i64 (rd x0 x9) x11) = 0 then (lampblackref03_IsPath.l1 k x0 x1 x6 x43 (wrap64 (x44 + 1))) else (some (0, false))) else (none)) else (none)) else (some (0, false)))
end
end Go.Proofs.YtijfddobandcdaaDoor.X
end
section
-- by ownprint.py (wip/tool), over the kit's print
namespace Go.Proofs.YtijfddobandcdaaDoor.X
open Go.RowKit Go.Proofs.YtijfddobandcdaaDoorW.PrintWords Go.Proofs.YtijfddobandcdaaDoorW.PrintLast Go.Proofs.YtijfddobandcdaaDoorW.PrintMore
attribute [local go_sem] max2_int min2_int max_two min_two max_three min_three max_four min_four
set_option linter.unusedVariables false
set_option linter.unusedSimpArgs false

/-! ### lampblackref03_Follow: function 44 -/
mutual
def lampblackref03_Follow.l0 : Nat → List Int → List (S70) → Int → List Int → Int → Int → Option ((List (S70)))
  | 0, _, _, _, _, _, _ => none
  | k + 1, x0, x5, x6, x15, x16, x17 => if x17 < x16 then (if 0 ≤ x17 then (if x17 < (x15.length : Int) then (lampblackref03_Follow.l1 k x0 x5 x6 (rd x15 x17) x15 x16 x17 (x0.length : Int) 0) else (none)) else (none)) else (some x5)
def lampblackref03_Follow.l1 : Nat → List Int → List (S70) → Int → Int → List Int → Int → Int → Int → Int → Option ((List (S70)))
  | 0, _, _, _, _, _, _, _, _, _ => none
  | k + 1, x0, x5, x6, x8, x15, x16, x17, x22, x23 => if x23 < x22 then (if 0 ≤ x23 then (if (Go.bits .and .i64 (shr .i64 (Go.bits .andNot .i64 x6 x8) x23) 1) = 1 then (if x5.length < 8796093022208 then (lampblackref03_Follow.l1 k x0 (x5 ++ [(⟨false, x23⟩ : S70)]) x6 x8 x15 x16 x17 x22 (wrap64 (x23 + 1))) else (none)) else (lampblackref03_Follow.l1 k x0 x5 x6 x8 x15 x16 x17 x22 (wrap64 (x23 + 1)))) else (none)) else (lampblackref03_Follow.l2 k x0 x5 x6 x8 x15 x16 x17 (x0.length : Int) 0)
def lampblackref03_Follow.l2 : Nat → List Int → List (S70) → Int → Int → List Int → Int → Int → Int → Int → Option ((List (S70)))
  | 0, _, _, _, _, _, _, _, _, _ => none
  | k + 1, x0, x5, x6, x8, x15, x16, x17, x40, x41 => if x41 < x40 then (if 0 ≤ x41 then (if (Go.bits .and .i64 (shr .i64 (Go.bits .andNot .i64 x8 x6) x41) 1) = 1 then (if x5.length < 8796093022208 then (lampblackref03_Follow.l2 k x0 (x5 ++ [(⟨true, x41⟩ : S70)]) x6 x8 x15 x16 x17 x40 (wrap64 (x41 + 1))) else (none)) else (lampblackref03_Follow.l2 k x0 x5 x6 x8 x15 x16 x17 x40 (wrap64 (x41 + 1)))) else (none)) else (lampblackref03_Follow.l0 k x0 x5 x8 x15 x16 (wrap64 (x17 + 1)))
end
end Go.Proofs.YtijfddobandcdaaDoor.X
end
section
-- by ownprint.py (wip/tool), over the kit's print
namespace Go.Proofs.YtijfddobandcdaaDoor.X
open Go.RowKit Go.Proofs.YtijfddobandcdaaDoorW.PrintWords Go.Proofs.YtijfddobandcdaaDoorW.PrintLast Go.Proofs.YtijfddobandcdaaDoorW.PrintMore
attribute [local go_sem] max2_int min2_int max_two min_two max_three min_three max_four min_four
set_option linter.unusedVariables false
set_option linter.unusedSimpArgs false

theorem eqA70 (d : Nat) (w : World) (x0 y0 : Bool) (x1 y1 : Int) :
    (Op.equalIn (d + 2) 70 (.agg #[.bool x0, .int .i64 x1]) (.agg #[.bool y0, .int .i64 y1])).run Tryd.prog w = .ok (x0 == y0 && (x1 == y1)) w := by
  refine eqA_of Tryd.underlying70 (by kernel_rfl) ?_
  refine eqf_cons (by rfl) (by go_simp; rfl) (by go_simp; rfl) (by go_simp) ?_
  exact eqf_last (by rfl) (by go_simp; rfl) (by go_simp; rfl) (by go_simp)
end Go.Proofs.YtijfddobandcdaaDoor.X
end
section
-- by ownprint.py (wip/tool), over the kit's print
namespace Go.Proofs.YtijfddobandcdaaDoor.X
open Go.RowKit Go.Proofs.YtijfddobandcdaaDoorW.PrintWords Go.Proofs.YtijfddobandcdaaDoorW.PrintLast Go.Proofs.YtijfddobandcdaaDoorW.PrintMore
attribute [local go_sem] max2_int min2_int max_two min_two max_three min_three max_four min_four
set_option linter.unusedVariables false
set_option linter.unusedSimpArgs false

attribute [local go_sem high] eqA70
/-! ### lampblackref03_Act: function 43 -/
def lampblackref03_Act.l0 : Nat → List (S70) → List (S70) → Int → Int → Option (Bool)
  | 0, _, _, _, _ => none
  | k + 1, x0, x1, x12, x13 => if x13 < x12 then (if 0 ≤ x13 then (if x13 < (x0.length : Int) then (if x13 < (x1.length : Int) then (if (!(((rd_T70 x0 x13).f0) == ((rd_T70 x1 x13).f0)) || (!(((rd_T70 x0 x13).f1) == ((rd_T70 x1 x13).f1)))) = true then (some false) else (lampblackref03_Act.l0 k x0 x1 x12 (wrap64 (x13 + 1)))) else (none)) else (none)) else (none)) else (some true)
end Go.Proofs.YtijfddobandcdaaDoor.X
end
section
/- The reference's IsPath and Follow, and the program's follow: what they compute. -/
set_option linter.unusedVariables false
namespace Go.Proofs.YtijfddobandcdaaDoor.X
open Go.RowKit Go.Proofs.YtijfddobandcdaaDoorW.PrintWords Go.Proofs.YtijfddobandcdaaDoorW.PrintLast Go.Proofs.YtijfddobandcdaaDoorW.PrintMore Go.Proofs.YtijfddobandcdaaDoor.T

theorem els_rest : ∀ z : Fin 512, z.val ≠ 0 → els z.val 9 = Lib.ctz 64 z.val :: els (rest z.val) 9 := by decide +kernel
theorem folTo_eq (b : Bool) : ∀ (k z : Nat) (xs : List S85), pc z 9 < k → z < 512 → folTo b k z xs = some (xs ++ (els z 9).map fun (v : Nat) => (⟨b, (v : Int)⟩ : S85))
  | 0, _, _, h, _ => by omega
  | k + 1, z, xs, h, hz => by
    simp only [folTo]
    by_cases h0 : z = 0
    · subst h0
      rw [if_pos rfl, show els 0 9 = [] from by decide]
      simp
    · have hr : rest z < 512 := by
        have := rest_lt' (n := 9) hz h0 (by omega)
        omega
      rw [if_neg h0, folTo_eq b k (rest z) _ (by have := rest_pc hz h0; omega) hr, els_rest ⟨z, hz⟩ h0]
      simp
/-- The plan of bags, as acts. -/
def planOf : List Nat → Nat → List S85 → List S85
  | [], _, out => out
  | b :: B, now, out => planOf B b ((out ++ (els (diff now b) 9).map fun (v : Nat) => (⟨false, (v : Int)⟩ : S85)) ++ (els (diff b now) 9).map fun (v : Nat) => (⟨true, (v : Int)⟩ : S85))
theorem folAll_eq : ∀ (B : List Nat) (now : Nat) (out : List S85), (∀ b ∈ B, b < 512) → now < 512 → out.length + 18 * B.length ≤ 50000 → folAll (gi B) now out = some (planOf B now out)
  | [], now, out, _, _, _ => rfl
  | b :: B, now, out, hB, hn, hl => by
    have hb := hB b List.mem_cons_self
    have h1 := pc_le (diff now b) 9
    have h2 := pc_le (diff b now) 9
    have e1 := els_length (diff now b) 9
    have e2 := els_length (diff b now) 9
    simp only [List.length_cons] at hl
    show folAll ((b : Int) :: gi B) now out = _
    simp only [folAll, planOf]
    rw [if_pos ⟨by omega, by omega⟩, Int.toNat_natCast, folTo_eq false 64 _ _ (by omega) (Nat.lt_of_le_of_lt (diff_le _ _) hn), Option.bind_some, folTo_eq true 64 _ _ (by omega) (Nat.lt_of_le_of_lt (diff_le _ _) hb), Option.bind_some]
    rw [if_pos (by simp; omega)]
    exact folAll_eq B b _ (fun x hx => hB x (List.mem_cons_of_mem _ hx)) hb (by simp; omega)
theorem follow_eq (B : List Nat) (hB : ∀ b ∈ B, b < 512) (hl : B.length ≤ 30) : sweep_follow.f (gi B) = some (planOf (B ++ [0]) 0 []) := by
  unfold sweep_follow.f
  rw [if_pos (by rw [gi_length]; omega), show gi B ++ [0] = gi (B ++ [0]) from gi_snoc B 0]
  exact folAll_eq (B ++ [0]) 0 [] (by
    intro b hb
    rcases List.mem_append.1 hb with h | h
    · exact hB b h
    · rw [List.mem_singleton.1 h]; omega) (by omega) (by simp; omega)

def conv (p : S85) : S70 := ⟨p.f0, p.f1⟩
theorem own_l0 (l : List S85) (hl : l.length < 2 ^ 40) : ∀ (d i : Nat), i + d = l.length → Ev (fun k => lampblacklaw03_own.l0 k ((l.take i).map conv) l (l.length : Int) (i : Int)) (l.map conv) := by
  intro d
  induction d with
  | zero =>
    intro i hi
    refine Ev.step (f := fun _ => some ((l.take i).map conv)) (fun k => by rw [lampblacklaw03_own.l0, if_neg (by omega)]) (Ev.some ?_)
    rw [List.take_of_length_le (by omega)]
  | succ d ih =>
    intro i hi
    have hi' : i < l.length := by omega
    have hr : rd_T85 l (i : Int) = l[i] := by unfold rd_T85; rw [Int.toNat_natCast, List.getD_eq_getElem?_getD, List.getElem?_eq_getElem hi']; rfl
    have e : (l.take i).map conv ++ [(⟨(rd_T85 l (i : Int)).f0, (rd_T85 l (i : Int)).f1⟩ : S70)] = (l.take (i + 1)).map conv := by
      rw [hr, List.take_add_one, List.getElem?_eq_getElem hi', List.map_append]
      rfl
    refine Ev.step (fun k => by rw [lampblacklaw03_own.l0, if_pos (by omega), if_pos (by omega), if_pos (by omega), if_pos (by rw [List.length_map, List.length_take]; omega), e, wrap_succ i (by omega)]) (ih (i + 1) (by omega))
theorem own_ev (l : List S85) (hl : l.length < 2 ^ 40) : Ev (fun k => lampblacklaw03_own.f k l) (l.map conv) := by
  unfold lampblacklaw03_own.f
  have := own_l0 l hl l.length 0 (by omega)
  simpa using this
end Go.Proofs.YtijfddobandcdaaDoor.X
end
section
/- The reference's Layout: the first of all orders with the least breadth; it is the program's. -/
set_option linter.unusedVariables false
namespace Go.Proofs.YtijfddobandcdaaDoor.X
open Go.RowKit Go.Proofs.YtijfddobandcdaaDoorW.PrintWords Go.Proofs.YtijfddobandcdaaDoorW.PrintLast Go.Proofs.YtijfddobandcdaaDoorW.PrintMore Go.Proofs.YtijfddobandcdaaDoor.T

theorem size_all : ∀ x : Fin 512, lampblackref02_Size.f 12 (x.val : Int) = some (pc x.val 9 : Int) := by decide +kernel
theorem size_ev (x : Nat) (hx : x < 512) : Ev (fun k => lampblackref02_Size.f k (x : Int)) (pc x 9 : Int) := Ev.of (lampblackref02_Size.mono _) (size_all ⟨x, hx⟩)
theorem refBreadth_l0 (G : List Nat) (hG : Gr 7 G) (P : List Nat) (hP : ∀ v ∈ P, v < G.length) (hl : P.length < 2 ^ 40) : ∀ (d i S m : Nat), i + d = P.length → S < 2 ^ G.length →
    Ev (fun k => lampblackref03_Breadth.l0 k (gi G) (m : Int) (S : Int) (gi P) (P.length : Int) (i : Int)) ((max m (brOf G S (P.drop i)) : Nat) : Int) := by
  have hn := hG.most
  intro d
  induction d with
  | zero =>
    intro i S m hi hS
    refine Ev.step (f := fun _ => some (m : Int)) (fun k => by rw [lampblackref03_Breadth.l0, if_neg (by omega)]) (Ev.some ?_)
    rw [List.drop_eq_nil_of_le (by omega)]
    simp [brOf]
  | succ d ih =>
    intro i S m hi hS
    have hi' : i < P.length := by omega
    have hm := hP _ (List.getElem_mem hi')
    have hwi := wrap_succ i (by omega)
    have hr : rd (gi P) (i : Int) = ((P[i] : Nat) : Int) := by rw [rd_gi, List.getD_eq_getElem?_getD, List.getElem?_eq_getElem hi']; rfl
    have hS62 := big (small G (by omega) hS)
    have h7 : P[i] < 62 := by omega
    have HS2 := Aside0.mk (or_new hS hm)
    have e62 : 2 ^ P[i] < 2 ^ 62 := Nat.pow_lt_pow_right (by omega) h7
    have hor : Go.bits .or .i64 (S : Int) (shl .i64 1 ((P[i] : Nat) : Int)) = ((S ||| 2 ^ P[i] : Nat) : Int) := by rw [s_one _ h7, b_or _ _ hS62 e62]
    clear hS e62
    refine Ev.step (f := fun k => (lampblackref03_Border.f k (gi G) ((S ||| 2 ^ P[i] : Nat) : Int)).bind fun t217 => (lampblackref02_Size.f k t217).bind fun t218 => lampblackref03_Breadth.l0 k (gi G) (mx (m : Int) t218) ((S ||| 2 ^ P[i] : Nat) : Int) (gi P) (P.length : Int) ((i + 1 : Nat) : Int)) (fun k => ?_) ?_
    · rw [lampblackref03_Breadth.l0, if_pos (by omega), if_pos (by omega), if_pos (by rw [gi_length]; omega), hr, if_pos (by omega), hor, hwi]
    · refine Ev.bind (refBorder_ev G hG _ HS2.out) (Ev.bind (size_ev _ (small G (by omega) (bor_lt G _))) ?_)
      rw [mx_nat, List.drop_eq_getElem_cons hi', brOf]
      have := ih (i + 1) (S ||| 2 ^ P[i]) (max m (bc G (S ||| 2 ^ P[i]))) (by omega) HS2.out
      rw [show max m (max (bc G (S ||| 2 ^ P[i])) (brOf G (S ||| 2 ^ P[i]) (P.drop (i + 1)))) = max (max m (bc G (S ||| 2 ^ P[i]))) (brOf G (S ||| 2 ^ P[i]) (P.drop (i + 1))) by omega]
      exact this
theorem refBreadth_ev (G : List Nat) (hG : Gr 7 G) (P : List Nat) (hP : ∀ v ∈ P, v < G.length) (hl : P.length < 2 ^ 40) : Ev (fun k => lampblackref03_Breadth.f k (gi G) (gi P)) ((brOf G 0 P : Nat) : Int) := by
  unfold lampblackref03_Breadth.f
  rw [gi_length]
  have := refBreadth_l0 G hG P hP hl P.length 0 0 0 (by omega) (Nat.two_pow_pos _)
  rwa [List.drop_zero, Nat.zero_max] at this

/-- All orders of the numbers below n that begin with P. -/
def layN (n : Nat) : Nat → List Nat → List (List Nat)
  | 0, P => [P]
  | d + 1, P => (List.range n).flatMap fun v => if v ∈ P then [] else layN n d (P ++ [v])
theorem layF_gi (n : Nat) : ∀ (d : Nat) (P : List Nat), layF n d (gi P) = (layN n d P).map gi
  | 0, P => by simp [layF, layN]
  | d + 1, P => by
    simp only [layF, layN, List.map_flatMap]
    congr 1
    funext v
    by_cases h : v ∈ P
    · rw [if_pos h, if_pos (gi_mem.2 h)]; rfl
    · rw [if_neg h, if_neg (fun h' => h (gi_mem.1 h')), gi_snoc, layF_gi n d]
/-- What an order has passed, from S on. -/
def sset : Nat → List Nat → Nat
  | S, [] => S
  | S, v :: P => sset (S ||| 2 ^ v) P
theorem sset_bit : ∀ (P : List Nat) (S j : Nat), bset (sset S P) j ↔ bset S j ∨ j ∈ P
  | [], S, j => by simp [sset]
  | v :: P, S, j => by rw [sset, sset_bit P, or_bset, two_pow_bit, List.mem_cons, or_assoc]
theorem sset_snoc : ∀ (P : List Nat) (S v : Nat), sset S (P ++ [v]) = sset S P ||| 2 ^ v
  | [], S, v => rfl
  | u :: P, S, v => by simp only [List.cons_append, sset]; exact sset_snoc P _ v
theorem brOf_append (G : List Nat) : ∀ (A : List Nat) (S : Nat) (B : List Nat), brOf G S (A ++ B) = max (brOf G S A) (brOf G (sset S A) B)
  | [], S, B => by simp [brOf, sset]
  | v :: A, S, B => by simp only [List.cons_append, brOf, sset]; rw [brOf_append G A]; omega
theorem lay_of_br {G : List Nat} {q : Nat} : ∀ (P : List Nat) (S : Nat), S < 2 ^ G.length → Goes G.length S P → brOf G S P ≤ q → Lay G q S
  | [], S, hS, h, _ => by
    have e : S = 2 ^ G.length - 1 := eq_of_bits fun j => by
      show bset _ _ ↔ bset _ _
      rw [full_bit]
      exact ⟨fun hj => bit_lt hS hj, fun hj => (h.all j hj).resolve_right (by simp)⟩
    rw [e]; exact .done
  | v :: P, S, hS, h, hq => by
    have hv := h.new v List.mem_cons_self
    simp only [brOf] at hq
    exact .step hv.1 hv.2 (show bc G (S ||| 2 ^ v) ≤ q by omega) (lay_of_br P _ (or_new hS hv.1) h.tail (by omega))
theorem layN_ext (n : Nat) : ∀ (d : Nat) (P X : List Nat), P.length + d = n → P.Nodup → (∀ v ∈ P, v < n) → X ∈ layN n d P → ∃ Q, X = P ++ Q ∧ Goes n (sset 0 P) Q
  | 0, P, X, hl, h1, h2, hX => by
    obtain rfl : X = P := by simpa [layN] using hX
    refine ⟨[], by simp, List.nodup_nil, by simp, fun j hj => .inl ((sset_bit X 0 j).2 (.inr (covers_of_nodup (by omega) h1 h2 j hj)))⟩
  | d + 1, P, X, hl, h1, h2, hX => by
    simp only [layN] at hX
    obtain ⟨v, hv, hX⟩ := List.mem_flatMap.1 hX
    have hvn := List.mem_range.1 hv
    by_cases hvP : v ∈ P
    · rw [if_pos hvP] at hX; simp at hX
    · rw [if_neg hvP] at hX
      obtain ⟨Q, e, hg⟩ := layN_ext n d (P ++ [v]) X (by simp; omega) (List.nodup_append.2 ⟨h1, by simp, by simp; intro a ha; exact fun e => hvP (e ▸ ha)⟩) (by
        intro x hx
        rcases List.mem_append.1 hx with h | h
        · exact h2 x h
        · rw [List.mem_singleton.1 h]; exact hvn) hX
      rw [sset_snoc] at hg
      have hvS : ¬ bset (sset 0 P) v := fun h => by
        rcases (sset_bit P 0 v).1 h with h | h
        · unfold bset at h; simp at h
        · exact hvP h
      refine ⟨v :: Q, by rw [e]; simp, List.nodup_cons.2 ⟨fun h => (hg.new v h).2 ((or_bset _ _ _).2 (.inr ((two_pow_bit v v).2 rfl))), hg.nodup⟩, fun u hu => ?_, fun j hj => ?_⟩
      · rcases List.mem_cons.1 hu with h | h
        · rw [h]; exact ⟨hvn, hvS⟩
        · exact ⟨(hg.new u h).1, fun hb => (hg.new u h).2 ((or_bset _ _ _).2 (.inl hb))⟩
      · rcases hg.all j hj with h | h
        · rcases (or_bset _ _ _).1 h with h | h
          · exact .inl h
          · exact .inr (by rw [(two_pow_bit v j).1 h]; exact List.mem_cons_self)
        · exact .inr (List.mem_cons_of_mem _ h)
theorem range_split {n v : Nat} (h : v < n) : ∃ R, List.range n = List.range v ++ v :: R := by
  refine ⟨(List.range n).drop (v + 1), ?_⟩
  have h1 : (List.range n).take v = List.range v := by rw [List.take_range, Nat.min_eq_left (by omega)]
  have h2 : (List.range n).drop v = v :: (List.range n).drop (v + 1) := by
    rw [List.drop_eq_getElem_cons (by simpa using h)]
    simp
  rw [← h2, ← h1, List.take_append_drop]
theorem greedy_goes {G : List Nat} {m : Nat} {S : Nat} {L : List Nat} (h : Greedy G m S L) : brOf G S L ≤ m := by
  induction h with
  | nil => simp [brOf]
  | cons _ _ h3 _ _ ih => simp only [brOf]; have := h3.2; omega
theorem first_best {G : List Nat} (hG : Gr 7 G) {m : Nat} : ∀ (d : Nat) (P L : List Nat), P.length + d = G.length → P.Nodup → (∀ v ∈ P, v < G.length) → sset 0 P < 2 ^ G.length → Greedy G m (sset 0 P) L →
    ∃ A C, layN G.length d P = A ++ (P ++ L) :: C ∧ ∀ X ∈ A, m < brOf G 0 X := by
  intro d
  induction d with
  | zero =>
    intro P L hl h1 h2 hS hg
    have hfull : ∀ j, j < G.length → bset (sset 0 P) j := fun j hj => (sset_bit P 0 j).2 (.inr (covers_of_nodup (by omega) h1 h2 j hj))
    generalize hSe : sset 0 P = S at hg
    cases hg with
    | nil => exact ⟨[], [], by simp [layN], by simp⟩
    | cons h3 h4 => exact (h4 (hSe ▸ hfull _ h3)).elim
  | succ d ih =>
    intro P L hl h1 h2 hS hg
    generalize hSe : sset 0 P = S at hg
    cases hg with
    | nil =>
      obtain ⟨v, hv, hn⟩ := fresh_node G.length (gi P) (by rw [gi_length]; omega)
      have : bset (sset 0 P) v := by rw [hSe]; exact (full_bit _ _).2 hv
      rcases (sset_bit P 0 v).1 this with h | h
      · unfold bset at h; simp at h
      · exact (hn (gi_mem.2 h)).elim
    | @cons _ v L h3 h4 h5 h6 h7 =>
      subst hSe
      have hvP : v ∉ P := fun h => h4 ((sset_bit P 0 v).2 (.inr h))
      have hnd : ∀ u, u ∉ P → (P ++ [u]).Nodup := fun u hu => List.nodup_append.2 ⟨h1, by simp, by simp; intro a ha; exact fun e => hu (e ▸ ha)⟩
      have hlt : ∀ u, u < G.length → ∀ x ∈ P ++ [u], x < G.length := fun u hu x hx => by
        rcases List.mem_append.1 hx with h | h
        · exact h2 x h
        · rw [List.mem_singleton.1 h]; exact hu
      obtain ⟨A, C, e, hA⟩ := ih (P ++ [v]) L (by simp; omega) (hnd v hvP) (hlt v h3) (by rw [sset_snoc]; exact or_new hS h3) (by rw [sset_snoc]; exact h7)
      obtain ⟨R, hR⟩ := range_split h3
      refine ⟨(List.range v).flatMap (fun u => if u ∈ P then [] else layN G.length d (P ++ [u])) ++ A, C ++ R.flatMap (fun u => if u ∈ P then [] else layN G.length d (P ++ [u])), ?_, fun X hX => ?_⟩
      · simp only [layN]
        rw [hR, List.flatMap_append, List.flatMap_cons, if_neg hvP, e]
        simp
      · rcases List.mem_append.1 hX with h | h
        · obtain ⟨u, hu, hX⟩ := List.mem_flatMap.1 h
          have huv := List.mem_range.1 hu
          by_cases huP : u ∈ P
          · rw [if_pos huP] at hX; simp at hX
          · rw [if_neg huP] at hX
            have hun : u < G.length := by omega
            obtain ⟨Q, eX, hg⟩ := layN_ext G.length d (P ++ [u]) X (by simp; omega) (hnd u huP) (hlt u hun) hX
            apply Classical.byContradiction
            intro hno
            have huS : ¬ bset (sset 0 P) u := fun h => by
              rcases (sset_bit P 0 u).1 h with h | h
              · unfold bset at h; simp at h
              · exact huP h
            refine h6 u huv huS ?_
            rw [eX, List.append_assoc, brOf_append] at hno
            simp only [List.singleton_append, brOf] at hno
            rw [sset_snoc] at hg
            exact ⟨lay_of_br Q _ (or_new hS hun) hg (by omega), by omega⟩
        · exact hA X h
/-- The best of some orders, the first one that has the least breadth. -/
noncomputable def bestN (G : List Nat) : List (List Nat) → List Int → Int → List Int × Int
  | [], best, least => (best, least)
  | P :: Ps, best, least => if ((brOf G 0 P : Nat) : Int) < least then bestN G Ps (gi P) ((brOf G 0 P : Nat) : Int) else bestN G Ps best least
theorem bestOf_ev (G : List Nat) (hG : Gr 7 G) : ∀ (Ps : List (List Nat)) (best : List Int) (least : Int), (∀ P ∈ Ps, P.length < 2 ^ 40 ∧ ∀ v ∈ P, v < G.length) → Ev (fun k => bestOf k (gi G) (Ps.map gi) best least) (bestN G Ps best least)
  | [], best, least, _ => Ev.some rfl
  | P :: Ps, best, least, h => by
    have hP := h P List.mem_cons_self
    have hr : ∀ Q ∈ Ps, Q.length < 2 ^ 40 ∧ ∀ v ∈ Q, v < G.length := fun Q hQ => h Q (List.mem_cons_of_mem _ hQ)
    simp only [List.map_cons, bestOf, bestN]
    refine Ev.bind (refBreadth_ev G hG P hP.2 hP.1) ?_
    by_cases hlt : ((brOf G 0 P : Nat) : Int) < least
    · rw [if_pos hlt]; exact Ev.if_pos hlt (bestOf_ev G hG Ps _ _ hr)
    · rw [if_neg hlt]; exact Ev.if_neg hlt (bestOf_ev G hG Ps _ _ hr)
theorem bestN_keep (G : List Nat) (m : Nat) : ∀ (Ps : List (List Nat)) (best : List Int), (∀ P ∈ Ps, m ≤ brOf G 0 P) → bestN G Ps best (m : Int) = (best, (m : Int))
  | [], _, _ => rfl
  | P :: Ps, best, h => by
    have := h P List.mem_cons_self
    simp only [bestN]
    rw [if_neg (by omega)]
    exact bestN_keep G m Ps best fun Q hQ => h Q (List.mem_cons_of_mem _ hQ)
theorem bestN_first (G : List Nat) (m : Nat) (L : List Nat) (hL : brOf G 0 L = m) (C : List (List Nat)) (hC : ∀ P ∈ C, m ≤ brOf G 0 P) : ∀ (A : List (List Nat)) (best : List Int) (least : Int), (m : Int) < least → (∀ X ∈ A, m < brOf G 0 X) → bestN G (A ++ L :: C) best least = (gi L, (m : Int))
  | [], best, least, h, _ => by
    simp only [List.nil_append, bestN]
    rw [if_pos (by omega), hL]
    exact bestN_keep G m C _ hC
  | P :: A, best, least, h, hA => by
    have := hA P List.mem_cons_self
    have hr : ∀ X ∈ A, m < brOf G 0 X := fun X hX => hA X (List.mem_cons_of_mem _ hX)
    simp only [List.cons_append, bestN]
    split
    · exact bestN_first G m L hL C hC A _ _ (by omega) hr
    · exact bestN_first G m L hL C hC A _ _ h hr
theorem refLayout_ev (G : List Nat) (hG : Gr 7 G) {L : List Nat} {m : Nat} (hm : IsVs G m) (hL : Greedy G m 0 L) : Ev (fun k => lampblackref03_Layout.f k (gi G)) (gi L, (m : Int)) := by
  have hn := hG.most
  have h0 := Nat.two_pow_pos G.length
  obtain ⟨A, C, e, hA⟩ := first_best hG G.length [] L (by simp) List.nodup_nil (by simp) h0 hL
  simp only [List.nil_append] at e
  have hall : ∀ X ∈ layN G.length G.length [], Goes G.length 0 X := fun X hX => by
    obtain ⟨Q, e, hg⟩ := layN_ext G.length G.length [] X (by simp) List.nodup_nil (by simp) hX
    rw [List.nil_append] at e
    rw [e]; exact hg
  have hge : ∀ X ∈ layN G.length G.length [], m ≤ brOf G 0 X := fun X hX => (hm _).2 (lay_of_br X 0 h0 (hall X hX) (Nat.le_refl _))
  have hbr : brOf G 0 L = m := Nat.le_antisymm (greedy_goes hL) (hge L (by rw [e]; exact List.mem_append_right _ List.mem_cons_self))
  have hm7 : m ≤ 9 := by rw [← hbr]; exact brOf_le G L 0
  unfold lampblackref03_Layout.f
  refine Ev.if_pos (by rw [gi_length]; omega) ?_
  rw [gi_length, show ([] : List Int) = gi [] from rfl, layF_gi]
  have := bestOf_ev G hG (layN G.length G.length []) (gi []) 99 (fun P hP => by
    have hg := hall P hP
    refine ⟨?_, fun v hv => (hg.new v hv).1⟩
    have := nodup_le hg.nodup (m := List.range G.length) fun x hx => List.mem_range.2 (hg.new x hx).1
    simp at this
    omega)
  rw [e, bestN_first G m L hbr C (fun P hP => hge P (by rw [e]; exact List.mem_append_right _ (List.mem_cons_of_mem _ hP))) A _ 99 (by omega) hA] at this
  rw [e]
  exact this
end Go.Proofs.YtijfddobandcdaaDoor.X
end
section
/- A plan played street by street (the reference's Play): what a step does to the marks; the plan of a layout's bags is right and never goes back. -/
set_option linter.unusedVariables false
namespace Go.Proofs.YtijfddobandcdaaDoor.X
open Go.RowKit Go.Proofs.YtijfddobandcdaaDoorW.PrintWords Go.Proofs.YtijfddobandcdaaDoorW.PrintLast Go.Proofs.YtijfddobandcdaaDoorW.PrintMore Go.Proofs.YtijfddobandcdaaDoor.T

/-- The mark of a street. -/
def mk (C : List Bool) (a b : Nat) : Prop := C.getD (a * 8 + b) false = true
theorem getD_setB (C : List Bool) (i j : Nat) (x : Bool) (hi : i < C.length) : (C.set i x).getD j false = if j = i then x else C.getD j false := by
  rw [List.getD_eq_getElem?_getD, List.getElem?_set, List.getD_eq_getElem?_getD]
  by_cases e : i = j
  · subst e; rw [if_pos rfl, if_pos rfl, if_pos hi]; rfl
  · rw [if_neg e, if_neg (fun h => e h.symm)]
theorem mk_set (C : List Bool) (x y a b : Nat) (v : Bool) (hC : C.length = 64) (hx : x < 8) (hy : y < 8) (hb : b < 8) : mk (C.set (x * 8 + y) v) a b ↔ if a = x ∧ b = y then v = true else mk C a b := by
  unfold mk
  rw [getD_setB _ _ _ _ (by omega)]
  by_cases h : a = x ∧ b = y
  · obtain ⟨rfl, rfl⟩ := h
    rw [if_pos rfl, if_pos ⟨rfl, rfl⟩]
  · rw [if_neg h, if_neg (by omega)]
theorem row1_mk {G : List Nat} (hG : Gr 7 G) (gd x : Nat) (hx : x < G.length) : ∀ (d y : Nat) (C : List Bool), y + d = G.length → C.length = 64 → ∀ a b, b < 8 →
    (mk (row1 G gd x d y C) a b ↔ mk C a b ∨ (a = x ∧ y ≤ b ∧ Adj G x b ∧ bset gd x ∧ bset gd b)) := by
  have hn := hG.most
  intro d
  induction d with
  | zero =>
    intro y C hy hC a b hb
    simp only [row1]
    exact ⟨.inl, fun h => h.resolve_right fun ⟨_, h1, h2, _⟩ => by have := hG.adj_lt h2; omega⟩
  | succ d ih =>
    intro y C hy hC a b hb
    simp only [row1]
    by_cases hc : ((G.getD x 0).testBit y && gd.testBit x && gd.testBit y) = true
    · rw [if_pos hc, ih (y + 1) _ (by omega) (by simpa using hC) a b hb, mk_set _ _ _ _ _ _ hC (by omega) (by omega) hb]
      simp only [Bool.and_eq_true] at hc
      by_cases e : a = x ∧ b = y
      · obtain ⟨rfl, rfl⟩ := e
        rw [if_pos ⟨rfl, rfl⟩]
        exact ⟨fun _ => .inr ⟨rfl, Nat.le_refl _, hc.1.1, hc.1.2, hc.2⟩, fun _ => .inl rfl⟩
      · rw [if_neg e]
        exact or_congr_right ⟨fun ⟨h1, h2, h3⟩ => ⟨h1, by omega, h3⟩, fun ⟨h1, h2, h3⟩ => ⟨h1, by omega, h3⟩⟩
    · rw [if_neg hc, ih (y + 1) _ (by omega) hC a b hb]
      refine or_congr_right ⟨fun ⟨h1, h2, h3⟩ => ⟨h1, by omega, h3⟩, fun ⟨h1, h2, h3, h4, h5⟩ => ⟨h1, ?_, h3, h4, h5⟩⟩
      by_cases e : b = y
      · subst e
        exact (hc (by simp only [Bool.and_eq_true]; exact ⟨⟨h3, h4⟩, h5⟩)).elim
      · omega
theorem all1_mk {G : List Nat} (hG : Gr 7 G) (gd : Nat) : ∀ (d x : Nat) (C : List Bool), x + d = G.length → C.length = 64 → ∀ a b, b < 8 →
    (mk (all1 G gd d x C) a b ↔ mk C a b ∨ (x ≤ a ∧ Adj G a b ∧ bset gd a ∧ bset gd b)) := by
  intro d
  induction d with
  | zero =>
    intro x C hx hC a b hb
    simp only [all1]
    exact ⟨.inl, fun h => h.resolve_right fun ⟨h1, h2, _⟩ => by have := hG.adj_lt' h2; omega⟩
  | succ d ih =>
    intro x C hx hC a b hb
    simp only [all1]
    rw [ih (x + 1) _ (by omega) (by rw [row1_len]; exact hC) a b hb, row1_mk hG gd x (by omega) G.length 0 C (by omega) hC a b hb, or_assoc]
    refine or_congr_right ⟨?_, ?_⟩
    · rintro (⟨rfl, _, h⟩ | ⟨h1, h2⟩)
      · exact ⟨Nat.le_refl _, h⟩
      · exact ⟨by omega, h2⟩
    · rintro ⟨h1, h2⟩
      by_cases e : a = x
      · subst e; exact .inl ⟨rfl, Nat.zero_le _, h2⟩
      · exact .inr ⟨by omega, h2⟩
theorem all1_len (G : List Nat) (gd : Nat) : ∀ d x C, (all1 G gd d x C).length = C.length
  | 0, _, _ => rfl
  | d + 1, x, C => by rw [all1, all1_len G gd d, row1_len]
theorem smk_iff {G : List Nat} (hG : Gr 7 G) (C : List Bool) (gd x : Nat) : ∀ d y, y + d = G.length → (smk G C gd x d y = true ↔ ¬ bset gd x ∧ ∃ z, y ≤ z ∧ Adj G x z ∧ ¬ mk C x z) := by
  intro d
  induction d with
  | zero =>
    intro y hy
    simp only [smk]
    exact ⟨(fun h => by cases h), fun ⟨_, z, h1, h2, _⟩ => by have := hG.adj_lt h2; omega⟩
  | succ d ih =>
    intro y hy
    simp only [smk]
    by_cases hc : ((G.getD x 0).testBit y && !C.getD (x * 8 + y) false) = true
    · rw [if_pos hc]
      simp only [Bool.and_eq_true, Bool.not_eq_true'] at hc
      have h2 : ¬ mk C x y := fun h => by unfold mk at h; rw [hc.2] at h; cases h
      have e : (!gd.testBit x) = true ↔ ¬ bset gd x := by unfold bset; cases gd.testBit x <;> simp
      rw [e]
      exact ⟨fun h => ⟨h, y, Nat.le_refl _, hc.1, h2⟩, fun h => h.1⟩
    · rw [if_neg hc, ih (y + 1) (by omega)]
      refine and_congr_right fun _ => ⟨fun ⟨z, h1, h2⟩ => ⟨z, by omega, h2⟩, fun ⟨z, h1, h2, h3⟩ => ⟨z, ?_, h2, h3⟩⟩
      by_cases e : z = y
      · subst e
        refine (hc ?_).elim
        simp only [Bool.and_eq_true, Bool.not_eq_true']
        exact ⟨h2, by cases hh : C.getD (x * 8 + z) false; rfl; exact (h3 hh).elim⟩
      · omega
/-- No smoke comes anywhere. -/
def Still (G : List Nat) (C : List Bool) (gd : Nat) : Prop := ∀ x y, Adj G x y → mk C x y → smk G C gd x G.length 0 = false ∧ smk G C gd y G.length 0 = false
theorem row2_still {G : List Nat} {C : List Bool} {gd : Nat} (h : Still G C gd) (x : Nat) (b : Bool) : ∀ d y, row2 G gd x d y (C, b) = (C, b)
  | 0, _ => rfl
  | d + 1, y => by
    rw [row2]
    rw [if_neg]
    · exact row2_still h x b d (y + 1)
    · simp only [Bool.and_eq_true, not_and]
      intro ⟨h1, h2⟩
      have := h x y h1 h2
      simp only [this.1, this.2]
      simp
theorem all2_still {G : List Nat} {C : List Bool} {gd : Nat} (h : Still G C gd) (b : Bool) : ∀ d x, all2 G gd d x (C, b) = (C, b)
  | 0, _ => rfl
  | d + 1, x => by rw [all2, row2_still h, all2_still h b d]
theorem iter2_still {G : List Nat} {C : List Bool} {gd : Nat} (h : Still G C gd) (b : Bool) : ∀ d, iter2 G gd d (C, b) = (C, b)
  | 0 => rfl
  | d + 1 => by rw [iter2, all2_still h, iter2_still h b d]

/-- Exactly the streets within S are clear. -/
def Clr (G : List Nat) (S : Nat) (C : List Bool) : Prop := ∀ a b, Adj G a b → (mk C a b ↔ bset S a ∧ bset S b)
/-- Where the plan of a layout stands: S is done. -/
structure PI (G : List Nat) (S : Nat) (s : PS) : Prop where
  had : s.had = S
  inn : ∀ j, bset s.gd j → bset S j
  bor : ∀ j u, bset S j → Adj G j u → ¬ bset S u → bset s.gd j
  clr : Clr G S s.C
  len : s.C.length = 64
  bk : s.bk = false
  most : pc s.gd 9 ≤ s.most
theorem still_of {G : List Nat} (hG : Gr 7 G) {S gd : Nat} {C : List Bool} (hc : Clr G S C) (hb : ∀ j u, bset S j → Adj G j u → ¬ bset S u → bset gd j) : Still G C gd := by
  have key : ∀ x, bset S x → smk G C gd x G.length 0 = false := fun x hx => by
    cases hs : smk G C gd x G.length 0
    · rfl
    · obtain ⟨h1, z, _, h2, h3⟩ := (smk_iff hG C gd x G.length 0 (by omega)).1 hs
      exact (h1 (hb x z hx h2 (fun hz => h3 ((hc x z h2).2 ⟨hx, hz⟩)))).elim
  intro x y ha hm
  obtain ⟨h1, h2⟩ := (hc x y ha).1 hm
  exact ⟨key x h1, key y h2⟩
/-- A step by which S becomes S2. -/
theorem pi_step {G : List Nat} (hG : Gr 7 G) {S S2 v : Nat} {s : PS} (h : PI G S s) (hS : ∀ j, bset S j → bset S2 j) (hh : S ||| (s.gd ^^^ 2 ^ v) = S2)
    (hb : ∀ j u, bset S2 j → Adj G j u → ¬ bset S2 u → bset (s.gd ^^^ 2 ^ v) j) (he : ∀ a b, Adj G a b → bset S2 a → bset S2 b → (bset S a ∧ bset S b) ∨ (bset (s.gd ^^^ 2 ^ v) a ∧ bset (s.gd ^^^ 2 ^ v) b)) :
    PI G S2 (stepP G s v) ∧ (stepP G s v).gd = s.gd ^^^ 2 ^ v ∧ (stepP G s v).most = max s.most (pc (s.gd ^^^ 2 ^ v) 9) := by
  have hn := hG.most
  obtain ⟨g2, hg2⟩ : ∃ g, s.gd ^^^ 2 ^ v = g := ⟨_, rfl⟩
  unfold stepP
  rw [hg2] at hh hb he ⊢
  have hin : ∀ j, bset g2 j → bset S2 j := fun j hj => by rw [← hh]; exact (or_bset _ _ _).2 (.inr hj)
  have hc : Clr G S2 (all1 G g2 G.length 0 s.C) := fun a b ha => by
    have hb8 := hG.adj_lt ha
    rw [all1_mk hG g2 G.length 0 s.C (by omega) h.len a b (by omega), h.clr a b ha]
    constructor
    · rintro (⟨h1, h2⟩ | ⟨_, _, h1, h2⟩)
      · exact ⟨hS _ h1, hS _ h2⟩
      · exact ⟨hin _ h1, hin _ h2⟩
    · intro ⟨h1, h2⟩
      exact (he a b ha h1 h2).imp id fun h => ⟨Nat.zero_le _, ha, h⟩
  rw [iter2_still (still_of hG hc hb)]
  refine ⟨⟨?_, hin, hb, hc, ?_, h.bk, Nat.le_max_right _ _⟩, rfl, rfl⟩
  · show s.had ||| g2 = S2
    rw [h.had]; exact hh
  · show (all1 G g2 G.length 0 s.C).length = 64
    rw [all1_len]; exact h.len
theorem xor_bset (a v j : Nat) : bset (a ^^^ 2 ^ v) j ↔ if j = v then ¬ bset a j else bset a j := by
  unfold bset
  rw [Nat.testBit_xor, Nat.testBit_two_pow]
  by_cases e : j = v
  · subst e; simp
  · rw [if_neg e, decide_eq_false (fun h => e h.symm)]; simp
def offs (R : List Nat) : List S70 := R.map fun (v : Nat) => (⟨false, (v : Int)⟩ : S70)
theorem playTo_append (G : List Nat) : ∀ (A B : List S70) (s : PS), playTo G (A ++ B) s = (playTo G A s).bind (playTo G B)
  | [], B, s => rfl
  | a :: A, B, s => by
    simp only [List.cons_append, playTo]
    split
    · rfl
    · split
      · rfl
      · split
        · rfl
        · exact playTo_append G A B _
theorem play_one {G : List Nat} {v : Nat} (hv : v < G.length) (b : Bool) (l : List S70) (s : PS) (hb : s.gd.testBit v = !b) : playTo G ((⟨b, (v : Int)⟩ : S70) :: l) s = playTo G l (stepP G s v) := by
  simp only [playTo, Int.toNat_natCast]
  rw [if_neg (by omega), if_neg (by omega), if_neg (by rw [hb]; cases b <;> simp)]
/-- Guards that are not wanted go. -/
theorem play_offs {G : List Nat} (hG : Gr 7 G) {S : Nat} (hS : S < 2 ^ G.length) : ∀ (R : List Nat) (s : PS), PI G S s → R.Nodup → (∀ v ∈ R, bset s.gd v) → (∀ j u, bset S j → Adj G j u → ¬ bset S u → j ∉ R) →
    ∃ s2, playTo G (offs R) s = some s2 ∧ PI G S s2 ∧ s2.most = s.most ∧ ∀ j, bset s2.gd j ↔ bset s.gd j ∧ j ∉ R
  | [], s, h, _, _, _ => ⟨s, rfl, h, rfl, fun j => by simp⟩
  | v :: R, s, h, hd, hR, hb => by
    have hv := hR v List.mem_cons_self
    have hvn : v < G.length := bit_lt hS (h.inn v hv)
    obtain ⟨hd1, hd2⟩ := List.nodup_cons.1 hd
    have hx : ∀ j, bset (s.gd ^^^ 2 ^ v) j ↔ bset s.gd j ∧ j ≠ v := fun j => by
      rw [xor_bset]
      by_cases e : j = v
      · subst e; rw [if_pos rfl]; exact ⟨fun h => (h hv).elim, fun h => (h.2 rfl).elim⟩
      · rw [if_neg e]; exact ⟨fun h => ⟨h, e⟩, fun h => h.1⟩
    obtain ⟨h1, h2, h3⟩ := pi_step hG h (S2 := S) (v := v) (fun _ h => h)
      (eq_of_bits fun j => by
        show bset _ _ ↔ bset _ _
        rw [or_bset, hx]
        exact ⟨fun h' => h'.elim id fun h' => h.inn j h'.1, .inl⟩)
      (fun j u a b c => (hx j).2 ⟨h.bor j u a b c, fun e => hb j u a b c (by subst e; exact List.mem_cons_self)⟩)
      (fun a b _ h1 h2 => .inl ⟨h1, h2⟩)
    obtain ⟨s2, h4, h5, h6, h7⟩ := play_offs hG hS R _ h1 hd2 (fun u hu => by
        rw [h2]
        exact (hx u).2 ⟨hR u (List.mem_cons_of_mem _ hu), fun e => hd1 (by subst e; exact hu)⟩) (fun j u a b c hm => hb j u a b c (List.mem_cons_of_mem _ hm))
    refine ⟨s2, ?_, h5, ?_, fun j => ?_⟩
    · rw [show offs (v :: R) = (⟨false, (v : Int)⟩ : S70) :: offs R from rfl, play_one hvn false _ _ hv]
      exact h4
    · rw [h6, h3]
      have : pc (s.gd ^^^ 2 ^ v) 9 ≤ pc s.gd 9 := pc_mono 9 fun j _ hj => ((hx j).1 hj).1
      have := h.most
      omega
    · rw [h7, h2, hx, List.mem_cons, not_or, and_assoc]
theorem planOf_out : ∀ (B : List Nat) (now : Nat) (out : List S85), planOf B now out = out ++ planOf B now []
  | [], _, out => by simp [planOf]
  | b :: B, now, out => by
    simp only [planOf]
    rw [planOf_out B b, planOf_out B b (([] ++ _) ++ _)]
    simp
theorem pc_split {x y : Nat} : ∀ n, (∀ j, bset x j → bset y j) → pc (diff y x) n + pc x n = pc y n
  | 0, _ => rfl
  | n + 1, h => by
    have ih := pc_split n h
    simp only [pc]
    have h1 := diff_testBit y x n
    have h2 := h n
    unfold bset at h2
    rw [h1]
    cases hx : x.testBit n <;> cases hy : y.testBit n <;> simp_all <;> omega
theorem diff_new {a v : Nat} (x : Nat) (hv : ¬ bset x v) : diff x (a ||| 2 ^ v) = diff x a := eq_of_bits fun j => by
  show bset _ _ ↔ bset _ _
  rw [diff_bset, diff_bset, or_bset, two_pow_bit]
  exact ⟨fun ⟨h1, h2⟩ => ⟨h1, fun h => h2 (.inl h)⟩, fun ⟨h1, h2⟩ => ⟨h1, fun h => h.elim h2 fun e => hv (by subst e; exact h1)⟩⟩
theorem els_one {v : Nat} (hv : v < 9) : els (2 ^ v) 9 = [v] := (show ∀ v : Fin 9, els (2 ^ v.val) 9 = [v.val] from by decide) ⟨v, hv⟩
/-- **The plan of a layout's bags**, behind S. -/
theorem play_bags {G : List Nat} (hG : Gr 7 G) : ∀ (P : List Nat) (S : Nat) (s : PS), S < 2 ^ G.length → Goes G.length S P → PI G S s → s.gd < 512 →
    ∃ s2, playTo G ((planOf (bagsOf G S P ++ [0]) s.gd []).map conv) s = some s2 ∧ PI G (2 ^ G.length - 1) s2 ∧ s2.most = max s.most (mostOf (bagsOf G S P)) ∧ (planOf (bagsOf G S P ++ [0]) s.gd []).length = pc s.gd 9 + 2 * P.length
  | [], S, s, hS, hg, h, h5 => by
    have e : S = 2 ^ G.length - 1 := eq_of_bits fun j => by
      show bset _ _ ↔ bset _ _
      rw [full_bit]
      exact ⟨fun hj => bit_lt hS hj, fun hj => (hg.all j hj).resolve_right (by simp)⟩
    have e0 : els (diff 0 s.gd) 9 = [] := by
      have : diff 0 s.gd = 0 := by have := diff_le 0 s.gd; omega
      rw [this]; decide
    have ed : diff s.gd 0 = s.gd := by unfold diff; simp
    have ep : planOf (bagsOf G S [] ++ [0]) s.gd [] = (els s.gd 9).map fun (v : Nat) => (⟨false, (v : Int)⟩ : S85) := by
      simp only [bagsOf, List.nil_append, planOf, e0, ed, List.map_nil, List.append_nil]
    obtain ⟨s2, h1, h2, h3, _⟩ := play_offs hG hS (els s.gd 9) s h (els_nodup _ _) (fun v hv => (mem_els.1 hv).2) (fun j u a b c => by
      refine (c ?_).elim
      rw [e, full_bit]; exact hG.adj_lt b)
    refine ⟨s2, ?_, by rw [← e]; exact h2, ?_, ?_⟩
    · rw [ep, List.map_map]; exact h1
    · rw [h3]; simp [bagsOf, mostOf]
    · rw [ep, List.length_map, els_length]; simp
  | v :: P, S, s, hS, hg, h, h5 => by
    have hn := hG.most
    have hv := hg.new v List.mem_cons_self
    have hvg : ¬ bset s.gd v := fun hb => hv.2 (h.inn v hb)
    have hbo : ∀ j, bset (bor G S) j → bset s.gd j := fun j hj => by
      obtain ⟨h1, u, h2, h3⟩ := (bor_bit hG S j).1 hj
      exact h.bor j u h1 h2 h3
    have hd1 : diff s.gd (bor G S ||| 2 ^ v) = diff s.gd (bor G S) := diff_new _ hvg
    have hd2 : diff (bor G S ||| 2 ^ v) s.gd = 2 ^ v := eq_of_bits fun j => by
      show bset _ _ ↔ bset _ _
      rw [diff_bset, or_bset, two_pow_bit]
      exact ⟨fun ⟨h1, h2⟩ => h1.resolve_left fun h => h2 (hbo j h), fun e => ⟨.inr e, by subst e; exact hvg⟩⟩
    obtain ⟨s1, p1, p2, p3, p4⟩ := play_offs hG hS (els (diff s.gd (bor G S)) 9) s h (els_nodup _ _) (fun u hu => ((diff_bset _ _ _).1 (mem_els.1 hu).2).1) (fun j u a b c hm =>
      ((diff_bset _ _ _).1 (mem_els.1 hm).2).2 ((bor_bit hG S j).2 ⟨a, u, b, c⟩))
    have hgd1 : s1.gd = bor G S := eq_of_bits fun j => by
      show bset _ _ ↔ bset _ _
      rw [p4]
      constructor
      · intro ⟨h1, h2⟩
        apply Classical.byContradiction
        intro h3
        exact h2 (mem_els.2 ⟨bit_lt (n := 9) (by omega) h1, (diff_bset _ _ _).2 ⟨h1, h3⟩⟩)
      · intro h1
        exact ⟨hbo j h1, fun hm => ((diff_bset _ _ _).1 (mem_els.1 hm).2).2 h1⟩
    have hvb : ¬ bset (bor G S) v := fun hb => hv.2 ((bor_bit hG S v).1 hb).1
    have hx : s1.gd ^^^ 2 ^ v = bor G S ||| 2 ^ v := eq_of_bits fun j => by
      show bset _ _ ↔ bset _ _
      rw [hgd1, xor_bset, or_bset, two_pow_bit]
      by_cases e : j = v
      · subst e; rw [if_pos rfl]; exact ⟨fun _ => .inr rfl, fun _ => hvb⟩
      · rw [if_neg e]; exact ⟨.inl, fun h => h.resolve_right e⟩
    obtain ⟨q1, q2, q3⟩ := pi_step hG p2 (S2 := S ||| 2 ^ v) (v := v) (fun j hj => (or_bset _ _ _).2 (.inl hj))
      (by
        rw [hx]
        exact eq_of_bits fun j => by
          show bset _ _ ↔ bset _ _
          rw [or_bset, or_bset, or_bset]
          exact ⟨fun h => h.elim .inl fun h => h.elim (fun h => .inl ((bor_bit hG S j).1 h).1) .inr, fun h => h.elim .inl fun h => .inr (.inr h)⟩)
      (by
        intro j u a b c
        rw [hx, or_bset]
        rcases (or_bset _ _ _).1 a with a | a
        · exact .inl ((bor_bit hG S j).2 ⟨a, u, b, fun h => c ((or_bset _ _ _).2 (.inl h))⟩)
        · exact .inr a)
      (by
        intro a b hab ha hb
        rw [hx]
        have side : ∀ a b, Adj G a b → bset S a → ¬ bset S b → bset (bor G S ||| 2 ^ v) a := fun a b h1 h2 h3 => (or_bset _ _ _).2 (.inl ((bor_bit hG S a).2 ⟨h2, b, h1, h3⟩))
        have vv : ∀ a, bset (S ||| 2 ^ v) a → ¬ bset S a → bset (bor G S ||| 2 ^ v) a := fun a h1 h2 => (or_bset _ _ _).2 (.inr (((or_bset _ _ _).1 h1).resolve_left h2))
        by_cases ha1 : bset S a
        · by_cases hb1 : bset S b
          · exact .inl ⟨ha1, hb1⟩
          · exact .inr ⟨side a b hab ha1 hb1, vv b hb hb1⟩
        · by_cases hb1 : bset S b
          · exact .inr ⟨vv a ha ha1, side b a (hG.adj_symm hab) hb1 ha1⟩
          · exact .inr ⟨vv a ha ha1, vv b hb hb1⟩)
    have hlt : bor G S ||| 2 ^ v < 512 := small G (by omega) (or_lt (bor_lt G S) (Nat.pow_lt_pow_right (by omega) hv.1))
    have hgq : (stepP G s1 v).gd = bor G S ||| 2 ^ v := by rw [q2, hx]
    obtain ⟨s2, r1, r2, r3, r4⟩ := play_bags hG P (S ||| 2 ^ v) (stepP G s1 v) (or_new hS hv.1) hg.tail q1 (by rw [hgq]; exact hlt)
    rw [hgq] at r1 r4
    have hpl : planOf (bagsOf G S (v :: P) ++ [0]) s.gd [] = ((els (diff s.gd (bor G S)) 9).map fun (v : Nat) => (⟨false, (v : Int)⟩ : S85)) ++ ((⟨true, (v : Int)⟩ : S85) :: planOf (bagsOf G (S ||| 2 ^ v) P ++ [0]) (bor G S ||| 2 ^ v) []) := by
      simp only [bagsOf, List.cons_append, planOf]
      rw [planOf_out, hd1, hd2, els_one (by omega)]
      simp
    have hpc := pc_split (x := bor G S) (y := s.gd) 9 hbo
    have hpn : pc (bor G S ||| 2 ^ v) 9 = pc (bor G S) 9 + 1 := pc_new (by omega) hvb
    refine ⟨s2, ?_, r2, ?_, ?_⟩
    · rw [hpl, List.map_append, playTo_append, List.map_map, show playTo G ((els (diff s.gd (bor G S)) 9).map (conv ∘ fun (v : Nat) => (⟨false, (v : Int)⟩ : S85))) s = some s1 from p1, Option.bind_some, List.map_cons]
      rw [show conv (⟨true, (v : Int)⟩ : S85) = ⟨true, (v : Int)⟩ from rfl, play_one hv.1 true _ _ (by rw [hgd1]; cases hh : (bor G S).testBit v; rfl; exact (hvb hh).elim)]
      exact r1
    · rw [r3, q3, p3, hx]
      simp only [bagsOf]
      have : mostOf ((bor G S ||| 2 ^ v) :: bagsOf G (S ||| 2 ^ v) P) = max (pc (bor G S ||| 2 ^ v) 9) (mostOf (bagsOf G (S ||| 2 ^ v) P)) := rfl
      rw [this]
      omega
    · rw [hpl, List.length_append, List.length_map, els_length, List.length_cons, r4, hpn, List.length_cons]
      omega
theorem greedy_is {G : List Nat} {m : Nat} {S : Nat} {L : List Nat} (h : Greedy G m S L) : Goes G.length S L := by
  induction h with
  | nil => exact ⟨List.nodup_nil, fun v hv => by simp at hv, fun j hj => .inl ((full_bit _ _).2 hj)⟩
  | @cons S v L h1 h2 _ _ _ ih =>
    refine ⟨List.nodup_cons.2 ⟨fun hm => (ih.new v hm).2 ((or_bset _ _ _).2 (.inr ((two_pow_bit v v).2 rfl))), ih.nodup⟩, fun u hu => ?_, fun j hj => ?_⟩
    · rcases List.mem_cons.1 hu with e | e
      · subst e; exact ⟨h1, h2⟩
      · exact ⟨(ih.new u e).1, fun hb => (ih.new u e).2 ((or_bset _ _ _).2 (.inl hb))⟩
    · rcases ih.all j hj with hb | hb
      · rcases (or_bset _ _ _).1 hb with hb | hb
        · exact .inl hb
        · exact .inr (by rw [(two_pow_bit v j).1 hb]; exact List.mem_cons_self)
      · exact .inr (List.mem_cons_of_mem _ hb)
theorem greedy_ord {G : List Nat} {m : Nat} {L : List Nat} (h : Greedy G m 0 L) : IsOrd G.length (gi L) := by
  have hg := greedy_is h
  have hin : ∀ j, j < G.length → j ∈ L := fun j hj => (hg.all j hj).resolve_left fun hb => by unfold bset at hb; simp at hb
  refine ⟨L, rfl, hg.nodup, fun v hv => (hg.new v hv).1, Nat.le_antisymm ?_ ?_⟩
  · have := nodup_le hg.nodup (m := List.range G.length) fun x hx => List.mem_range.2 (hg.new x hx).1
    simpa using this
  · have := nodup_le (List.nodup_range (n := G.length)) (m := L) fun x hx => hin x (List.mem_range.1 hx)
    simpa using this
theorem row3_yes {G : List Nat} (hG : Gr 7 G) {C : List Bool} (h : Clr G (2 ^ G.length - 1) C) (x : Nat) : ∀ d y, row3 G C x d y = true
  | 0, _ => rfl
  | d + 1, y => by
    rw [row3, if_neg]
    · exact row3_yes hG h x d (y + 1)
    · simp only [Bool.and_eq_true, Bool.not_eq_true', not_and, Bool.not_eq_false]
      intro ha
      exact (h x y ha).2 ⟨(full_bit _ _).2 (hG.adj_lt' ha), (full_bit _ _).2 (hG.adj_lt ha)⟩
theorem all3_yes {G : List Nat} (hG : Gr 7 G) {C : List Bool} (h : Clr G (2 ^ G.length - 1) C) : ∀ d x, all3 G C d x = true
  | 0, _ => rfl
  | d + 1, x => by rw [all3, row3_yes hG h, all3_yes hG h d]; rfl
theorem getD_false (j : Nat) : (List.replicate 64 false).getD j false = false := by
  rw [List.getD_eq_getElem?_getD, List.getElem?_replicate]
  split <;> rfl
theorem pi_start (G : List Nat) : PI G 0 p0 := by
  have z : ∀ j, ¬ bset 0 j := fun j h => by unfold bset at h; simp at h
  exact ⟨rfl, fun j h => h, fun j u h => (z j h).elim, fun a b _ => ⟨(fun h => by unfold mk at h; rw [show p0.C = List.replicate 64 false from rfl, getD_false] at h; cases h), fun h => (z a h.1).elim⟩, rfl, rfl, by decide⟩
/-- The plan of a layout's bags is right, never goes back, and has one guard more than the breadth. -/
theorem plan_right {G : List Nat} (hG : Gr 7 G) {P : List Nat} (h : IsOrd G.length (gi P)) :
    refPlay G ((planOf (bagsOf G 0 P ++ [0]) 0 []).map conv) = (((brOf G 0 P : Nat) : Int) + 1, false, true) ∧ (planOf (bagsOf G 0 P ++ [0]) 0 []).length ≤ 14 := by
  have hn := hG.most
  have hl := h.length
  rw [gi_length] at hl
  obtain ⟨s2, h1, h2, h3, h4⟩ := play_bags hG P 0 p0 (Nat.two_pow_pos _) (goes_of h) (pi_start G) (by decide)
  have hg0 : p0.gd = 0 := rfl
  rw [hg0] at h1 h4
  have h5 : pc 0 9 = 0 := by decide
  unfold refPlay
  rw [List.length_map, h4, if_neg (by omega), h1]
  refine ⟨?_, by omega⟩
  simp only [finP]
  rw [if_pos (all3_yes hG h2.clr _ _), if_pos h2.had, h2.bk, h3, bags_width hG h]
  have : p0.most = 0 := rfl
  rw [this, Nat.zero_max]
  rfl
end Go.Proofs.YtijfddobandcdaaDoor.X
end
section
/- SweepPlans, without Go and memory: Plan returns a right plan that never goes back, with one guard more than the path width, or the documented error. -/
set_option linter.unusedVariables false
namespace Go.Proofs.YtijfddobandcdaaDoor.Pure
open Go.RowKit Go.Proofs.YtijfddobandcdaaDoorW.PrintWords Go.Proofs.YtijfddobandcdaaDoorW.PrintLast Go.Proofs.YtijfddobandcdaaDoorW.PrintMore Go.Proofs.YtijfddobandcdaaDoor.T Go.Proofs.YtijfddobandcdaaDoor.X
theorem SweepPlans : ∀ (l0 : List Int), l0.length ≤ maxLen → l0.length * 8 ≤ 140737488351232 → (∀ x ∈ l0, (Lit.int .i64 x).wf = true) → ∃ k, lampblacklaw03_SweepPlans.f k l0 = some true := by
  intro g _ hg _
  apply Ev.rounds
  obtain ⟨h, e, e1, e2, e3⟩ := few_eq g (by omega)
  have hv := valid_ev g (by omega)
  unfold lampblacklaw03_SweepPlans.f
  refine Ev.bind1 e ?_
  by_cases hc : chk 7 g = true
  · obtain ⟨G, rfl, hG⟩ := (chk_iff 7 (by omega) _).1 hc
    have hn := hG.most
    rw [hc] at hv
    rw [e1 hc]
    obtain ⟨L, m, hL, hm, hgr⟩ := layout_eq G hG
    have hLo : IsOrd G.length (gi L) := greedy_ord hgr
    have hLl := hLo.length
    rw [gi_length] at hLl
    have hbr : brOf G 0 L = m := Nat.le_antisymm (greedy_goes hgr) ((hm _).2 (lay_of_br L 0 (Nat.two_pow_pos _) (goes_of hLo) (Nat.le_refl _)))
    obtain ⟨hpr, hpl⟩ := plan_right hG hLo
    have hLv : ∀ v ∈ L, v < G.length := fun v hv => ((goes_of hLo).new v hv).1
    have hpw : Ev (fun k => lampblackref03_PathWidth.f k (gi G)) (m : Int) := by
      unfold lampblackref03_PathWidth.f
      exact Ev.bind (refLayout_ev G hG hm hgr) (Ev.some rfl)
    have hr := read_ev (gi G) (by rw [gi_length]; omega)
    rw [hc] at hr
    have hplan : Ev (fun k => sweep_Plan.f k (gi G)) (planOf (bagsOf G 0 L ++ [0]) 0 [], 0) := by
      unfold sweep_Plan.f
      exact Ev.bind hr (Ev.if_pos rfl (Ev.bind1 hL (Ev.bind (bags_ev G hG L hLv (by omega)) (Ev.bind1 (follow_eq _ (fun b hb => small G (by omega) (bags_lt L 0 hLv b hb)) (by rw [bagsOf_length]; omega)) (Ev.some rfl)))))
    have hplay : lampblackref03_Play.f (gi G) ((planOf (bagsOf G 0 L ++ [0]) 0 []).map conv) = some ((m : Int) + 1, false, true) := by
      unfold lampblackref03_Play.f
      rw [if_pos hc, gi_toNat, hpr, hbr]
    have hm7 : m ≤ 9 := by rw [← hbr]; exact brOf_le G L 0
    exact Ev.bind hplan (Ev.bind hv (Ev.if_pos rfl (Ev.bind (own_ev _ (show (planOf (bagsOf G 0 L ++ [0]) 0 []).length < 2 ^ 40 by omega)) (Ev.bind1 hplay (Ev.if_pos rfl (Ev.if_pos rfl (Ev.if_neg (by simp) (Ev.bind hpw (Ev.if_pos (by unfold wrap64; omega) (Ev.bind awake_ev (Ev.some rfl)))))))))))
  · have hc' : chk 7 g = false := by simpa using hc
    rw [hc'] at hv
    have hr := read_ev h (by omega)
    rw [e2 hc'] at hr
    have hplan : Ev (fun k => sweep_Plan.f k h) (([] : List S85), 2) := by
      unfold sweep_Plan.f
      exact Ev.bind hr (Ev.if_neg (by simp) (Ev.some rfl))
    exact Ev.bind hplan (Ev.bind hv (Ev.if_neg (by simp) (Ev.if_pos rfl (Ev.if_pos rfl (Ev.bind awake_ev (Ev.some rfl))))))
end Go.Proofs.YtijfddobandcdaaDoor.Pure
end
