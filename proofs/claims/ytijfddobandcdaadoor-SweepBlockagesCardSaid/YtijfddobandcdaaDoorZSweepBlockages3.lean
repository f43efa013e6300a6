/- Part 3 of what SweepBlockages rests on: contracts of the functions that it reaches, and what they compute, in plain words. -/
import Derived.Test.YtijfddobandcdaaDoorZSweepBlockages0
import Derived.Test.YtijfddobandcdaaDoorZSweepBlockages1
import Derived.Test.YtijfddobandcdaaDoorZSweepBlockages2
import Derived.WalkSpells
section
namespace Go.Proofs.YtijfddobandcdaaDoor.X
open Go.RowKit Go.Proofs.YtijfddobandcdaaDoorW.PrintWords Go.Proofs.YtijfddobandcdaaDoorW.PrintLast Go.Proofs.YtijfddobandcdaaDoorW.PrintMore
attribute [local go_sem] max2_int min2_int max_two min_two max_three min_three max_four min_four
set_option linter.unusedVariables false
set_option linter.unusedSimpArgs false
/-! ### sweep_town_bags: function 52 -/
def sweep_town_bags.l0 : Nat → List Int → List Int → Int → List Int → Int → Int → Option (List Int)
 | 0, _, _, _, _, _, _ => none
 | k + 1, x0, x5, x6, x9, x10, x11 => if x11 < x10 then (if 0 ≤ x11 then (if x11 < (x9.length : Int) then ((sweep_town_border.f x0 x6).bind fun t194 => (if 0 ≤ (rd x9 x11) then (if x5.length < 17592186044416 then (sweep_town_bags.l0 k x0 (x5 ++ [Go.bits .or .i64 t194 (shl .i64 1 (rd x9 x11))]) (Go.bits .or .i64 x6 (shl .i64 1 (rd x9 x11))) x9 x10 (wrap64 (x11 + 1))) else (none)) else (none))) else (none)) else (none)) else (some x5)
end Go.Proofs.YtijfddobandcdaaDoor.X
end
section
namespace Go.Proofs.YtijfddobandcdaaDoor.X
open Go.RowKit Go.Proofs.YtijfddobandcdaaDoorW.PrintWords Go.Proofs.YtijfddobandcdaaDoorW.PrintLast Go.Proofs.YtijfddobandcdaaDoorW.PrintMore
attribute [local go_sem] max2_int min2_int max_two min_two max_three min_three max_four min_four
set_option linter.unusedVariables false
set_option linter.unusedSimpArgs false
/-! ### lampblackref02_IsOrder: function 30 -/
def lampblackref02_IsOrder.l0 : Nat → List Int → Int → Int → List Int → Int → Int → Option (Bool)
 | 0, _, _, _, _, _, _ => none
 | k + 1, x0, x1, x5, x8, x9, x10 => if x10 < x9 then (if 0 ≤ x10 then (if x10 < (x8.length : Int) then (if (rd x8 x10) < 0 then (some false) else (if (rd x8 x10) ≥ x1 then (some false) else (if 0 ≤ (rd x8 x10) then (if (Go.bits .and .i64 (shr .i64 x5 (rd x8 x10)) 1) = 1 then (some false) else (lampblackref02_IsOrder.l0 k x0 x1 (Go.bits .or .i64 x5 (shl .i64 1 (rd x8 x10))) x8 x9 (wrap64 (x10 + 1)))) else (none)))) else (none)) else (none)) else (some ((x0.length : Int) == x1))
end Go.Proofs.YtijfddobandcdaaDoor.X
end
section
namespace Go.Proofs.YtijfddobandcdaaDoor.X
open Go.RowKit Go.Proofs.YtijfddobandcdaaDoorW.PrintWords Go.Proofs.YtijfddobandcdaaDoorW.PrintLast Go.Proofs.YtijfddobandcdaaDoorW.PrintMore
attribute [local go_sem] max2_int min2_int max_two min_two max_three min_three max_four min_four
set_option linter.unusedVariables false
set_option linter.unusedSimpArgs false
/-! ### lampblackref03_Bags: function 33 -/
def lampblackref03_Bags.l0 : Nat → List Int → List Int → Int → List Int → Int → Int → Option (List Int)
 | 0, _, _, _, _, _, _ => none
 | k + 1, x0, x5, x6, x9, x10, x11 => if x11 < x10 then (if 0 ≤ x11 then (if x11 < (x9.length : Int) then ((lampblackref03_Border.f k x0 x6).bind fun t287 => (if 0 ≤ (rd x9 x11) then (if x5.length < 17592186044416 then (lampblackref03_Bags.l0 k x0 (x5 ++ [Go.bits .or .i64 t287 (shl .i64 1 (rd x9 x11))]) (Go.bits .or .i64 x6 (shl .i64 1 (rd x9 x11))) x9 x10 (wrap64 (x11 + 1))) else (none)) else (none))) else (none)) else (none)) else (some x5)
end Go.Proofs.YtijfddobandcdaaDoor.X
end
section
namespace Go.Proofs.YtijfddobandcdaaDoor.X
open Go.RowKit Go.Proofs.YtijfddobandcdaaDoorW.PrintWords Go.Proofs.YtijfddobandcdaaDoorW.PrintLast Go.Proofs.YtijfddobandcdaaDoorW.PrintMore
attribute [local go_sem] max2_int min2_int max_two min_two max_three min_three max_four min_four
set_option linter.unusedVariables false
set_option linter.unusedSimpArgs false
/-! ### slices_Equal_int_int: function 29 -/
def slices_Equal_int_int.l0 : Nat → List Int → List Int → Int → Int → Option (Bool)
 | 0, _, _, _, _ => none
 | k + 1, x0, x1, x12, x13 => if x13 < x12 then (if 0 ≤ x13 then (if x13 < (x0.length : Int) then (if x13 < (x1.length : Int) then (if (rd x0 x13) = (rd x1 x13) then (slices_Equal_int_int.l0 k x0 x1 x12 (wrap64 (x13 + 1))) else (some false)) else (none)) else (none)) else (none)) else (some true)
end Go.Proofs.YtijfddobandcdaaDoor.X
end
section
/- IsOrder, isLayout, Border, bags, Equal: what they compute. -/
set_option linter.unusedVariables false
namespace Go.Proofs.YtijfddobandcdaaDoor.X
open Go.RowKit Go.Proofs.YtijfddobandcdaaDoorW.PrintWords Go.Proofs.YtijfddobandcdaaDoorW.PrintLast Go.Proofs.YtijfddobandcdaaDoorW.PrintMore Go.Proofs.YtijfddobandcdaaDoor.T
theorem bit_bset (a i : Nat) (ha : a < 2 ^ 62) (hi : i < 62) : Go.bits .and .i64 (shr .i64 (a : Int) (i : Int)) 1 = 1 ↔ bset a i := bit_one a i ha hi
theorem refBorder_l0 (G : List Nat) (hG : Gr 7 G) (S : Nat) (hS : S < 2 ^ G.length) : ∀ (d i o : Nat), i + d = G.length → o < 2 ^ G.length → (∀ j, bset o j ↔ j < i ∧ bset (bor G S) j) →
  Ev (fun k => lampblackref03_Border.l0 k (gi G) (S : Int) (o : Int) (G.length : Int) (i : Int)) ((bor G S : Nat) : Int) := by
 have hn := hG.most
 intro d
 induction d with
 | zero =>
  intro i o hi ho h
  have e : o = bor G S := eq_of_bits fun j => by
   show bset _ _ ↔ bset _ _
   rw [h]
   exact ⟨fun h => h.2, fun h => ⟨by have := bit_lt (bor_lt G S) h; omega, h⟩⟩
  subst e
  exact Ev.step (f := fun _ => some ((bor G S : Nat) : Int)) (fun k => by rw [lampblackref03_Border.l0, if_neg (by omega)]) (Ev.some rfl)
 | succ d ih =>
  intro i o hi ho h
  have hi' : i < G.length := by omega
  have hS62 := big (small G (by omega) hS)
  have hr62 := big (small G (by omega) (hG.row i))
  have ho62 := big (small G (by omega) ho)
  have e2 : 2 ^ i < 2 ^ G.length := Nat.pow_lt_pow_right (by omega) hi'
  have e62 := big (small G (by omega) e2)
  have hE2 := Aside0.mk e2
  clear e2
  have step : ∀ o2 : Nat, o2 < 2 ^ G.length → (∀ j, bset o2 j ↔ bset o j ∨ (j = i ∧ bset (bor G S) i)) → Ev (fun k => lampblackref03_Border.l0 k (gi G) (S : Int) (o2 : Int) (G.length : Int) ((i + 1 : Nat) : Int)) ((bor G S : Nat) : Int) := fun o2 h1 h2 => by
   refine ih (i + 1) o2 (by omega) h1 fun j => ?_
   rw [h2, h]
   constructor
   ·rintro (h | ⟨rfl, h⟩)
    ·exact ⟨by omega, h.2⟩
    ·exact ⟨by omega, h⟩
   ·rintro ⟨h3, h4⟩
    by_cases e : j = i
    ·subst e; exact .inr ⟨rfl, h4⟩
    ·exact .inl ⟨by omega, h4⟩
  have hwi := wrap_succ i (by omega)
  by_cases hb : bset S i
  ·by_cases hd : diff (G.getD i 0) S = 0
   ·refine Ev.step (fun k => ?_) (step o ho fun j => ⟨.inl, fun h => h.elim id fun h => ?_⟩)
    ·rw [lampblackref03_Border.l0, if_pos (by omega), if_pos (by omega), if_pos ((bit_bset _ _ hS62 (by omega)).2 hb), if_pos (by rw [gi_length]; omega), rd_gi, b_andNot _ _ hr62 hS62, hd, if_pos (show ((0 : Nat) : Int) = 0 from rfl), hwi]
    ·obtain ⟨_, u, hu, hu'⟩ := (bor_bit hG S i).1 h.2
     exact (diff_ne.2 ⟨u, hu, hu'⟩ hd).elim
   ·refine Ev.step (fun k => ?_) (step (o ||| 2 ^ i) (or_lt ho hE2.out) fun j => ?_)
    ·rw [lampblackref03_Border.l0, if_pos (by omega), if_pos (by omega), if_pos ((bit_bset _ _ hS62 (by omega)).2 hb), if_pos (by rw [gi_length]; omega), rd_gi, b_andNot _ _ hr62 hS62, if_neg (by omega), s_one i (by omega), b_or _ _ ho62 e62, hwi]
    ·rw [or_bset, two_pow_bit]
     refine ⟨fun h => h.imp id fun h => ⟨h, ?_⟩, fun h => h.imp id fun h => h.1⟩
     obtain ⟨u, hu⟩ := diff_ne.1 hd
     exact (bor_bit hG S i).2 ⟨hb, u, hu⟩
  ·refine Ev.step (fun k => ?_) (step o ho fun j => ⟨.inl, fun h => h.elim id fun h => (hb ((bor_bit hG S i).1 h.2).1).elim⟩)
   rw [lampblackref03_Border.l0, if_pos (by omega), if_pos (by omega), if_neg (fun h => hb ((bit_bset _ _ hS62 (by omega)).1 h)), hwi]
theorem refBorder_ev (G : List Nat) (hG : Gr 7 G) (S : Nat) (hS : S < 2 ^ G.length) : Ev (fun k => lampblackref03_Border.f k (gi G) (S : Int)) ((bor G S : Nat) : Int) := by
 unfold lampblackref03_Border.f
 rw [gi_length]
 exact refBorder_l0 G hG S hS G.length 0 0 (by omega) (Nat.two_pow_pos _) fun j => ⟨fun h => by unfold bset at h; simp at h, fun h => by omega⟩
end Go.Proofs.YtijfddobandcdaaDoor.X
end
section
/- Path decompositions: bags in a row; the runs of a node; backward. -/
set_option linter.unusedVariables false
namespace Go.Proofs.YtijfddobandcdaaDoor.T
open Go.RowKit Go.Proofs.YtijfddobandcdaaDoorW.PrintWords Go.Proofs.YtijfddobandcdaaDoorW.PrintLast Go.Proofs.YtijfddobandcdaaDoorW.PrintMore
def marks (v : Nat) (B : List Nat) : List Bool := B.map fun b => b.testBit v
def left (v : Nat) : Nat → List Nat → Nat
 | s, [] => s
 | s, b :: B => left v (if b.testBit v then diff s b else s) B
end Go.Proofs.YtijfddobandcdaaDoor.T
end
section
namespace Go.Proofs.YtijfddobandcdaaDoor.X
open Go.RowKit Go.Proofs.YtijfddobandcdaaDoorW.PrintWords Go.Proofs.YtijfddobandcdaaDoorW.PrintLast Go.Proofs.YtijfddobandcdaaDoorW.PrintMore
attribute [local go_sem] max2_int min2_int max_two min_two max_three min_three max_four min_four
set_option linter.unusedVariables false
set_option linter.unusedSimpArgs false
/-! ### slices_Max_int_int: function 76 -/
def slices_Max_int_int.l0 : Nat → List Int → Int → Int → Option (Int)
 | 0, _, _, _ => none
 | k + 1, x0, x3, x4 => if x4 < (x0.length : Int) then (if 0 ≤ x4 then (slices_Max_int_int.l0 k x0 (mx x3 (rd x0 x4)) (wrap64 (x4 + 1))) else (none)) else (some x3)
end Go.Proofs.YtijfddobandcdaaDoor.X
end
section
namespace Go.Proofs.YtijfddobandcdaaDoor.X
open Go.RowKit Go.Proofs.YtijfddobandcdaaDoorW.PrintWords Go.Proofs.YtijfddobandcdaaDoorW.PrintLast Go.Proofs.YtijfddobandcdaaDoorW.PrintMore
attribute [local go_sem] max2_int min2_int max_two min_two max_three min_three max_four min_four
set_option linter.unusedVariables false
set_option linter.unusedSimpArgs false
/-! ### slices_Min_int_int: function 75 -/
def slices_Min_int_int.l0 : Nat → List Int → Int → Int → Option (Int)
 | 0, _, _, _ => none
 | k + 1, x0, x3, x4 => if x4 < (x0.length : Int) then (if 0 ≤ x4 then (slices_Min_int_int.l0 k x0 (mn x3 (rd x0 x4)) (wrap64 (x4 + 1))) else (none)) else (some x3)
end Go.Proofs.YtijfddobandcdaaDoor.X
end
section
namespace Go.Proofs.YtijfddobandcdaaDoor.X
open Go.RowKit Go.Proofs.YtijfddobandcdaaDoorW.PrintWords Go.Proofs.YtijfddobandcdaaDoorW.PrintLast Go.Proofs.YtijfddobandcdaaDoorW.PrintMore
attribute [local go_sem] max2_int min2_int max_two min_two max_three min_three max_four min_four
set_option linter.unusedVariables false
set_option linter.unusedSimpArgs false
/-! ### sweep_town_isPath: function 62 -/
mutual
def sweep_town_isPath.j0 : Nat → List Int → List Int → Bool → Option (Bool)
 | 0, _, _, _ => none
 | k + 1, x0, x1, x29 => if x29 = true then (some false) else (sweep_town_isPath.l0 k x1 x0 (x0.length : Int) 0)
def sweep_town_isPath.l0 : Nat → List Int → List Int → Int → Int → Option (Bool)
 | 0, _, _, _, _ => none
 | k + 1, x1, x30, x31, x32 => if x32 < x31 then (if 0 ≤ x32 then (if x32 < (x30.length : Int) then (sweep_town_isPath.l1 k x1 x32 (rd x30 x32) 0 x30 x31 x32 x1 (x1.length : Int) 0) else (none)) else (none)) else (some true)
def sweep_town_isPath.l1 : Nat → List Int → Int → Int → Int → List Int → Int → Int → List Int → Int → Int → Option (Bool)
 | 0, _, _, _, _, _, _, _, _, _, _ => none
 | k + 1, x1, x5, x6, x7, x30, x31, x32, x37, x38, x39 => if x39 < x38 then (if 0 ≤ x39 then (if x39 < (x37.length : Int) then (if 0 ≤ x5 then (if (Go.bits .and .i64 (shr .i64 (rd x37 x39) x5) 1) = 1 then (if x39 = 0 then (sweep_town_isPath.j3 k x1 x5 x6 x7 (rd x37 x39) x30 x31 x32 x37 x38 x39 true) else (if 0 ≤ (wrap64 (x39 - 1)) then (if (wrap64 (x39 - 1)) < (x1.length : Int) then (sweep_town_isPath.j3 k x1 x5 x6 x7 (rd x37 x39) x30 x31 x32 x37 x38 x39 ((Go.bits .and .i64 (shr .i64 (rd x1 (wrap64 (x39 - 1))) x5) 1) == 0)) else (none)) else (none))) else (sweep_town_isPath.j3 k x1 x5 x6 x7 (rd x37 x39) x30 x31 x32 x37 x38 x39 false)) else (none)) else (none)) else (none)) else (if x7 = 1 then (if x6 = 0 then (sweep_town_isPath.l0 k x1 x30 x31 (wrap64 (x32 + 1))) else (some false)) else (some false))
def sweep_town_isPath.j3 : Nat → List Int → Int → Int → Int → Int → List Int → Int → Int → List Int → Int → Int → Bool → Option (Bool)
 | 0, _, _, _, _, _, _, _, _, _, _, _, _ => none
 | k + 1, x1, x5, x6, x7, x9, x30, x31, x32, x37, x38, x39, x63 => if x63 = true then (if 0 ≤ x5 then (if (Go.bits .and .i64 (shr .i64 x9 x5) 1) = 1 then (sweep_town_isPath.l1 k x1 x5 (Go.bits .andNot .i64 x6 x9) (wrap64 (x7 + 1)) x30 x31 x32 x37 x38 (wrap64 (x39 + 1))) else (sweep_town_isPath.l1 k x1 x5 x6 (wrap64 (x7 + 1)) x30 x31 x32 x37 x38 (wrap64 (x39 + 1)))) else (none)) else (if 0 ≤ x5 then (if (Go.bits .and .i64 (shr .i64 x9 x5) 1) = 1 then (sweep_town_isPath.l1 k x1 x5 (Go.bits .andNot .i64 x6 x9) x7 x30 x31 x32 x37 x38 (wrap64 (x39 + 1))) else (sweep_town_isPath.l1 k x1 x5 x6 x7 x30 x31 x32 x37 x38 (wrap64 (x39 + 1)))) else (none))
end
end Go.Proofs.YtijfddobandcdaaDoor.X
end
section
namespace Go.Proofs.YtijfddobandcdaaDoor.X
open Go.RowKit Go.Proofs.YtijfddobandcdaaDoorW.PrintWords Go.Proofs.YtijfddobandcdaaDoorW.PrintLast Go.Proofs.YtijfddobandcdaaDoorW.PrintMore
attribute [local go_sem] max2_int min2_int max_two min_two max_three min_three max_four min_four
set_option linter.unusedVariables false
set_option linter.unusedSimpArgs false
/-! ### sweep_Check: function 36 -/
def sweep_Check.l0 : Nat → Int → List Int → Int → Int → Option (Int × Bool × Int)
 | 0, _, _, _, _ => none
 | k + 1, x9, x23, x24, x25 => if x25 < x24 then (if 0 ≤ x25 then (if x25 < (x23.length : Int) then ((sweep_count.f (rd x23 x25)).bind fun t365 => (sweep_Check.l0 k (mx x9 t365) x23 x24 (wrap64 (x25 + 1)))) else (none)) else (none)) else (some (wrap64 (x9 - 1), true, 0))
end Go.Proofs.YtijfddobandcdaaDoor.X
end
section
namespace Go.Proofs.YtijfddobandcdaaDoor.X
open Go.RowKit Go.Proofs.YtijfddobandcdaaDoorW.PrintWords Go.Proofs.YtijfddobandcdaaDoorW.PrintLast Go.Proofs.YtijfddobandcdaaDoorW.PrintMore
attribute [local go_sem] max2_int min2_int max_two min_two max_three min_three max_four min_four
set_option linter.unusedVariables false
set_option linter.unusedSimpArgs false
/-! ### sweep_town_breadth: function 56 -/
def sweep_town_breadth.l0 : Nat → List Int → Int → Int → List Int → Int → Int → Option (Int)
 | 0, _, _, _, _, _, _ => none
 | k + 1, x0, x5, x6, x9, x10, x11 => if x11 < x10 then (if 0 ≤ x11 then (if x11 < (x9.length : Int) then (if 0 ≤ (rd x9 x11) then ((sweep_town_border.f x0 (Go.bits .or .i64 x5 (shl .i64 1 (rd x9 x11)))).bind fun t237 => ((sweep_count.f t237).bind fun t238 => (sweep_town_breadth.l0 k x0 (Go.bits .or .i64 x5 (shl .i64 1 (rd x9 x11))) (mx x6 t238) x9 x10 (wrap64 (x11 + 1))))) else (none)) else (none)) else (none)) else (some x6)
end Go.Proofs.YtijfddobandcdaaDoor.X
end
section
/- The bags of a layout are a path decomposition, whose width is the breadth; Breadth. -/
set_option linter.unusedVariables false
namespace Go.Proofs.YtijfddobandcdaaDoor.X
open Go.RowKit Go.Proofs.YtijfddobandcdaaDoorW.PrintWords Go.Proofs.YtijfddobandcdaaDoorW.PrintLast Go.Proofs.YtijfddobandcdaaDoorW.PrintMore Go.Proofs.YtijfddobandcdaaDoor.T
noncomputable def brOf (G : List Nat) : Nat → List Nat → Nat
 | _, [] => 0
 | S, v :: P => max (bc G (S ||| 2 ^ v)) (brOf G (S ||| 2 ^ v) P)
theorem bc_le (G : List Nat) (S : Nat) : bc G S ≤ 9 := pc_le _ _
theorem brOf_le (G : List Nat) : ∀ (P : List Nat) (S : Nat), brOf G S P ≤ 9
 | [], _ => by simp [brOf]
 | v :: P, S => by simp only [brOf]; have := bc_le G (S ||| 2 ^ v); have := brOf_le G P (S ||| 2 ^ v); omega
/-! A layout's bags, as they go on behind S: S and the nodes of P are all nodes. -/
structure Goes (n S : Nat) (P : List Nat) : Prop where
 nodup : P.Nodup
 new : ∀ v ∈ P, v < n ∧ ¬ bset S v
 all : ∀ j, j < n → bset S j ∨ j ∈ P
theorem Goes.tail {n S v : Nat} {P : List Nat} (h : Goes n S (v :: P)) : Goes n (S ||| 2 ^ v) P where
 nodup := (List.nodup_cons.1 h.nodup).2
 new := fun u hu => ⟨(h.new u (List.mem_cons_of_mem _ hu)).1, fun hb => by
  rcases (or_bset _ _ _).1 hb with h1 | h1
  ·exact (h.new u (List.mem_cons_of_mem _ hu)).2 h1
  ·rw [(two_pow_bit v u).1 h1] at hu; exact (List.nodup_cons.1 h.nodup).1 hu⟩
 all := fun j hj => by
  rcases h.all j hj with h1 | h1
  ·exact .inl ((or_bset _ _ _).2 (.inl h1))
  ·rcases List.mem_cons.1 h1 with e | e
   ·exact .inl ((or_bset _ _ _).2 (.inr ((two_pow_bit v j).2 e)))
   ·exact .inr e
end Go.Proofs.YtijfddobandcdaaDoor.X
end
section
/- The reference's Layout: the first of all orders with the least breadth; it is the program's. -/
set_option linter.unusedVariables false
namespace Go.Proofs.YtijfddobandcdaaDoor.X
open Go.RowKit Go.Proofs.YtijfddobandcdaaDoorW.PrintWords Go.Proofs.YtijfddobandcdaaDoorW.PrintLast Go.Proofs.YtijfddobandcdaaDoorW.PrintMore Go.Proofs.YtijfddobandcdaaDoor.T
theorem size_all : ∀ x : Fin 512, lampblackref02_Size.f 12 (x.val : Int) = some (pc x.val 9 : Int) := by decide +kernel
theorem size_ev (x : Nat) (hx : x < 512) : Ev (fun k => lampblackref02_Size.f k (x : Int)) (pc x 9 : Int) := Ev.of (lampblackref02_Size.mono _) (size_all ⟨x, hx⟩)
theorem refBreadth_l0 (G : List Nat) (hG : Gr 7 G) (P : List Nat) (hP : ∀ v ∈ P, v < G.length) (hl : P.length < 2 ^ 40) : ∀ (d i S m : Nat), i + d = P.length → S < 2 ^ G.length →
  Ev (fun k => lampblackref03_Breadth.l0 k (gi G) (m : Int) (S : Int) (gi P) (P.length : Int) (i : Int)) ((max m (brOf G S (P.drop i)) : Nat) : Int) := by
 have hn := hG.most
 intro d
 induction d with
 | zero =>
  intro i S m hi hS
  refine Ev.step (f := fun _ => some (m : Int)) (fun k => by rw [lampblackref03_Breadth.l0, if_neg (by omega)]) (Ev.some ?_)
  rw [List.drop_eq_nil_of_le (by omega)]
  simp [brOf]
 | succ d ih =>
  intro i S m hi hS
  have hi' : i < P.length := by omega
  have hm := hP _ (List.getElem_mem hi')
  have hwi := wrap_succ i (by omega)
  have hr : rd (gi P) (i : Int) = ((P[i] : Nat) : Int) := by rw [rd_gi, List.getD_eq_getElem?_getD, List.getElem?_eq_getElem hi']; rfl
  have hS62 := big (small G (by omega) hS)
  have h7 : P[i] < 62 := by omega
  have HS2 := Aside0.mk (or_new hS hm)
  have e62 : 2 ^ P[i] < 2 ^ 62 := Nat.pow_lt_pow_right (by omega) h7
  have hor : Go.bits .or .i64 (S : Int) (shl .i64 1 ((P[i] : Nat) : Int)) = ((S ||| 2 ^ P[i] : Nat) : Int) := by rw [s_one _ h7, b_or _ _ hS62 e62]
  clear hS e62
  refine Ev.step (f := fun k => (lampblackref03_Border.f k (gi G) ((S ||| 2 ^ P[i] : Nat) : Int)).bind fun t217 => (lampblackref02_Size.f k t217).bind fun t218 => lampblackref03_Breadth.l0 k (gi G) (mx (m : Int) t218) ((S ||| 2 ^ P[i] : Nat) : Int) (gi P) (P.length : Int) ((i + 1 : Nat) : Int)) (fun k => ?_) ?_
  ·rw [lampblackref03_Breadth.l0, if_pos (by omega), if_pos (by omega), if_pos (by rw [gi_length]; omega), hr, if_pos (by omega), hor, hwi]
  ·refine Ev.bind (refBorder_ev G hG _ HS2.out) (Ev.bind (size_ev _ (small G (by omega) (bor_lt G _))) ?_)
   rw [mx_nat, List.drop_eq_getElem_cons hi', brOf]
   have := ih (i + 1) (S ||| 2 ^ P[i]) (max m (bc G (S ||| 2 ^ P[i]))) (by omega) HS2.out
   rw [show max m (max (bc G (S ||| 2 ^ P[i])) (brOf G (S ||| 2 ^ P[i]) (P.drop (i + 1)))) = max (max m (bc G (S ||| 2 ^ P[i]))) (brOf G (S ||| 2 ^ P[i]) (P.drop (i + 1))) by omega]
   exact this
theorem refBreadth_ev (G : List Nat) (hG : Gr 7 G) (P : List Nat) (hP : ∀ v ∈ P, v < G.length) (hl : P.length < 2 ^ 40) : Ev (fun k => lampblackref03_Breadth.f k (gi G) (gi P)) ((brOf G 0 P : Nat) : Int) := by
 unfold lampblackref03_Breadth.f
 rw [gi_length]
 have := refBreadth_l0 G hG P hP hl P.length 0 0 0 (by omega) (Nat.two_pow_pos _)
 rwa [List.drop_zero, Nat.zero_max] at this
def layN (n : Nat) : Nat → List Nat → List (List Nat)
 | 0, P => [P]
 | d + 1, P => (List.range n).flatMap fun v => if v ∈ P then [] else layN n d (P ++ [v])
theorem layF_gi (n : Nat) : ∀ (d : Nat) (P : List Nat), layF n d (gi P) = (layN n d P).map gi
 | 0, P => by simp [layF, layN]
 | d + 1, P => by
  simp only [layF, layN, List.map_flatMap]
  congr 1
  funext v
  by_cases h : v ∈ P
  ·rw [if_pos h, if_pos (gi_mem.2 h)]; rfl
  ·rw [if_neg h, if_neg (fun h' => h (gi_mem.1 h')), gi_snoc, layF_gi n d]
def sset : Nat → List Nat → Nat
 | S, [] => S
 | S, v :: P => sset (S ||| 2 ^ v) P
theorem sset_bit : ∀ (P : List Nat) (S j : Nat), bset (sset S P) j ↔ bset S j ∨ j ∈ P
 | [], S, j => by simp [sset]
 | v :: P, S, j => by rw [sset, sset_bit P, or_bset, two_pow_bit, List.mem_cons, or_assoc]
theorem sset_snoc : ∀ (P : List Nat) (S v : Nat), sset S (P ++ [v]) = sset S P ||| 2 ^ v
 | [], S, v => rfl
 | u :: P, S, v => by simp only [List.cons_append, sset]; exact sset_snoc P _ v
theorem brOf_append (G : List Nat) : ∀ (A : List Nat) (S : Nat) (B : List Nat), brOf G S (A ++ B) = max (brOf G S A) (brOf G (sset S A) B)
 | [], S, B => by simp [brOf, sset]
 | v :: A, S, B => by simp only [List.cons_append, brOf, sset]; rw [brOf_append G A]; omega
theorem lay_of_br {G : List Nat} {q : Nat} : ∀ (P : List Nat) (S : Nat), S < 2 ^ G.length → Goes G.length S P → brOf G S P ≤ q → Lay G q S
 | [], S, hS, h, _ => by
  have e : S = 2 ^ G.length - 1 := eq_of_bits fun j => by
   show bset _ _ ↔ bset _ _
   rw [full_bit]
   exact ⟨fun hj => bit_lt hS hj, fun hj => (h.all j hj).resolve_right (by simp)⟩
  rw [e]; exact .done
 | v :: P, S, hS, h, hq => by
  have hv := h.new v List.mem_cons_self
  simp only [brOf] at hq
  exact .step hv.1 hv.2 (show bc G (S ||| 2 ^ v) ≤ q by omega) (lay_of_br P _ (or_new hS hv.1) h.tail (by omega))
theorem layN_ext (n : Nat) : ∀ (d : Nat) (P X : List Nat), P.length + d = n → P.Nodup → (∀ v ∈ P, v < n) → X ∈ layN n d P → ∃ Q, X = P ++ Q ∧ Goes n (sset 0 P) Q
 | 0, P, X, hl, h1, h2, hX => by
  obtain rfl : X = P := by simpa [layN] using hX
  refine ⟨[], by simp, List.nodup_nil, by simp, fun j hj => .inl ((sset_bit X 0 j).2 (.inr (covers_of_nodup (by omega) h1 h2 j hj)))⟩
 | d + 1, P, X, hl, h1, h2, hX => by
  simp only [layN] at hX
  obtain ⟨v, hv, hX⟩ := List.mem_flatMap.1 hX
  have hvn := List.mem_range.1 hv
  by_cases hvP : v ∈ P
  ·rw [if_pos hvP] at hX; simp at hX
  ·rw [if_neg hvP] at hX
   obtain ⟨Q, e, hg⟩ := layN_ext n d (P ++ [v]) X (by simp; omega) (List.nodup_append.2 ⟨h1, by simp, by simp; intro a ha; exact fun e => hvP (e ▸ ha)⟩) (by
    intro x hx
    rcases List.mem_append.1 hx with h | h
    ·exact h2 x h
    ·rw [List.mem_singleton.1 h]; exact hvn) hX
   rw [sset_snoc] at hg
   have hvS : ¬ bset (sset 0 P) v := fun h => by
    rcases (sset_bit P 0 v).1 h with h | h
    ·unfold bset at h; simp at h
    ·exact hvP h
   refine ⟨v :: Q, by rw [e]; simp, List.nodup_cons.2 ⟨fun h => (hg.new v h).2 ((or_bset _ _ _).2 (.inr ((two_pow_bit v v).2 rfl))), hg.nodup⟩, fun u hu => ?_, fun j hj => ?_⟩
   ·rcases List.mem_cons.1 hu with h | h
    ·rw [h]; exact ⟨hvn, hvS⟩
    ·exact ⟨(hg.new u h).1, fun hb => (hg.new u h).2 ((or_bset _ _ _).2 (.inl hb))⟩
   ·rcases hg.all j hj with h | h
    ·rcases (or_bset _ _ _).1 h with h | h
     ·exact .inl h
     ·exact .inr (by rw [(two_pow_bit v j).1 h]; exact List.mem_cons_self)
    ·exact .inr (List.mem_cons_of_mem _ h)
theorem range_split {n v : Nat} (h : v < n) : ∃ R, List.range n = List.range v ++ v :: R := by
 refine ⟨(List.range n).drop (v + 1), ?_⟩
 have h1 : (List.range n).take v = List.range v := by rw [List.take_range, Nat.min_eq_left (by omega)]
 have h2 : (List.range n).drop v = v :: (List.range n).drop (v + 1) := by
  rw [List.drop_eq_getElem_cons (by simpa using h)]
  simp
 rw [← h2, ← h1, List.take_append_drop]
theorem greedy_goes {G : List Nat} {m : Nat} {S : Nat} {L : List Nat} (h : Greedy G m S L) : brOf G S L ≤ m := by
 induction h with
 | nil => simp [brOf]
 | cons _ _ h3 _ _ ih => simp only [brOf]; have := h3.2; omega
theorem first_best {G : List Nat} (hG : Gr 7 G) {m : Nat} : ∀ (d : Nat) (P L : List Nat), P.length + d = G.length → P.Nodup → (∀ v ∈ P, v < G.length) → sset 0 P < 2 ^ G.length → Greedy G m (sset 0 P) L →
  ∃ A C, layN G.length d P = A ++ (P ++ L) :: C ∧ ∀ X ∈ A, m < brOf G 0 X := by
 intro d
 induction d with
 | zero =>
  intro P L hl h1 h2 hS hg
  have hfull : ∀ j, j < G.length → bset (sset 0 P) j := fun j hj => (sset_bit P 0 j).2 (.inr (covers_of_nodup (by omega) h1 h2 j hj))
  generalize hSe : sset 0 P = S at hg
  cases hg with
  | nil => exact ⟨[], [], by simp [layN], by simp⟩
  | cons h3 h4 => exact (h4 (hSe ▸ hfull _ h3)).elim
 | succ d ih =>
  intro P L hl h1 h2 hS hg
  generalize hSe : sset 0 P = S at hg
  cases hg with
  | nil =>
   obtain ⟨v, hv, hn⟩ := fresh_node G.length (gi P) (by rw [gi_length]; omega)
   have : bset (sset 0 P) v := by rw [hSe]; exact (full_bit _ _).2 hv
   rcases (sset_bit P 0 v).1 this with h | h
   ·unfold bset at h; simp at h
   ·exact (hn (gi_mem.2 h)).elim
  | @cons _ v L h3 h4 h5 h6 h7 =>
   subst hSe
   have hvP : v ∉ P := fun h => h4 ((sset_bit P 0 v).2 (.inr h))
   have hnd : ∀ u, u ∉ P → (P ++ [u]).Nodup := fun u hu => List.nodup_append.2 ⟨h1, by simp, by simp; intro a ha; exact fun e => hu (e ▸ ha)⟩
   have hlt : ∀ u, u < G.length → ∀ x ∈ P ++ [u], x < G.length := fun u hu x hx => by
    rcases List.mem_append.1 hx with h | h
    ·exact h2 x h
    ·rw [List.mem_singleton.1 h]; exact hu
   obtain ⟨A, C, e, hA⟩ := ih (P ++ [v]) L (by simp; omega) (hnd v hvP) (hlt v h3) (by rw [sset_snoc]; exact or_new hS h3) (by rw [sset_snoc]; exact h7)
   obtain ⟨R, hR⟩ := range_split h3
   refine ⟨(List.range v).flatMap (fun u => if u ∈ P then [] else layN G.length d (P ++ [u])) ++ A, C ++ R.flatMap (fun u => if u ∈ P then [] else layN G.length d (P ++ [u])), ?_, fun X hX => ?_⟩
   ·simp only [layN]
    rw [hR, List.flatMap_append, List.flatMap_cons, if_neg hvP, e]
    simp
   ·rcases List.mem_append.1 hX with h | h
    ·obtain ⟨u, hu, hX⟩ := List.mem_flatMap.1 h
     have huv := List.mem_range.1 hu
     by_cases huP : u ∈ P
     ·rw [if_pos huP] at hX; simp at hX
     ·rw [if_neg huP] at hX
      have hun : u < G.length := by omega
      obtain ⟨Q, eX, hg⟩ := layN_ext G.length d (P ++ [u]) X (by simp; omega) (hnd u huP) (hlt u hun) hX
      apply Classical.byContradiction
      intro hno
      have huS : ¬ bset (sset 0 P) u := fun h => by
       rcases (sset_bit P 0 u).1 h with h | h
       ·unfold bset at h; simp at h
       ·exact huP h
      refine h6 u huv huS ?_
      rw [eX, List.append_assoc, brOf_append] at hno
      simp only [List.singleton_append, brOf] at hno
      rw [sset_snoc] at hg
      exact ⟨lay_of_br Q _ (or_new hS hun) hg (by omega), by omega⟩
    ·exact hA X h
noncomputable def bestN (G : List Nat) : List (List Nat) → List Int → Int → List Int × Int
 | [], best, least => (best, least)
 | P :: Ps, best, least => if ((brOf G 0 P : Nat) : Int) < least then bestN G Ps (gi P) ((brOf G 0 P : Nat) : Int) else bestN G Ps best least
theorem bestOf_ev (G : List Nat) (hG : Gr 7 G) : ∀ (Ps : List (List Nat)) (best : List Int) (least : Int), (∀ P ∈ Ps, P.length < 2 ^ 40 ∧ ∀ v ∈ P, v < G.length) → Ev (fun k => bestOf k (gi G) (Ps.map gi) best least) (bestN G Ps best least)
 | [], best, least, _ => Ev.some rfl
 | P :: Ps, best, least, h => by
  have hP := h P List.mem_cons_self
  have hr : ∀ Q ∈ Ps, Q.length < 2 ^ 40 ∧ ∀ v ∈ Q, v < G.length := fun Q hQ => h Q (List.mem_cons_of_mem _ hQ)
  simp only [List.map_cons, bestOf, bestN]
  refine Ev.bind (refBreadth_ev G hG P hP.2 hP.1) ?_
  by_cases hlt : ((brOf G 0 P : Nat) : Int) < least
  ·rw [if_pos hlt]; exact Ev.if_pos hlt (bestOf_ev G hG Ps _ _ hr)
  ·rw [if_neg hlt]; exact Ev.if_neg hlt (bestOf_ev G hG Ps _ _ hr)
theorem bestN_keep (G : List Nat) (m : Nat) : ∀ (Ps : List (List Nat)) (best : List Int), (∀ P ∈ Ps, m ≤ brOf G 0 P) → bestN G Ps best (m : Int) = (best, (m : Int))
 | [], _, _ => rfl
 | P :: Ps, best, h => by
  have := h P List.mem_cons_self
  simp only [bestN]
  rw [if_neg (by omega)]
  exact bestN_keep G m Ps best fun Q hQ => h Q (List.mem_cons_of_mem _ hQ)
theorem bestN_first (G : List Nat) (m : Nat) (L : List Nat) (hL : brOf G 0 L = m) (C : List (List Nat)) (hC : ∀ P ∈ C, m ≤ brOf G 0 P) : ∀ (A : List (List Nat)) (best : List Int) (least : Int), (m : Int) < least → (∀ X ∈ A, m < brOf G 0 X) → bestN G (A ++ L :: C) best least = (gi L, (m : Int))
 | [], best, least, h, _ => by
  simp only [List.nil_append, bestN]
  rw [if_pos (by omega), hL]
  exact bestN_keep G m C _ hC
 | P :: A, best, least, h, hA => by
  have := hA P List.mem_cons_self
  have hr : ∀ X ∈ A, m < brOf G 0 X := fun X hX => hA X (List.mem_cons_of_mem _ hX)
  simp only [List.cons_append, bestN]
  split
  ·exact bestN_first G m L hL C hC A _ _ (by omega) hr
  ·exact bestN_first G m L hL C hC A _ _ h hr
theorem refLayout_ev (G : List Nat) (hG : Gr 7 G) {L : List Nat} {m : Nat} (hm : IsVs G m) (hL : Greedy G m 0 L) : Ev (fun k => lampblackref03_Layout.f k (gi G)) (gi L, (m : Int)) := by
 have hn := hG.most
 have h0 := Nat.two_pow_pos G.length
 obtain ⟨A, C, e, hA⟩ := first_best hG G.length [] L (by simp) List.nodup_nil (by simp) h0 hL
 simp only [List.nil_append] at e
 have hall : ∀ X ∈ layN G.length G.length [], Goes G.length 0 X := fun X hX => by
  obtain ⟨Q, e, hg⟩ := layN_ext G.length G.length [] X (by simp) List.nodup_nil (by simp) hX
  rw [List.nil_append] at e
  rw [e]; exact hg
 have hge : ∀ X ∈ layN G.length G.length [], m ≤ brOf G 0 X := fun X hX => (hm _).2 (lay_of_br X 0 h0 (hall X hX) (Nat.le_refl _))
 have hbr : brOf G 0 L = m := Nat.le_antisymm (greedy_goes hL) (hge L (by rw [e]; exact List.mem_append_right _ List.mem_cons_self))
 have hm7 : m ≤ 9 := by rw [← hbr]; exact brOf_le G L 0
 unfold lampblackref03_Layout.f
 refine Ev.if_pos (by rw [gi_length]; omega) ?_
 rw [gi_length, show ([] : List Int) = gi [] from rfl, layF_gi]
 have := bestOf_ev G hG (layN G.length G.length []) (gi []) 99 (fun P hP => by
  have hg := hall P hP
  refine ⟨?_, fun v hv => (hg.new v hv).1⟩
  have := nodup_le hg.nodup (m := List.range G.length) fun x hx => List.mem_range.2 (hg.new x hx).1
  simp at this
  omega)
 rw [e, bestN_first G m L hbr C (fun P hP => hge P (by rw [e]; exact List.mem_append_right _ (List.mem_cons_of_mem _ hP))) A _ 99 (by omega) hA] at this
 rw [e]
 exact this
end Go.Proofs.YtijfddobandcdaaDoor.X
end
section
/- The reference's IsBlockage: it tells what CheckBlockage tells. -/
set_option linter.unusedVariables false
namespace Go.Proofs.YtijfddobandcdaaDoor.X
open Go.RowKit Go.Proofs.YtijfddobandcdaaDoorW.PrintWords Go.Proofs.YtijfddobandcdaaDoorW.PrintLast Go.Proofs.YtijfddobandcdaaDoorW.PrintMore Go.Proofs.YtijfddobandcdaaDoor.T
def ptB (G : List Nat) (k : Nat) (H : List Bool) (x y : Nat) : Bool := !(H.getD x false && decide (pc (bo G y) 9 ≤ k) && (diff y x == 0) && !H.getD y false) && !(sidesB G k x y && (H.getD x false == H.getD y false))
theorem cb2_pt (G : List Nat) (k : Nat) (H : List Bool) (x : Nat) (N : Nat) : ∀ d y, (cb2a G k H x d y && cb2b H x (othTo G k x d y)) = allFrom (ptB G k H x) N d y
 | 0, _ => rfl
 | d + 1, y => by
  have ih := cb2_pt G k H x N d (y + 1)
  rw [allFrom, ← ih]
  simp only [cb2a, othTo, ptB]
  cases hs : sidesB G k x y
  ·simp only [Bool.false_eq_true, if_false, Bool.false_and, Bool.not_false, Bool.and_true, Bool.and_assoc]
  ·simp only [if_true, cb2b, Int.toNat_natCast, Bool.true_and]
   generalize cb2a G k H x d (y + 1) = A
   generalize cb2b H x (othTo G k x d (y + 1)) = B
   generalize (!(H.getD x false && decide (pc (bo G y) 9 ≤ k) && (diff y x == 0) && !H.getD y false)) = P
   generalize (!(H.getD x false == H.getD y false)) = Q
   cases A <;> cases B <;> cases P <;> cases Q <;> rfl
theorem rdOfB (H : List Bool) (x : Nat) : rdOf false H (x : Int) = H.getD x false := by unfold rdOf; rw [Int.toNat_natCast]
theorem bor_ev (G : List Nat) (hG : Gr 7 G) (S : Nat) (hS : S < 2 ^ G.length) : Ev (fun n => lampblackref03_Border.f n (gi G) (S : Int)) ((bo G S : Nat) : Int) := by
 rw [bo_eq hG hS]
 exact refBorder_ev G hG S hS
theorem blk_l2 (G : List Nat) (hG : Gr 7 G) (k : Nat) (hk : k ≤ 7) (H : List Bool) (N : Nat) (hN : 2 ^ G.length = N) (hH : H.length = N) (x : Nat) (hx : x < N) (R : Bool)
  (hR : Ev (fun n => lampblackref03_IsBlockage.l1 n (gi G) (k : Int) ((N - 1 : Nat) : Int) H (N : Int) ((x + 1 : Nat) : Int)) R) : ∀ d y, y + d = N →
  Ev (fun n => lampblackref03_IsBlockage.l2 n (gi G) (k : Int) ((N - 1 : Nat) : Int) H (x : Int) (N : Int) (x : Int) (N : Int) (y : Int)) (allFrom (ptB G k H x) N d y && R) := by
 have hn := hG.most
 have h7 : N ≤ 128 := by rw [← hN]; exact p7 hn
 have hx2 : x < 2 ^ G.length := by rw [hN]; exact hx
 have HX2 := Aside0.mk hx2
 have HNE := Aside0.mk hN
 have HBX := Aside0.mk (Nat.lt_of_lt_of_le (bo_lt hG hx2) (p7 hn))
 clear hx2 hN
 intro d
 induction d with
 | zero =>
  intro y hy
  refine Ev.step (fun n => by rw [lampblackref03_IsBlockage.l2, if_neg (by omega), wrap_succ x (by omega)]) ?_
  simpa [allFrom] using hR
 | succ d ih =>
  intro y hy
  have hyN : y < N := by omega
  have hy2 : y < 2 ^ G.length := by rw [HNE.out]; exact hyN
  have HBY := Aside0.mk (Nat.lt_of_lt_of_le (bo_lt hG hy2) (p7 hn))
  have HBE := Aside0.mk (bor_ev G hG y hy2)
  have HBEX := Aside0.mk (bor_ev G hG x HX2.out)
  clear hy2
  have IH := ih (y + 1) (by omega)
  have next : Ev (fun n => lampblackref03_IsBlockage.l2 n (gi G) (k : Int) ((N - 1 : Nat) : Int) H (x : Int) (N : Int) (x : Int) (N : Int) (wrap64 ((y : Int) + 1))) (allFrom (ptB G k H x) N d (y + 1) && R) := by
   rw [wrap_succ y (by omega)]; exact IH
  have hor := b_or x y (by omega) (by omega)
  have han := b_and x y (by omega) (by omega)
  have hdi := b_andNot (bo G x) y (by have := HBX.out; omega) (by omega)
  have hdi2 := b_andNot y x (by omega) (by omega)
  have hanl : x &&& y < 512 := Nat.lt_of_le_of_lt Nat.and_le_left (by omega)
  have hsz := size_ev (x &&& y) hanl
  have rx := rdOfB H x
  have ry := rdOfB H y
  have two : Ev (fun n => lampblackref03_IsBlockage.j3 n (gi G) (k : Int) ((N - 1 : Nat) : Int) H (x : Int) (y : Int) (N : Int) (x : Int) (N : Int) (y : Int) false) (!(sidesB G k x y && (H.getD x false == H.getD y false)) && (allFrom (ptB G k H x) N d (y + 1) && R)) := by
   refine Ev.step (fun n => by rw [lampblackref03_IsBlockage.j3, if_neg (by simp)]) ?_
   have hsd : sidesB G k x y = ((x ||| y == N - 1) && (diff (bo G x) y == 0) && decide (pc (x &&& y) 9 ≤ k)) := by unfold sidesB; rw [HNE.out]
   rw [hsd]
   by_cases c1 : x ||| y = N - 1
   ·refine Ev.if_pos (by rw [hor, c1]) (Ev.bind HBEX.out ?_)
    by_cases c2 : diff (bo G x) y = 0
    ·refine Ev.if_pos (by rw [hdi, c2]; rfl) ?_
     rw [han]
     refine Ev.bind hsz ?_
     by_cases c3 : pc (x &&& y) 9 ≤ k
     ·refine Ev.if_pos (by omega) (Ev.if_pos (by omega) (Ev.if_pos (by rw [hH]; omega) (Ev.if_pos (by omega) (Ev.if_pos (by rw [hH]; omega) ?_))))
      rw [rx, ry, c1, c2, decide_eq_true c3]
      cases hq : (H.getD x false == H.getD y false)
      ·refine Ev.if_neg (by simp) ?_
       simpa using next
      ·exact Ev.if_pos rfl (Ev.some (by simp))
     ·refine Ev.if_neg (by omega) ?_
      rw [decide_eq_false c3]
      simpa using next
    ·refine Ev.if_neg (by rw [hdi]; omega) ?_
     have : (diff (bo G x) y == 0) = false := by simpa using c2
     rw [this]
     simpa using next
   ·refine Ev.if_neg (by rw [hor]; omega) ?_
    have : (x ||| y == N - 1) = false := by simpa using c1
    rw [this]
    simpa using next
  have stop : Ev (fun n => lampblackref03_IsBlockage.j3 n (gi G) (k : Int) ((N - 1 : Nat) : Int) H (x : Int) (y : Int) (N : Int) (x : Int) (N : Int) (y : Int) true) false :=
   Ev.step (f := fun _ => some false) (fun n => by rw [lampblackref03_IsBlockage.j3, if_pos rfl]) (Ev.some rfl)
  refine Ev.step (fun n => by rw [lampblackref03_IsBlockage.l2, if_pos (by omega), if_pos (by omega), if_pos (by rw [hH]; omega)]) ?_
  simp only [allFrom, ptB]
  rw [rx]
  cases hq1 : H.getD x false
  ·refine Ev.if_neg (by simp) ?_
   rw [hq1] at two
   simpa [Bool.and_assoc] using two
  ·refine Ev.if_pos rfl ?_
   rw [hq1] at two
   rw [hdi2]
   by_cases c2 : diff y x = 0
   ·refine Ev.if_pos (by rw [c2]; rfl) (Ev.bind HBE.out (Ev.bind (size_ev (bo G y) (by have := HBY.out; omega)) ?_))
    by_cases c3 : pc (bo G y) 9 ≤ k
    ·refine Ev.if_pos (by omega) (Ev.if_pos (by omega) (Ev.if_pos (by rw [hH]; omega) ?_))
     rw [ry, c2, decide_eq_true c3]
     cases hq4 : H.getD y false
     ·simpa using stop
     ·rw [hq4] at two
      simpa [Bool.and_assoc] using two
    ·refine Ev.if_neg (by omega) ?_
     rw [decide_eq_false c3]
     simpa [Bool.and_assoc] using two
   ·refine Ev.if_neg (by omega) ?_
    have : (diff y x == 0) = false := by simpa using c2
    rw [this]
    simpa [Bool.and_assoc] using two
theorem blk_l1 (G : List Nat) (hG : Gr 7 G) (k : Nat) (hk : k ≤ 7) (H : List Bool) (N : Nat) (hN : 2 ^ G.length = N) (hH : H.length = N) : ∀ d x, x + d = N →
  Ev (fun n => lampblackref03_IsBlockage.l1 n (gi G) (k : Int) ((N - 1 : Nat) : Int) H (N : Int) (x : Int)) (cb2 G k H d x) := by
 have h7 : N ≤ 128 := by rw [← hN]; exact p7 hG.most
 have h1 : 1 ≤ N := by rw [← hN]; exact Nat.two_pow_pos _
 have HNE := Aside0.mk hN
 intro d
 induction d with
 | zero =>
  intro x hx
  exact Ev.step (f := fun _ => some true) (fun n => by rw [lampblackref03_IsBlockage.l1, if_neg (by omega)]) (Ev.some rfl)
 | succ d ih =>
  intro x hx
  have := blk_l2 G hG k hk H N hN hH x (by omega) _ (ih (x + 1) (by omega)) N 0 (by omega)
  clear hN
  refine Ev.step (fun n => by rw [lampblackref03_IsBlockage.l1, if_pos (by omega), show wrap64 (((N - 1 : Nat) : Int) + 1) = (N : Int) by rw [wrap_succ _ (by omega)]; omega]) ?_
  simp only [cb2]
  rw [HNE.out, cb2_pt G k H x N]
  exact this
theorem blk_l0 (G : List Nat) (hG : Gr 7 G) (k : Nat) (hk : k ≤ 7) (l : List Int) (hl : l.length < 2 ^ 44) (N : Nat) (hN : 2 ^ G.length = N) : ∀ (d i : Nat) (H : List Bool), i + d = l.length → H.length = N →
  Ev (fun n => lampblackref03_IsBlockage.l0 n (gi G) (k : Int) l ((N - 1 : Nat) : Int) H l (l.length : Int) (i : Int)) (cbE G k (cb1 G k l d i H)).1 := by
 have hn := hG.most
 have h7 : N ≤ 128 := by rw [← hN]; exact p7 hn
 have h1 : 1 ≤ N := by rw [← hN]; exact Nat.two_pow_pos _
 have HNE := Aside0.mk hN
 clear hN
 have no : ∀ {β : Type}, Ev (fun _ : Nat => some false) (cbE G k none).1 := fun {_} => Ev.some rfl
 intro d
 induction d with
 | zero =>
  intro i H hi hH
  refine Ev.step (fun n => by rw [lampblackref03_IsBlockage.l0, if_neg (by omega), show wrap64 (((N - 1 : Nat) : Int) + 1) = (N : Int) by rw [wrap_succ _ (by omega)]; omega]) ?_
  have := blk_l1 G hG k hk H N HNE.out hH N 0 (by omega)
  simpa [cb1, cbE, HNE.out] using this
 | succ d ih =>
  intro i H hi hH
  refine Ev.step (fun n => by rw [lampblackref03_IsBlockage.l0, if_pos (by omega), if_pos (by omega), if_pos (by omega)]) ?_
  simp only [cb1]
  rw [HNE.out]
  by_cases c0 : rd l (i : Int) < 0
  ·rw [if_pos c0]
   exact Ev.if_pos c0 (no (β := Nat))
  ·rw [if_neg c0]
   refine Ev.if_neg c0 ?_
   by_cases c1 : ((N - 1 : Nat) : Int) < rd l (i : Int)
   ·rw [if_pos c1]
    exact Ev.if_pos c1 (no (β := Nat))
   ·rw [if_neg c1]
    refine Ev.if_neg c1 ?_
    obtain ⟨x, hx⟩ := Int.eq_ofNat_of_zero_le (show 0 ≤ rd l (i : Int) by omega)
    rw [hx] at c1 ⊢
    have hxN : x < N := by omega
    have hx2 : x < 2 ^ G.length := by rw [HNE.out]; exact hxN
    have hbo := Nat.lt_of_lt_of_le (bo_lt hG hx2) (p7 hn)
    have HBE := Aside0.mk (bor_ev G hG x hx2)
    clear hx2
    rw [Int.toNat_natCast]
    have hset : (H.set x true).length = N := by rw [List.length_set]; exact hH
    have rest : (¬ (0 < i ∧ (x : Int) ≤ rd l ((i - 1 : Nat) : Int))) → Ev (fun n => (lampblackref03_Border.f n (gi G) (x : Int)).bind fun t326 => (lampblackref02_Size.f n t326).bind fun t327 => if t327 > (k : Int) then some false else if 0 ≤ (x : Int) then if (x : Int) < (H.length : Int) then lampblackref03_IsBlockage.l0 n (gi G) (k : Int) l ((N - 1 : Nat) : Int) (H.set x true) l (l.length : Int) (wrap64 ((i : Int) + 1)) else none else none)
      (cbE G k (if pc (bo G x) 9 ≤ k then (if 0 < i ∧ (x : Int) ≤ rd l ((i - 1 : Nat) : Int) then none else cb1 G k l d (i + 1) (H.set x true)) else none)).1 := fun hno => by
     refine Ev.bind HBE.out (Ev.bind (size_ev (bo G x) (by omega)) ?_)
     by_cases c3 : pc (bo G x) 9 ≤ k
     ·rw [if_pos c3, if_neg hno]
      refine Ev.if_neg (by omega) (Ev.if_pos (by omega) (Ev.if_pos (by rw [hH]; omega) ?_))
      rw [wrap_succ i (by omega)]
      exact ih (i + 1) _ (by omega) hset
     ·rw [if_neg c3]
      exact Ev.if_pos (by omega) (no (β := Nat))
    by_cases ci : 0 < i
    ·refine Ev.if_pos (by omega) ?_
     have hw : wrap64 ((i : Int) - 1) = ((i - 1 : Nat) : Int) := wrap_pred i (by omega) ci
     rw [hw]
     refine Ev.if_pos (by omega) (Ev.if_pos (by omega) ?_)
     by_cases c2 : (x : Int) ≤ rd l ((i - 1 : Nat) : Int)
     ·refine Ev.if_pos c2 ?_
      split
      ·rw [if_pos ⟨ci, c2⟩]; exact no (β := Nat)
      ·exact no (β := Nat)
     ·exact Ev.if_neg c2 (rest fun h => c2 h.2)
    ·exact Ev.if_neg (by omega) (rest fun h => ci h.1)
theorem isBlk_ev (G : List Nat) (hG : Gr 7 G) (k : Nat) (hk : k ≤ 7) (l : List Int) (hl : l.length < 2 ^ 44) : Ev (fun n => lampblackref03_IsBlockage.f n (gi G) (k : Int) l) (cbR G k l).1 := by
 have hn := hG.most
 obtain ⟨N, hN⟩ : ∃ N, 2 ^ G.length = N := ⟨_, rfl⟩
 have h7 : N ≤ 128 := by rw [← hN]; exact p7 hn
 have h1 : 1 ≤ N := by rw [← hN]; exact Nat.two_pow_pos _
 have hs : shl .i64 1 ((gi G).length : Int) = (N : Int) := by rw [gi_length, s_one _ (by omega), hN]
 have hw1 : wrap64 ((N : Int) - 1) = ((N - 1 : Nat) : Int) := wrap_pred N (by omega) (by omega)
 have hw2 : wrap64 (((N - 1 : Nat) : Int) + 1) = (N : Int) := by rw [wrap_succ _ (by omega)]; omega
 unfold lampblackref03_IsBlockage.f
 rw [hs, hw1, hw2]
 have := blk_l0 G hG k hk l hl N hN l.length 0 (List.replicate N false) (by omega) (by simp)
 unfold cbR
 rw [hN]
 clear hN
 refine Ev.if_pos (by omega) (Ev.if_pos (by rw [Int.toNat_natCast]; omega) ?_)
 rw [Int.toNat_natCast]
 exact this
end Go.Proofs.YtijfddobandcdaaDoor.X
end
section
/- Blockages: if no layout has borders of less than k nodes, there is a blockage of order k; and the other way round. -/
set_option linter.unusedVariables false
namespace Go.Proofs.YtijfddobandcdaaDoor.T
open Go.RowKit Go.Proofs.YtijfddobandcdaaDoorW.PrintWords Go.Proofs.YtijfddobandcdaaDoorW.PrintLast Go.Proofs.YtijfddobandcdaaDoorW.PrintMore
def Sub (X Y : Nat) : Prop := ∀ j, bset X j → bset Y j
theorem Sub.refl (X : Nat) : Sub X X := fun _ h => h
theorem Sub.trans {X Y Z : Nat} (h : Sub X Y) (h2 : Sub Y Z) : Sub X Z := fun j hj => h2 j (h j hj)
theorem sub_eq {X Y : Nat} (h : Sub X Y) (h2 : Sub Y X) : X = Y := eq_of_bits fun j => ⟨h j, h2 j⟩
theorem zero_sub (X : Nat) : Sub 0 X := fun j h => by unfold bset at h; simp at h
theorem pc_sub {X Y : Nat} (h : Sub X Y) (n : Nat) : pc X n ≤ pc Y n := pc_mono n fun j _ hj => h j hj
noncomputable def cmp (G : List Nat) (X : Nat) : Nat := diff (2 ^ G.length - 1) X ||| bor G X
theorem cmp_bit (G : List Nat) (X j : Nat) : bset (cmp G X) j ↔ (j < G.length ∧ ¬ bset X j) ∨ bset (bor G X) j := by
 unfold cmp
 rw [or_bset, diff_bset, full_bit]
theorem bor_sub {m : Nat} {G : List Nat} (hG : Gr m G) (X : Nat) : Sub (bor G X) X := fun j h => ((bor_bit hG X j).1 h).1
theorem full_lt (n : Nat) : 2 ^ n - 1 < 2 ^ n := by have := Nat.two_pow_pos n; omega
theorem cmp_lt {m : Nat} {G : List Nat} (hG : Gr m G) (X : Nat) : cmp G X < 2 ^ G.length := or_lt (Nat.lt_of_le_of_lt (diff_le _ _) (full_lt _)) (bor_lt G X)
structure Sep (G : List Nat) (k A B : Nat) : Prop where
 la : A < 2 ^ G.length
 lb : B < 2 ^ G.length
 all : ∀ j, j < G.length → bset A j ∨ bset B j
 bor : Sub (bor G A) B
 card : pc (A &&& B) 9 ≤ k
theorem Sep.symm {m : Nat} {G : List Nat} (hG : Gr m G) {k A B : Nat} (h : Sep G k A B) : Sep G k B A := by
 refine ⟨h.lb, h.la, fun j hj => (h.all j hj).symm, fun j hj => ?_, by rw [Nat.and_comm]; exact h.card⟩
 obtain ⟨h1, u, h2, h3⟩ := (bor_bit hG B j).1 hj
 apply Classical.byContradiction
 intro hA
 have hu := (h.all u (hG.adj_lt h2)).resolve_right h3
 exact h3 (h.bor u ((bor_bit hG A u).2 ⟨hu, j, hG.adj_symm h2, hA⟩))
theorem Sep.bor2 {m : Nat} {G : List Nat} (hG : Gr m G) {k A B : Nat} (h : Sep G k A B) : Sub (T.bor G B) A := (h.symm hG).bor
def Sm (G : List Nat) (k X : Nat) : Prop := X < 2 ^ G.length ∧ pc (bor G X) 9 ≤ k
theorem Sep.sm {m : Nat} {G : List Nat} (hG : Gr m G) {k A B : Nat} (h : Sep G k A B) : Sm G k A :=
 ⟨h.la, Nat.le_trans (pc_sub (fun j hj => (and_bset _ _ _).2 ⟨bor_sub hG A j hj, h.bor j hj⟩) 9) h.card⟩
theorem and_cmp {m : Nat} {G : List Nat} (hG : Gr m G) (X : Nat) : X &&& cmp G X = bor G X := eq_of_bits fun j => by
 show bset _ _ ↔ bset _ _
 rw [and_bset, cmp_bit]
 exact ⟨fun ⟨h1, h2⟩ => h2.elim (fun h => (h.2 h1).elim) id, fun h => ⟨bor_sub hG X j h, .inr h⟩⟩
theorem Sm.sep {m : Nat} {G : List Nat} (hG : Gr m G) {k X : Nat} (h : Sm G k X) : Sep G k X (cmp G X) := by
 refine ⟨h.1, cmp_lt hG X, fun j hj => ?_, fun j hj => (cmp_bit G X j).2 (.inr hj), by rw [and_cmp hG]; exact h.2⟩
 by_cases hb : bset X j
 ·exact .inl hb
 ·exact .inr ((cmp_bit G X j).2 (.inl ⟨hj, hb⟩))
theorem submod (a b e d : Nat) : ∀ n, (∀ j, j < n → ((bset a j ∨ bset b j) ↔ (bset e j ∨ bset d j))) → pc (a &&& b) n + pc (e &&& d) n = pc ((a &&& e) &&& (b ||| d)) n + pc ((a ||| e) &&& (b &&& d)) n
 | 0, _ => rfl
 | n + 1, h => by
  have ih := submod a b e d n fun j hj => h j (by omega)
  have h1 := h n (by omega)
  simp only [pc, Nat.testBit_and, Nat.testBit_or]
  unfold bset at h1
  cases ha : a.testBit n <;> cases hb : b.testBit n <;> cases he : e.testBit n <;> cases hd : d.testBit n <;> simp_all <;> omega
theorem sides_same {G : List Nat} {A B E D : Nat} (hA : A < 2 ^ G.length) (hB : B < 2 ^ G.length) (hE : E < 2 ^ G.length) (hD : D < 2 ^ G.length) (h1 : ∀ j, j < G.length → bset A j ∨ bset B j) (h2 : ∀ j, j < G.length → bset E j ∨ bset D j) (j : Nat) :
  (bset A j ∨ bset B j) ↔ (bset E j ∨ bset D j) :=
 ⟨fun h => h2 j (h.elim (bit_lt hA) (bit_lt hB)), fun h => h1 j (h.elim (bit_lt hE) (bit_lt hD))⟩
inductive Mon (G : List Nat) (k : Nat) : Nat → Nat → Prop
 | refl {A : Nat} : Mon G k A A
 | step {A B E : Nat} : Mon G k A B → Sub B E → E < 2 ^ G.length → pc (cmp G B &&& E) 9 ≤ k → Mon G k A E
theorem Mon.sub {G : List Nat} {k A E : Nat} (h : Mon G k A E) : Sub A E := by
 induction h with
 | refl => exact Sub.refl _
 | step _ h1 _ _ ih => exact ih.trans h1
theorem Mon.trans {G : List Nat} {k A B C : Nat} (h : Mon G k A B) (h2 : Mon G k B C) : Mon G k A C := by
 induction h2 with
 | refl => exact h
 | step _ h1 h2 h3 ih => exact .step ih h1 h2 h3
theorem step_sep {m : Nat} {G : List Nat} (hG : Gr m G) {k B E : Nat} (h1 : Sub B E) (h2 : E < 2 ^ G.length) (h3 : pc (cmp G B &&& E) 9 ≤ k) : Sep G k E (cmp G B) := by
 refine ⟨h2, cmp_lt hG B, fun j hj => ?_, fun j hj => ?_, by rw [Nat.and_comm]; exact h3⟩
 ·by_cases hb : bset B j
  ·exact .inl (h1 j hb)
  ·exact .inr ((cmp_bit G B j).2 (.inl ⟨hj, hb⟩))
 ·obtain ⟨q1, u, q2, q3⟩ := (bor_bit hG E j).1 hj
  rw [cmp_bit]
  by_cases hb : bset B j
  ·exact .inr ((bor_bit hG B j).2 ⟨hb, u, q2, fun h => q3 (h1 u h)⟩)
  ·exact .inl ⟨hG.adj_lt' q2, hb⟩
theorem Mon.cut {m : Nat} {G : List Nat} (hG : Gr m G) {k M N C : Nat} (hM : M < 2 ^ G.length) (hN : N < 2 ^ G.length) (hMN : ∀ j, j < G.length → bset M j ∨ bset N j) (hb : Sub (bor G M) N)
  (hmin : ∀ X, X < 2 ^ G.length → Sub X C → pc (M &&& N) 9 ≤ pc (bor G (M ||| X)) 9) {A B : Nat} (h : Mon G k A B) (hB : Sub B C) : Mon G k (A &&& M) (B &&& M) := by
 induction h with
 | refl => exact .refl
 | @step B E _ h1 h2 h3 ih =>
  refine .step (ih (h1.trans hB)) (fun j hj => ?_) (Nat.lt_of_le_of_lt Nat.and_le_left h2) ?_
  ·obtain ⟨q1, q2⟩ := (and_bset _ _ _).1 hj
   exact (and_bset _ _ _).2 ⟨h1 j q1, q2⟩
  have hs := step_sep hG h1 h2 h3
  have hsm := submod M N E (cmp G B) 9 fun j _ => sides_same hM hN h2 (cmp_lt hG B) hMN hs.all j
  have h4 := hmin E h2 hB
  have h5 : pc (bor G (M ||| E)) 9 ≤ pc ((M ||| E) &&& (N &&& cmp G B)) 9 := pc_sub (fun j hj => by
   obtain ⟨q1, u, q2, q3⟩ := (bor_bit hG _ j).1 hj
   rw [or_bset, not_or] at q3
   refine (and_bset _ _ _).2 ⟨q1, (and_bset _ _ _).2 ⟨?_, ?_⟩⟩
   ·by_cases hm : bset M j
    ·exact hb j ((bor_bit hG M j).2 ⟨hm, u, q2, q3.1⟩)
    ·exact (hMN j (hG.adj_lt' q2)).resolve_left hm
   ·rw [cmp_bit]
    by_cases hm : bset B j
    ·exact .inr ((bor_bit hG B j).2 ⟨hm, u, q2, fun h => q3.2 (h1 u h)⟩)
    ·exact .inl ⟨hG.adj_lt' q2, hm⟩) 9
  have h6 : pc (cmp G (B &&& M) &&& (E &&& M)) 9 ≤ pc ((M &&& E) &&& (N ||| cmp G B)) 9 := pc_sub (fun j hj => by
   obtain ⟨q1, q2⟩ := (and_bset _ _ _).1 hj
   obtain ⟨q2, q3⟩ := (and_bset _ _ _).1 q2
   refine (and_bset _ _ _).2 ⟨(and_bset _ _ _).2 ⟨q3, q2⟩, (or_bset _ _ _).2 ?_⟩
   rw [cmp_bit] at q1
   rcases q1 with ⟨q4, q5⟩ | q4
   ·rw [and_bset] at q5
    exact .inr ((cmp_bit G B j).2 (.inl ⟨q4, fun h => q5 ⟨h, q3⟩⟩))
   ·obtain ⟨q5, u, q6, q7⟩ := (bor_bit hG _ j).1 q4
    obtain ⟨q5, _⟩ := (and_bset _ _ _).1 q5
    rw [and_bset] at q7
    by_cases hu : bset B u
    ·exact .inl (hb j ((bor_bit hG M j).2 ⟨q3, u, q6, fun h => q7 ⟨hu, h⟩⟩))
    ·exact .inr ((cmp_bit G B j).2 (.inr ((bor_bit hG B j).2 ⟨q5, u, q6, hu⟩)))) 9
  rw [Nat.and_comm] at h3
  omega
theorem least_of (Q : Nat → Prop) (f : Nat → Nat) (h : ∃ x, Q x) : ∃ x, Q x ∧ ∀ y, Q y → f x ≤ f y := by
 have key : ∀ d, ∀ x, Q x → f x ≤ d → ∃ x, Q x ∧ ∀ y, Q y → f x ≤ f y := by
  intro d
  induction d with
  | zero => exact fun x hx h0 => ⟨x, hx, fun y _ => by omega⟩
  | succ d ih =>
   intro x hx hd
   by_cases hy : ∃ y, Q y ∧ f y ≤ d
   ·obtain ⟨y, h1, h2⟩ := hy
    exact ih y h1 h2
   ·exact ⟨x, hx, fun y hq => Classical.byContradiction fun hn => hy ⟨y, hq, by omega⟩⟩
 obtain ⟨x, hx⟩ := h
 exact key (f x) x hx (Nat.le_refl _)
def Good (G : List Nat) (k A C : Nat) : Prop := ∃ A' C', Sub A' A ∧ Sm G k A' ∧ Sub C C' ∧ C' < 2 ^ G.length ∧ Mon G k A' C'
theorem Good.turn {m : Nat} {G : List Nat} (hG : Gr m G) {k A C D E : Nat} (h : Good G k A C) (h1 : Sep G k C D) (h2 : Sep G k E D) : Good G k A E := by
 obtain ⟨A', C', g1, g2, g3, g4, g5⟩ := h
 have hPC : Sub (cmp G D) C' := fun j hj => by
  rcases (cmp_bit G D j).1 hj with ⟨q1, q2⟩ | q
  ·exact g3 j ((h1.all j q1).resolve_right q2)
  ·exact g3 j (h1.bor2 hG j q)
 obtain ⟨M, ⟨m1, m2, m3⟩, m4⟩ := least_of (fun X => X < 2 ^ G.length ∧ Sub (cmp G D) X ∧ Sub X C') (fun X => pc (bor G X) 9) ⟨C', g4, hPC, Sub.refl _⟩
 have hmin : ∀ X, X < 2 ^ G.length → Sub X C' → pc (M &&& cmp G M) 9 ≤ pc (bor G (M ||| X)) 9 := fun X hX hXC => by
  rw [and_cmp hG]
  exact m4 _ ⟨or_lt m1 hX, fun j hj => (or_bset _ _ _).2 (.inl (m2 j hj)), fun j hj => ((or_bset _ _ _).1 hj).elim (m3 j) (hXC j)⟩
 have hMall : ∀ j, j < G.length → bset M j ∨ bset (cmp G M) j := fun j hj => by
  by_cases hb : bset M j
  ·exact .inl hb
  ·exact .inr ((cmp_bit G M j).2 (.inl ⟨hj, hb⟩))
 have hcut := Mon.cut hG m1 (cmp_lt hG M) hMall (fun j hj => (cmp_bit G M j).2 (.inr hj)) hmin g5 (Sub.refl _)
 have hCM : C' &&& M = M := sub_eq (fun j hj => ((and_bset _ _ _).1 hj).2) (fun j hj => (and_bset _ _ _).2 ⟨m3 j hj, hj⟩)
 rw [hCM] at hcut
 have hA'lt : A' &&& M < 2 ^ G.length := Nat.lt_of_le_of_lt Nat.and_le_left g2.1
 have hsm : Sm G k (A' &&& M) := by
  refine ⟨hA'lt, ?_⟩
  have hs := g2.sep hG
  have q0 := submod M (cmp G M) A' (cmp G A') 9 fun j _ => sides_same m1 (cmp_lt hG M) g2.1 (cmp_lt hG A') hMall hs.all j
  have q1 := hmin A' g2.1 g5.sub
  have q2 : pc (bor G (M ||| A')) 9 ≤ pc ((M ||| A') &&& (cmp G M &&& cmp G A')) 9 := pc_sub (fun j hj => by
   obtain ⟨r1, u, r2, r3⟩ := (bor_bit hG _ j).1 hj
   rw [or_bset, not_or] at r3
   refine (and_bset _ _ _).2 ⟨r1, (and_bset _ _ _).2 ⟨?_, ?_⟩⟩
   ·rw [cmp_bit]
    by_cases hm : bset M j
    ·exact .inr ((bor_bit hG M j).2 ⟨hm, u, r2, r3.1⟩)
    ·exact .inl ⟨hG.adj_lt' r2, hm⟩
   ·rw [cmp_bit]
    by_cases hm : bset A' j
    ·exact .inr ((bor_bit hG A' j).2 ⟨hm, u, r2, r3.2⟩)
    ·exact .inl ⟨hG.adj_lt' r2, hm⟩) 9
  have q3 : pc (bor G (A' &&& M)) 9 ≤ pc ((M &&& A') &&& (cmp G M ||| cmp G A')) 9 := pc_sub (fun j hj => by
   obtain ⟨r1, u, r2, r3⟩ := (bor_bit hG _ j).1 hj
   obtain ⟨r4, r5⟩ := (and_bset _ _ _).1 r1
   rw [and_bset] at r3
   refine (and_bset _ _ _).2 ⟨(and_bset _ _ _).2 ⟨r5, r4⟩, (or_bset _ _ _).2 ?_⟩
   by_cases hu : bset A' u
   ·exact .inl ((cmp_bit G M j).2 (.inr ((bor_bit hG M j).2 ⟨r5, u, r2, fun h => r3 ⟨hu, h⟩⟩)))
   ·exact .inr ((cmp_bit G A' j).2 (.inr ((bor_bit hG A' j).2 ⟨r4, u, r2, hu⟩)))) 9
  have q4 := g2.2
  rw [and_cmp hG A'] at q0
  omega
 refine ⟨A' &&& M, M ||| E, fun j hj => g1 j ((and_bset _ _ _).1 hj).1, hsm, fun j hj => (or_bset _ _ _).2 (.inr hj), or_lt m1 h2.la, .step hcut (fun j hj => (or_bset _ _ _).2 (.inl hj)) (or_lt m1 h2.la) ?_⟩
 have q0 := submod M (cmp G M) E D 9 fun j _ => sides_same m1 (cmp_lt hG M) h2.la h2.lb hMall h2.all j
 have q1 : pc (bor G M) 9 ≤ pc (bor G (M &&& E)) 9 := m4 _ ⟨Nat.lt_of_le_of_lt Nat.and_le_left m1, fun j hj => (and_bset _ _ _).2 ⟨m2 j hj, by
  rcases (cmp_bit G D j).1 hj with ⟨r1, r2⟩ | r
  ·exact (h2.all j r1).resolve_right r2
  ·exact h2.bor2 hG j r⟩, fun j hj => m3 j ((and_bset _ _ _).1 hj).1⟩
 have q2 : pc (bor G (M &&& E)) 9 ≤ pc ((M &&& E) &&& (cmp G M ||| D)) 9 := pc_sub (fun j hj => by
  obtain ⟨r1, u, r2, r3⟩ := (bor_bit hG _ j).1 hj
  obtain ⟨r4, r5⟩ := (and_bset _ _ _).1 r1
  rw [and_bset] at r3
  refine (and_bset _ _ _).2 ⟨r1, (or_bset _ _ _).2 ?_⟩
  by_cases hu : bset M u
  ·exact .inr (h2.bor j ((bor_bit hG E j).2 ⟨r5, u, r2, fun h => r3 ⟨hu, h⟩⟩))
  ·exact .inl ((cmp_bit G M j).2 (.inr ((bor_bit hG M j).2 ⟨r4, u, r2, hu⟩)))) 9
 have q3 : pc (cmp G M &&& (M ||| E)) 9 ≤ pc ((M ||| E) &&& (cmp G M &&& D)) 9 := pc_sub (fun j hj => by
  obtain ⟨r1, r2⟩ := (and_bset _ _ _).1 hj
  refine (and_bset _ _ _).2 ⟨r2, (and_bset _ _ _).2 ⟨r1, ?_⟩⟩
  apply Classical.byContradiction
  intro hD
  have hjn : j < G.length := bit_lt (cmp_lt hG M) r1
  have hjM : bset M j := m2 j ((cmp_bit G D j).2 (.inl ⟨hjn, hD⟩))
  obtain ⟨_, u, r4, r5⟩ := (bor_bit hG M j).1 (((cmp_bit G M j).1 r1).resolve_left fun h => h.2 hjM)
  have hu : ¬ bset (cmp G D) u := fun h => r5 (m2 u h)
  rw [cmp_bit, not_or] at hu
  have huD : bset D u := Classical.byContradiction fun h => hu.1 ⟨hG.adj_lt r4, h⟩
  exact hu.2 ((bor_bit hG D u).2 ⟨huD, j, hG.adj_symm r4, hD⟩)) 9
 have q4 := h2.card
 rw [and_cmp hG M] at q0
 omega
inductive Rch (G : List Nat) (k : Nat) (A : Nat) : Nat → Prop
 | base {X : Nat} : Sub X A → Sm G k X → Rch G k A X
 | down {X Y : Nat} : Rch G k A X → Sub Y X → Sm G k Y → Rch G k A Y
 | turn {C D E : Nat} : Rch G k A C → Sep G k C D → Sep G k E D → Rch G k A E
theorem Rch.good {m : Nat} {G : List Nat} (hG : Gr m G) {k A X : Nat} (h : Rch G k A X) : Good G k A X := by
 induction h with
 | @base X h1 h2 => exact ⟨X, X, h1, h2, Sub.refl _, h2.1, .refl⟩
 | down _ h1 _ ih =>
  obtain ⟨A', C', g1, g2, g3, g4⟩ := ih
  exact ⟨A', C', g1, g2, h1.trans g3, g4⟩
 | turn _ h1 h2 ih => exact ih.turn hG h1 h2
theorem Rch.sm {m : Nat} {G : List Nat} (hG : Gr m G) {k A X : Nat} (h : Rch G k A X) : Sm G k X := by
 induction h with
 | base _ h => exact h
 | down _ _ h _ => exact h
 | turn _ _ h _ => exact h.sm hG
theorem Rch.trans {G : List Nat} {k A X Y : Nat} (h : Rch G k A X) (h2 : Rch G k X Y) : Rch G k A Y := by
 induction h2 with
 | base h1 h2 => exact .down h h1 h2
 | down _ h1 h2 ih => exact .down ih h1 h2
 | turn _ h1 h2 ih => exact .turn ih h1 h2
theorem Rch.other {m : Nat} {G : List Nat} (hG : Gr m G) {k A A' Y B : Nat} (h : Sub A' A) (h1 : Sep G k A' Y) (h2 : Sep G k A B) : Rch G k Y B := by
 have hs := (h2.sm hG).sep hG
 have hc : Sub (cmp G A) Y := fun j hj => by
  rcases (cmp_bit G A j).1 hj with ⟨q1, q2⟩ | q
  ·exact (h1.all j q1).resolve_left fun hb => q2 (h j hb)
  ·obtain ⟨q1, u, q2, q3⟩ := (bor_bit hG A j).1 q
   by_cases hb : bset A' j
   ·exact h1.bor j ((bor_bit hG A' j).2 ⟨hb, u, q2, fun hu => q3 (h u hu)⟩)
   ·exact (h1.all j (hG.adj_lt' q2)).resolve_left hb
 exact .turn (.base hc ((hs.symm hG).sm hG)) (hs.symm hG) (h2.symm hG)
theorem Rch.self {m : Nat} {G : List Nat} (hG : Gr m G) {k A B : Nat} (h : Sep G k A B) : Rch G k A A := .base (Sub.refl _) (h.sm hG)
theorem Rch.skew {m : Nat} {G : List Nat} (hG : Gr m G) {k A B X : Nat} (h : Rch G k A X) (hAB : Sep G k A B) : ∀ Y, Sep G k X Y → Rch G k Y B := by
 induction h with
 | base h1 _ => exact fun Y hY => Rch.other hG h1 hY hAB
 | @down X Y' hX h1 h2 ih =>
  intro Z hZ
  have hs := (hX.sm hG).sep hG
  exact (Rch.other hG h1 hZ hs).trans (ih _ hs)
 | @turn C D E hC h1 h2 ih =>
  intro Z hZ
  exact (Rch.turn (Rch.self hG (hZ.symm hG)) (hZ.symm hG) (h2.symm hG)).trans (ih D h1)
theorem Mon.rch {m : Nat} {G : List Nat} (hG : Gr m G) {k A A' C : Nat} (h : Mon G k A' C) (h1 : Sub A' A) (h2 : Sm G k A') : Rch G k A C := by
 induction h with
 | refl => exact .base h1 h2
 | @step B E hB q1 q2 q3 ih => exact .turn ih ((ih.sm hG).sep hG) (step_sep hG q1 q2 q3)
structure Fam (G : List Nat) (k : Nat) (B : Nat → Prop) : Prop where
 sm : ∀ X, B X → Sm G k X
 zero : B 0
 down : ∀ X Y, B X → Sub Y X → Sm G k Y → B Y
 turn : ∀ C D E, B C → Sep G k C D → Sep G k E D → B E
 apart : ∀ X Y, Sep G k X Y → B X → ¬ B Y
theorem Fam.rch {G : List Nat} {k : Nat} {B : Nat → Prop} (h : Fam G k B) {A X : Nat} (hA : B A) (hX : Rch G k A X) : B X := by
 induction hX with
 | base h1 h2 => exact h.down _ _ hA h1 h2
 | down _ h1 h2 ih => exact h.down _ _ ih h1 h2
 | turn _ h1 h2 ih => exact h.turn _ _ _ ih h1 h2
theorem pc_zero (n : Nat) : pc 0 n = 0 := by
 induction n with
 | zero => rfl
 | succ n ih => simp [pc, ih]
theorem bor_zero {m : Nat} {G : List Nat} (hG : Gr m G) : bor G 0 = 0 := sub_eq (bor_sub hG 0) (zero_sub _)
theorem sep_zero {m : Nat} {G : List Nat} (hG : Gr m G) (k : Nat) : Sep G k 0 (2 ^ G.length - 1) :=
 ⟨Nat.two_pow_pos _, full_lt _, fun j hj => .inr ((full_bit _ _).2 hj), by rw [bor_zero hG]; exact zero_sub _, by rw [Nat.zero_and, pc_zero]; exact Nat.zero_le _⟩
theorem fam_start {m : Nat} {G : List Nat} (hG : Gr m G) {k : Nat} (hno : ¬ Mon G k 0 (2 ^ G.length - 1)) : Fam G k (Rch G k 0) := by
 refine ⟨fun X h => h.sm hG, .base (Sub.refl _) ((sep_zero hG k).sm hG), fun X Y h h1 h2 => .down h h1 h2, fun C D E h h1 h2 => .turn h h1 h2, fun X Y hXY hX hY => hno ?_⟩
 have h1 := hX.trans (hY.skew hG (sep_zero hG k) X (hXY.symm hG))
 obtain ⟨A', C', g1, g2, g3, g4, g5⟩ := h1.good hG
 obtain rfl : A' = 0 := sub_eq g1 (zero_sub _)
 obtain rfl : C' = 2 ^ G.length - 1 := sub_eq (fun j hj => (full_bit _ _).2 (bit_lt g4 hj)) g3
 exact g5
theorem Fam.more {m : Nat} {G : List Nat} (hG : Gr m G) {k : Nat} {B : Nat → Prop} (h : Fam G k B) (hu : ∃ X Y, Sep G k X Y ∧ ¬ B X ∧ ¬ B Y) : ∃ B' : Nat → Prop, Fam G k B' ∧ (∀ X, B X → B' X) ∧ ∃ X, X < 2 ^ G.length ∧ B' X ∧ ¬ B X := by
 obtain ⟨A, ⟨C, hAC, hA, hC⟩, hmin⟩ := least_of (fun A => ∃ C, Sep G k A C ∧ ¬ B A ∧ ¬ B C) (fun A => pc (bor G A) 9) (by obtain ⟨X, Y, h⟩ := hu; exact ⟨X, Y, h⟩)
 have hAs := (hAC.sm hG).sep hG
 have hAc : ¬ B (cmp G A) := fun hb => hC (h.turn _ _ _ hb (hAs.symm hG) (hAC.symm hG))
 refine ⟨fun X => B X ∨ Rch G k A X, ⟨fun X hX => hX.elim (h.sm X) (fun hX => hX.sm hG), .inl h.zero, fun X Y hX h1 h2 => hX.imp (fun hX => h.down _ _ hX h1 h2) (fun hX => .down hX h1 h2), fun C D E hX h1 h2 => hX.imp (fun hX => h.turn _ _ _ hX h1 h2) (fun hX => .turn hX h1 h2), ?_⟩, fun X hX => .inl hX, A, hAC.la, .inr (Rch.self hG hAC), hA⟩
 have one : ∀ X Y, Sep G k X Y → B X → ¬ Rch G k A Y := fun X Y hXY hX hY => hAc (h.rch hX (hY.skew hG hAs X (hXY.symm hG)))
 rintro X Y hXY (hX | hX) (hY | hY)
 ·exact h.apart X Y hXY hX hY
 ·exact one X Y hXY hX hY
 ·exact one Y X (hXY.symm hG) hY hX
 ·-- A leads to its own other side
  have hAB : Rch G k A (cmp G A) := hX.trans (hY.skew hG hAs X (hXY.symm hG))
  obtain ⟨A', C', g1, g2, g3, g4, g5⟩ := hAB.good hG
  have hcard : pc (cmp G A &&& A) 9 = pc (bor G A) 9 := by rw [Nat.and_comm, and_cmp hG]
  have hbig : ∀ M, M < 2 ^ G.length → Sub (cmp G A) M → Sub M C' → pc (bor G A) 9 ≤ pc (bor G M) 9 := fun M hM h1 h2 => by
   apply Classical.byContradiction
   intro hlt
   have hsm : Sm G k M := ⟨hM, by have := (hAC.sm hG).2; omega⟩
   have hs := hsm.sep hG
   have hrM : Rch G k A M := .down (g5.rch hG g1 g2) h2 hsm
   have hM1 : ¬ B M := fun hb => hAc (h.down _ _ hb h1 ((hAs.symm hG).sm hG))
   have hM2 : ¬ B (cmp G M) := fun hb => hAc (h.rch hb (hrM.skew hG hAs _ hs))
   exact hlt (hmin M ⟨_, hs, hM1, hM2⟩)
  have hcut := Mon.cut hG (cmp_lt hG A) hAC.la (fun j hj => (hAs.all j hj).symm) (hAs.bor2 hG) (fun X hX hXC => by
   rw [hcard]
   exact hbig _ (or_lt (cmp_lt hG A) hX) (fun j hj => (or_bset _ _ _).2 (.inl hj)) (fun j hj => ((or_bset _ _ _).1 hj).elim (g3 j) (hXC j))) g5 (Sub.refl _)
  rw [show C' &&& cmp G A = cmp G A from sub_eq (fun j hj => ((and_bset _ _ _).1 hj).2) (fun j hj => (and_bset _ _ _).2 ⟨g3 j hj, hj⟩)] at hcut
  have hfirst : Mon G k 0 (A' &&& cmp G A) := .step .refl (zero_sub _) (Nat.lt_of_le_of_lt Nat.and_le_left g2.1) (by
   refine Nat.le_trans (pc_sub (fun j hj => ?_) 9) hAs.card
   obtain ⟨_, q⟩ := (and_bset _ _ _).1 hj
   obtain ⟨q1, q2⟩ := (and_bset _ _ _).1 q
   exact (and_bset _ _ _).2 ⟨g1 j q1, q2⟩)
  exact hAc (h.rch h.zero ((hfirst.trans hcut).rch hG (Sub.refl _) ((sep_zero hG k).sm hG)))
noncomputable def cntP (P : Nat → Prop) : Nat → Nat
 | 0 => 0
 | n + 1 => cntP P n + @ite _ (P n) (Classical.propDecidable _) 1 0
theorem cntP_le (P : Nat → Prop) : ∀ n, cntP P n ≤ n
 | 0 => Nat.le_refl _
 | n + 1 => by
  have := cntP_le P n
  simp only [cntP]
  split <;> omega
theorem cntP_lt {P Q : Nat → Prop} (h : ∀ x, P x → Q x) {x : Nat} (h1 : Q x) (h2 : ¬ P x) : ∀ n, cntP P n + (if x < n then 1 else 0) ≤ cntP Q n
 | 0 => by simp [cntP]
 | n + 1 => by
  have ih := cntP_lt h h1 h2 n
  simp only [cntP]
  by_cases e : x = n
  ·subst e
   rw [if_neg h2, if_pos h1, if_pos (by omega)]
   rw [if_neg (by omega)] at ih
   omega
  ·have hx : (if x < n + 1 then 1 else 0) = (if x < n then 1 else 0) := by
    by_cases hl : x < n
    ·rw [if_pos hl, if_pos (by omega)]
    ·rw [if_neg hl, if_neg (by omega)]
   rw [hx]
   by_cases hp : P n
   ·rw [if_pos hp, if_pos (h n hp)]; omega
   ·rw [if_neg hp]; omega
structure Blk (G : List Nat) (k : Nat) (B : Nat → Prop) : Prop where
 sm : ∀ X, B X → Sm G k X
 down : ∀ X Y, B X → Sub Y X → Sm G k Y → B Y
 one : ∀ X Y, Sep G k X Y → (B X ↔ ¬ B Y)
theorem blk_exists {m : Nat} {G : List Nat} (hG : Gr m G) {k : Nat} (hno : ¬ Mon G k 0 (2 ^ G.length - 1)) : ∃ B, Blk G k B := by
 have key : ∀ d, ∀ B : Nat → Prop, Fam G k B → 2 ^ G.length - cntP B (2 ^ G.length) ≤ d → ∃ B, Blk G k B := by
  intro d
  induction d with
  | zero =>
   intro B h hd
   refine ⟨B, h.sm, h.down, fun X Y hs => ⟨h.apart X Y hs, fun hY => ?_⟩⟩
   apply Classical.byContradiction
   intro hX
   obtain ⟨B', _, h2, x, h3, h4, h5⟩ := h.more hG ⟨X, Y, hs, hX, hY⟩
   have := cntP_lt h2 h4 h5 (2 ^ G.length)
   rw [if_pos h3] at this
   have := cntP_le B' (2 ^ G.length)
   omega
  | succ d ih =>
   intro B h hd
   by_cases hu : ∃ X Y, Sep G k X Y ∧ ¬ B X ∧ ¬ B Y
   ·obtain ⟨B', h1, h2, x, h3, h4, h5⟩ := h.more hG hu
    have := cntP_lt h2 h4 h5 (2 ^ G.length)
    rw [if_pos h3] at this
    have := cntP_le B' (2 ^ G.length)
    exact ih B' h1 (by omega)
   ·exact ⟨B, h.sm, h.down, fun X Y hs => ⟨h.apart X Y hs, fun hY => Classical.byContradiction fun hX => hu ⟨X, Y, hs, hX, hY⟩⟩⟩
 exact key _ _ (fam_start hG hno) (Nat.le_refl _)
/-! Layouts and ways through. -/
theorem bag_bor {m : Nat} {G : List Nat} (hG : Gr m G) {B S E : Nat} (h1 : Sub B S) (h2 : Sub S E) : Sub (bor G S) (cmp G B &&& E) := fun j hj => by
 obtain ⟨q1, u, q2, q3⟩ := (bor_bit hG S j).1 hj
 refine (and_bset _ _ _).2 ⟨(cmp_bit G B j).2 ?_, h2 j q1⟩
 by_cases hb : bset B j
 ·exact .inr ((bor_bit hG B j).2 ⟨hb, u, q2, fun h => q3 (h1 u h)⟩)
 ·exact .inl ⟨hG.adj_lt' q2, hb⟩
theorem bag_less {m : Nat} {G : List Nat} (hG : Gr m G) (hm : m ≤ 9) {k B S E u : Nat} (h1 : Sub B S) (h2 : Sub S E) (hE : E < 2 ^ G.length) (hu : bset E u) (hS : ¬ bset S u) (h3 : pc (cmp G B &&& E) 9 ≤ k) : pc (bor G S) 9 + 1 ≤ k := by
 have hn := hG.most
 have hun := bit_lt hE hu
 have := pc_lt (x := bor G S) (y := cmp G B &&& E) u 9 (fun j _ hj => bag_bor hG h1 h2 j hj) (by omega) (by
  cases h : (bor G S).testBit u
  ·rfl
  ·exact (hS (bor_sub hG S u h)).elim) ((and_bset _ _ _).2 ⟨(cmp_bit G B u).2 (.inl ⟨hun, fun h => hS (h1 u h)⟩), hu⟩)
 omega
theorem not_sub {X Y : Nat} (h : ¬ Sub X Y) : ∃ u, bset X u ∧ ¬ bset Y u := Classical.byContradiction fun hn => h fun j hj => Classical.byContradiction fun hb => hn ⟨j, hj, hb⟩
theorem step_lay {m : Nat} {G : List Nat} (hG : Gr m G) (hm : m ≤ 9) {k B E : Nat} (hE : E < 2 ^ G.length) (h1 : Sub B E) (h3 : pc (cmp G B &&& E) 9 ≤ k + 1) (hL : Lay G k E) (hb : pc (bor G E) 9 ≤ k) : Lay G k B ∧ pc (bor G B) 9 ≤ k := by
 have hn := hG.most
 refine ⟨?_, ?_⟩
 ·have key : ∀ d S, pc (diff E S) 9 ≤ d → Sub B S → Sub S E → Lay G k S := by
   intro d
   induction d with
   | zero =>
    intro S hd hBS hSE
    by_cases he : Sub E S
    ·rw [sub_eq hSE he]; exact hL
    ·obtain ⟨v, h4, h5⟩ := not_sub he
     have := pc_lt (x := 0) (y := diff E S) v 9 (fun j _ hj => by simp at hj) (by have := bit_lt hE h4; omega) (by simp) ((diff_bset _ _ _).2 ⟨h4, h5⟩)
     omega
   | succ d ih =>
    intro S hd hBS hSE
    by_cases he : Sub E S
    ·rw [sub_eq hSE he]; exact hL
    ·obtain ⟨v, h4, h5⟩ := not_sub he
     have hv := bit_lt hE h4
     have hSE2 : Sub (S ||| 2 ^ v) E := fun j hj => by
      rcases (or_bset _ _ _).1 hj with h | h
      ·exact hSE j h
      ·rw [(two_pow_bit v j).1 h]; exact h4
     have hBS2 : Sub B (S ||| 2 ^ v) := fun j hj => (or_bset _ _ _).2 (.inl (hBS j hj))
     refine .step hv h5 ?_ (ih _ ?_ hBS2 hSE2)
     ·by_cases he2 : Sub E (S ||| 2 ^ v)
      ·rw [sub_eq hSE2 he2]; exact hb
      ·obtain ⟨u, h6, h7⟩ := not_sub he2
       have := bag_less hG hm hBS2 hSE2 hE h6 h7 h3
       omega
     ·have := pc_lt (x := diff E (S ||| 2 ^ v)) (y := diff E S) v 9 (fun j _ hj => by
       obtain ⟨q1, q2⟩ := (diff_bset _ _ _).1 hj
       exact (diff_bset _ _ _).2 ⟨q1, fun h => q2 ((or_bset _ _ _).2 (.inl h))⟩) (by omega) (by
       cases h : (diff E (S ||| 2 ^ v)).testBit v
       ·rfl
       ·exact (((diff_bset _ _ _).1 h).2 ((or_bset _ _ _).2 (.inr ((two_pow_bit v v).2 rfl)))).elim) ((diff_bset _ _ _).2 ⟨h4, h5⟩)
      omega
  exact key _ B (Nat.le_refl _) (Sub.refl _) h1
 ·by_cases he : Sub E B
  ·rw [sub_eq h1 he]; exact hb
  ·obtain ⟨u, h6, h7⟩ := not_sub he
   have := bag_less hG hm (Sub.refl B) h1 hE h6 h7 h3
   omega
theorem Mon.lay {m : Nat} {G : List Nat} (hG : Gr m G) (hm : m ≤ 9) {k A E : Nat} (h : Mon G (k + 1) A E) (hL : Lay G k E) (hb : pc (bor G E) 9 ≤ k) : Lay G k A ∧ pc (bor G A) 9 ≤ k := by
 induction h with
 | refl => exact ⟨hL, hb⟩
 | @step B E _ h1 h2 h3 ih =>
  obtain ⟨q1, q2⟩ := step_lay hG hm h2 h1 h3 hL hb
  exact ih q1 q2
theorem bor_full {m : Nat} {G : List Nat} (hG : Gr m G) : bor G (2 ^ G.length - 1) = 0 := sub_eq (fun j hj => by
 obtain ⟨_, u, h2, h3⟩ := (bor_bit hG _ j).1 hj
 exact (h3 ((full_bit _ _).2 (hG.adj_lt h2))).elim) (zero_sub _)
theorem mon_no {m : Nat} {G : List Nat} (hG : Gr m G) (hm : m ≤ 9) {x k : Nat} (hx : IsVs G x) (hk : k ≤ x) : ¬ Mon G k 0 (2 ^ G.length - 1) := by
 intro h
 cases k with
 | succ k =>
  have := (h.lay hG hm .done (by rw [bor_full hG, pc_zero]; exact Nat.zero_le _)).1
  have := (hx k).2 this
  omega
 | zero =>
  have key : ∀ E, Mon G 0 0 E → E = 0 := by
   intro E hE
   induction hE with
   | refl => rfl
   | @step B E _ h1 h2 h3 ih =>
    subst ih
    refine sub_eq (fun j hj => ?_) (zero_sub _)
    have hj2 := bit_lt h2 hj
    have hn := hG.most
    have := pc_lt (x := 0) (y := cmp G 0 &&& E) j 9 (fun i _ hi => by simp at hi) (by omega) (by simp) ((and_bset _ _ _).2 ⟨(cmp_bit G 0 j).2 (.inl ⟨hj2, fun h => by unfold bset at h; simp at h⟩), hj⟩)
    omega
  have h0 := key _ h
  have h1 := hG.pos
  have : 2 ^ 1 ≤ 2 ^ G.length := Nat.pow_le_pow_right (by omega) h1
  omega
theorem blk_of_vs {m : Nat} {G : List Nat} (hG : Gr m G) (hm : m ≤ 9) {x k : Nat} (hx : IsVs G x) (hk : k ≤ x) : ∃ B, Blk G k B := blk_exists hG (mon_no hG hm hx hk)
theorem Blk.zero {m : Nat} {G : List Nat} (hG : Gr m G) {k : Nat} {B : Nat → Prop} (h : Blk G k B) : B 0 ∧ ¬ B (2 ^ G.length - 1) := by
 have hs := sep_zero hG k
 by_cases h0 : B 0
 ·exact ⟨h0, (h.one _ _ hs).1 h0⟩
 ·have hf : B (2 ^ G.length - 1) := Classical.byContradiction fun hf => h0 ((h.one _ _ hs).2 hf)
  exact (h0 (h.down _ _ hf (zero_sub _) (hs.sm hG))).elim
end Go.Proofs.YtijfddobandcdaaDoor.T
end
section
/- What CheckBlockage accepts: the blockages of an order, as rising lists. -/
set_option linter.unusedVariables false
namespace Go.Proofs.YtijfddobandcdaaDoor.X
open Go.RowKit Go.Proofs.YtijfddobandcdaaDoorW.PrintWords Go.Proofs.YtijfddobandcdaaDoorW.PrintLast Go.Proofs.YtijfddobandcdaaDoorW.PrintMore Go.Proofs.YtijfddobandcdaaDoor.T
structure RL (G : List Nat) (k : Nat) (L : List Nat) : Prop where
 up : L.Pairwise (· < ·)
 sm : ∀ x ∈ L, x < 2 ^ G.length ∧ pc (bo G x) 9 ≤ k
def MarksOf (G : List Nat) (H : List Bool) (L : List Nat) : Prop := H.length = 2 ^ G.length ∧ ∀ x, x < 2 ^ G.length → H.getD x false = decide (x ∈ L)
theorem up_last {L : List Nat} (h : L.Pairwise (· < ·)) {z : Nat} (hz : L[L.length - 1]? = some z) : ∀ y ∈ L, y ≤ z := by
 intro y hy
 obtain ⟨i, hi, rfl⟩ := List.getElem_of_mem hy
 obtain ⟨hl, rfl⟩ := List.getElem?_eq_some_iff.1 hz
 by_cases e : i = L.length - 1
 ·subst e; exact Nat.le_refl _
 ·exact Nat.le_of_lt (List.pairwise_iff_getElem.1 h i (L.length - 1) hi hl (by omega))
theorem snoc_up {L : List Nat} {x : Nat} : (L ++ [x]).Pairwise (· < ·) ↔ L.Pairwise (· < ·) ∧ ∀ y ∈ L, y < x := by
 rw [List.pairwise_append]
 constructor
 ·intro ⟨h1, _, h2⟩; exact ⟨h1, fun y hy => h2 y hy x (List.mem_singleton.2 rfl)⟩
 ·intro ⟨h1, h2⟩; exact ⟨h1, List.pairwise_singleton _ _, fun y hy z hz => by rw [List.mem_singleton.1 hz]; exact h2 y hy⟩
theorem cb1_iff (G : List Nat) (k : Nat) (l : List Int) : ∀ (d i : Nat) (H : List Bool) (L : List Nat), i + d = l.length → l.take i = gi L → RL G k L → MarksOf G H L →
  (∀ H', cb1 G k l d i H = some H' → ∃ L', l = gi L' ∧ RL G k L' ∧ MarksOf G H' L') ∧ (∀ L', l = gi L' → RL G k L' → ∃ H', cb1 G k l d i H = some H' ∧ MarksOf G H' L') := by
 intro d
 have hN1 := Nat.two_pow_pos G.length
 induction d with
 | zero =>
  intro i H L hi hL hR hM
  rw [List.take_of_length_le (by omega)] at hL
  refine ⟨fun H' h => ?_, fun L' hL' _ => ?_⟩
  ·obtain rfl := Option.some.inj h
   exact ⟨L, hL, hR, hM⟩
  ·rw [hL] at hL'
   rw [← gi_inj hL']
   exact ⟨H, rfl, hM⟩
 | succ d ih =>
  intro i H L hi hL hR hM
  have hil : i < l.length := by omega
  have hLl : L.length = i := by
   have := congrArg List.length hL
   rw [gi_length, List.length_take] at this
   omega
  simp only [cb1]
  have elt : ∀ L', l = gi L' → RL G k L' → ∃ x : Nat, rd l (i : Int) = (x : Int) ∧ x < 2 ^ G.length ∧ pc (bo G x) 9 ≤ k ∧ L' = L ++ x :: L'.drop (i + 1) := by
   intro L' hL' hR'
   have hl' : i < L'.length := by rw [hL', gi_length] at hil; exact hil
   have e1 : L = L'.take i := gi_inj (by rw [← hL, hL', gi_take])
   refine ⟨L'[i], ?_, (hR'.sm _ (List.getElem_mem hl')).1, (hR'.sm _ (List.getElem_mem hl')).2, ?_⟩
   ·rw [hL', rd_gi, List.getD_eq_getElem?_getD, List.getElem?_eq_getElem hl']; rfl
   ·rw [e1, ← List.drop_eq_getElem_cons hl', List.take_append_drop]
  by_cases c0 : rd l (i : Int) < 0
  ·rw [if_pos c0]
   exact ⟨fun H' h => (by cases h), fun L' hL' hR' => (by obtain ⟨x, h1, _⟩ := elt L' hL' hR'; omega)⟩
  ·rw [if_neg c0]
   obtain ⟨x, hx⟩ := Int.eq_ofNat_of_zero_le (show 0 ≤ rd l (i : Int) by omega)
   rw [hx] at elt ⊢
   by_cases c1 : ((2 ^ G.length - 1 : Nat) : Int) < (x : Int)
   ·rw [if_pos c1]
    exact ⟨fun H' h => (by cases h), fun L' hL' hR' => (by obtain ⟨x', h1, h2, _⟩ := elt L' hL' hR'; omega)⟩
   ·rw [if_neg c1, Int.toNat_natCast]
    by_cases c2 : pc (bo G x) 9 ≤ k
    ·rw [if_pos c2]
     have hxN : x < 2 ^ G.length := by omega
     have hlast : 0 < i → ∃ z : Nat, rd l ((i - 1 : Nat) : Int) = (z : Int) ∧ L[L.length - 1]? = some z := fun h0 => by
      have h1 : i - 1 < L.length := by omega
      refine ⟨L[i - 1], ?_, by rw [hLl, List.getElem?_eq_getElem h1]⟩
      have e : (l.take i)[i - 1]? = (gi L)[i - 1]? := by rw [hL]
      rw [List.getElem?_take, if_pos (by omega)] at e
      unfold rd
      rw [Int.toNat_natCast, List.getD_eq_getElem?_getD, e]
      unfold gi
      rw [List.getElem?_map, List.getElem?_eq_getElem h1]
      rfl
     by_cases c3 : 0 < i ∧ (x : Int) ≤ rd l ((i - 1 : Nat) : Int)
     ·rw [if_pos c3]
      refine ⟨fun H' h => (by cases h), fun L' hL' hR' => ?_⟩
      obtain ⟨x', h1, _, _, h4⟩ := elt L' hL' hR'
      obtain rfl : x = x' := by omega
      obtain ⟨z, hz, hz2⟩ := hlast c3.1
      have hm : z ∈ L := List.mem_of_getElem? hz2
      have hup := hR'.up
      rw [h4, List.pairwise_append] at hup
      have := hup.2.2 z hm x List.mem_cons_self
      omega
     ·rw [if_neg c3]
      have hnew : ∀ y ∈ L, y < x := fun y hy => by
       have h0 : 0 < i := by rw [← hLl]; exact List.length_pos_of_mem hy
       obtain ⟨z, hz, hz2⟩ := hlast h0
       have := up_last hR.up hz2 y hy
       have : ¬ (x : Int) ≤ (z : Int) := fun h => c3 ⟨h0, by rw [hz]; exact h⟩
       omega
      have hR2 : RL G k (L ++ [x]) := ⟨snoc_up.2 ⟨hR.up, hnew⟩, fun y hy => by
       rcases List.mem_append.1 hy with h | h
       ·exact hR.sm y h
       ·rw [List.mem_singleton.1 h]; exact ⟨hxN, c2⟩⟩
      have hM2 : MarksOf G (H.set x true) (L ++ [x]) := ⟨by rw [List.length_set]; exact hM.1, fun y hy => by
       rw [List.getD_eq_getElem?_getD, List.getElem?_set]
       by_cases e : x = y
       ·subst e
        rw [if_pos rfl, if_pos (by rw [hM.1]; exact hxN)]
        simp
       ·rw [if_neg e]
        have := hM.2 y hy
        rw [List.getD_eq_getElem?_getD] at this
        rw [this]
        have e2 : ¬ y = x := fun h => e h.symm
        simp [e2]⟩
      refine ih (i + 1) _ _ (by omega) ?_ hR2 hM2
      exact take_snoc hL hil x hx
    ·rw [if_neg c2]
     exact ⟨fun H' h => (by cases h), fun L' hL' hR' => (by
      obtain ⟨x', h1, _, h3, _⟩ := elt L' hL' hR'
      obtain rfl : x = x' := by omega
      exact (c2 h3).elim)⟩
theorem sides_sep {G : List Nat} (hG : Gr 7 G) {k x y : Nat} (hx : x < 2 ^ G.length) (hy : y < 2 ^ G.length) : sidesB G k x y = true ↔ Sep G k x y := by
 unfold sidesB
 rw [bo_eq hG hx]
 simp only [Bool.and_eq_true, beq_iff_eq, decide_eq_true_eq]
 constructor
 ·rintro ⟨⟨h1, h2⟩, h3⟩
  refine ⟨hx, hy, fun j hj => ?_, fun j hj => ?_, h3⟩
  ·have : bset (x ||| y) j := by rw [h1, full_bit]; exact hj
   exact (or_bset _ _ _).1 this
  ·apply Classical.byContradiction
   intro hb
   have : bset (diff (bor G x) y) j := (diff_bset _ _ _).2 ⟨hj, hb⟩
   rw [h2] at this
   unfold bset at this
   simp at this
 ·intro h
  refine ⟨⟨eq_of_bits fun j => ?_, eq_of_bits fun j => ?_⟩, h.card⟩
  ·show bset _ _ ↔ bset _ _
   rw [full_bit]
   exact ⟨fun hb => bit_lt (or_lt hx hy) hb, fun hj => (or_bset _ _ _).2 (h.all j hj)⟩
  ·show bset _ _ ↔ bset _ _
   exact ⟨fun hb => by
    obtain ⟨q1, q2⟩ := (diff_bset _ _ _).1 hb
    exact (q2 (h.bor j q1)).elim, fun hb => by unfold bset at hb; simp at hb⟩
theorem sub_diff {x y : Nat} : diff y x = 0 ↔ Sub y x := by
 constructor
 ·intro h j hj
  apply Classical.byContradiction
  intro hb
  have : bset (diff y x) j := (diff_bset _ _ _).2 ⟨hj, hb⟩
  rw [h] at this
  unfold bset at this
  simp at this
 ·intro h
  exact eq_of_bits fun j => ⟨fun hb => by
   obtain ⟨q1, q2⟩ := (diff_bset y x j).1 hb
   exact (q2 (h j q1)).elim, fun hb => by simp at hb⟩
theorem cb2_iff {G : List Nat} (k : Nat) (H : List Bool) (N : Nat) (hN : 2 ^ G.length = N) : ∀ d x, x + d = N → (cb2 G k H d x = true ↔ ∀ z y, x ≤ z → z < N → y < N → ptB G k H z y = true)
 | 0, x, hx => ⟨fun _ z y h1 h2 _ => by omega, fun _ => rfl⟩
 | d + 1, x, hx => by
  simp only [cb2]
  rw [hN, cb2_pt G k H x N, Bool.and_eq_true, allFrom_iff, cb2_iff k H N hN d (x + 1) (by omega)]
  constructor
  ·rintro ⟨h1, h2⟩ z y h3 h4 h5
   by_cases e : z = x
   ·subst e; exact h1 y (by omega) (by omega)
   ·exact h2 z y (by omega) h4 h5
  ·intro h
   exact ⟨fun y h1 h2 => h x y (Nat.le_refl _) (by omega) (by omega), fun z y h1 h2 h3 => h z y (by omega) h2 h3⟩
theorem cbR_iff {G : List Nat} (hG : Gr 7 G) (k : Nat) (l : List Int) : (cbR G k l).1 = true ↔ ∃ L, l = gi L ∧ RL G k L ∧ Blk G k (fun x => x ∈ L) := by
 obtain ⟨h1, h2⟩ := cb1_iff G k l l.length 0 (List.replicate (2 ^ G.length) false) [] (by omega) (by simp [gi]) ⟨List.Pairwise.nil, fun x hx => by simp at hx⟩ ⟨by simp, fun x hx => by rw [List.getD_eq_getElem?_getD, List.getElem?_replicate, if_pos hx]; simp⟩
 have key : ∀ (H : List Bool) (L : List Nat), RL G k L → MarksOf G H L → (cb2 G k H (2 ^ G.length) 0 = true ↔ Blk G k (fun x => x ∈ L)) := by
  intro H L hR hM
  rw [cb2_iff k H (2 ^ G.length) rfl (2 ^ G.length) 0 (by omega)]
  have pt : ∀ x y, x < 2 ^ G.length → y < 2 ^ G.length → (ptB G k H x y = true ↔ (x ∈ L → pc (bor G y) 9 ≤ k → Sub y x → y ∈ L) ∧ (Sep G k x y → ¬ (x ∈ L ↔ y ∈ L))) := by
   intro x y hx hy
   unfold ptB
   rw [hM.2 x hx, hM.2 y hy, bo_eq hG hy]
   simp only [Bool.and_eq_true, Bool.not_eq_true', Bool.and_eq_false_iff, decide_eq_false_iff_not, Bool.not_eq_false', decide_eq_true_eq, beq_eq_false_iff_ne, ne_eq, sub_diff]
   refine and_congr ⟨fun h a b c => ?_, fun h => ?_⟩ ⟨fun h a b => ?_, fun h => ?_⟩
   ·rcases h with ((h | h) | h) | h
    ·exact (h a).elim
    ·exact (h b).elim
    ·exact (h c).elim
    ·exact h
   ·by_cases a : x ∈ L
    ·by_cases b : pc (bor G y) 9 ≤ k
     ·by_cases c : Sub y x
      ·exact .inr (h a b c)
      ·exact .inl (.inr c)
     ·exact .inl (.inl (.inr b))
    ·exact .inl (.inl (.inl a))
   ·rcases h with h | h
    ·rw [(sides_sep hG hx hy).2 a] at h; cases h
    ·exact h (by rw [decide_eq_decide]; exact b)
   ·by_cases a : Sep G k x y
    ·exact .inr fun e => h a (by rwa [decide_eq_decide] at e)
    ·refine .inl ?_
     cases hs : sidesB G k x y
     ·rfl
     ·exact (a ((sides_sep hG hx hy).1 hs)).elim
  constructor
  ·intro h
   refine ⟨fun X hX => ⟨(hR.sm X hX).1, by have := (hR.sm X hX).2; rwa [bo_eq hG (hR.sm X hX).1] at this⟩, fun X Y hX hs hm => ((pt X Y (hR.sm X hX).1 hm.1).1 (h X Y (Nat.zero_le _) (hR.sm X hX).1 hm.1)).1 hX hm.2 hs, fun X Y hs => ?_⟩
   have := ((pt X Y hs.la hs.lb).1 (h X Y (Nat.zero_le _) hs.la hs.lb)).2 hs
   by_cases hX : X ∈ L
   ·exact ⟨fun _ hY => this ⟨fun _ => hY, fun _ => hX⟩, fun _ => hX⟩
   ·exact ⟨fun h => (hX h).elim, fun hY => (this ⟨fun h => (hX h).elim, fun h => (hY h).elim⟩).elim⟩
  ·intro h z y _ hz hy
   exact (pt z y hz hy).2 ⟨fun a b c => h.down z y a c ⟨hy, b⟩, fun hs hiff => by
    have := h.one z y hs
    by_cases hz : z ∈ L
    ·exact this.1 hz (hiff.1 hz)
    ·exact hz (this.2 fun hy => hz (hiff.2 hy))⟩
 unfold cbR
 constructor
 ·intro h
  cases hc : cb1 G k l l.length 0 (List.replicate (2 ^ G.length) false) with
  | none => rw [hc] at h; cases h
  | some H =>
   rw [hc] at h
   obtain ⟨L, q1, q2, q3⟩ := h1 H hc
   exact ⟨L, q1, q2, (key H L q2 q3).1 h⟩
 ·rintro ⟨L, q1, q2, q3⟩
  obtain ⟨H, q4, q5⟩ := h2 L q1 q2
  rw [q4]
  exact (key H L q2 q5).2 q3
end Go.Proofs.YtijfddobandcdaaDoor.X
end
section
/- decide, without Go and memory: its rounds in short. -/
set_option linter.unusedVariables false
namespace Go.Proofs.YtijfddobandcdaaDoor.Pure
open Go.RowKit Go.Proofs.YtijfddobandcdaaDoorW.PrintWords Go.Proofs.YtijfddobandcdaaDoorW.PrintLast Go.Proofs.YtijfddobandcdaaDoorW.PrintMore Go.Proofs.YtijfddobandcdaaDoor.T Go.Proofs.YtijfddobandcdaaDoor.X
def imp (BS : List Bool) (c : Int) (x y : Nat) : Bool := BS.getD y false && ((c == 1 && diff y x == 0) || (c == 2 && diff x y == 0))
theorem l0_eq (k : Nat) (st : List Int) (x y N : Nat) (c : Int) (S0 : List Int) (kk : Int) (BS : List Bool) (LS : List (List Int)) (hB : BS.length = N) (hN : N ≤ 128) (hL : LS.length = N) (hx : x < N) (hc : c = 1 ∨ c = 2) :
  sweep_family_decide.l0 (k + 1) st (x : Int) c BS (N : Int) (y : Int) S0 kk BS LS =
   if y < N then (if imp BS c x y = true then (sweep_family_decide.f k S0 kk BS LS st (y : Int) c).bind fun b => if b.1 = true then sweep_family_decide.l0 k b.2.2 (x : Int) c BS (N : Int) ((y + 1 : Nat) : Int) S0 b.2.1 BS LS else some (false, b.2.1, b.2.2)
    else sweep_family_decide.l0 k st (x : Int) c BS (N : Int) ((y + 1 : Nat) : Int) S0 kk BS LS)
   else sweep_family_decide.l1 k st c (rd_L4 LS (x : Int)) ((rd_L4 LS (x : Int)).length : Int) 0 S0 kk BS LS := by
 rw [sweep_family_decide.l0]
 by_cases hy : y < N
 ·have h1 : ((y : Int) < (N : Int)) := by omega
  have hw : wrap64 ((y : Int) + 1) = ((y + 1 : Nat) : Int) := by rw [w64_small _ (by omega) (by omega)]; omega
  have hb1 := b_andNot y x (by omega) (by omega)
  have hb2 := b_andNot x y (by omega) (by omega)
  rw [if_pos h1, if_pos (by omega), if_pos (by rw [hB]; exact h1), if_pos hy, hw, hb1, hb2, rdOfB]
  unfold imp
  generalize BS.getD y false = b
  rcases hc with rfl | rfl
  ·cases b
   ·simp
   ·by_cases h : diff y x = 0
    ·simp [h]
    ·simp [h]
  ·cases b
   ·simp
   ·by_cases h : diff x y = 0
    ·simp [h]
    ·simp [h]
 ·rw [if_neg (by omega), if_neg hy, if_pos (by omega), if_pos (by rw [hL]; omega)]
def Ag (N : Nat) (T : Nat → Int) (st : List Int) : Prop := st.length = N ∧ ∀ y, y < N → rd st (y : Int) = 0 ∨ rd st (y : Int) = T y
theorem Ag.set {N : Nat} {T : Nat → Int} {st : List Int} (h : Ag N T st) (x : Nat) (hx : x < N) : Ag N T (st.set x (T x)) := by
 refine ⟨by rw [List.length_set]; exact h.1, fun y hy => ?_⟩
 by_cases e : y = x
 ·subst e
  right
  unfold rd
  simp [List.getD_eq_getElem?_getD, h.1, hx]
 ·have : rd (st.set x (T x)) (y : Int) = rd st (y : Int) := by
   unfold rd
   simp only [Int.toNat_natCast, List.getD_eq_getElem?_getD]
   rw [List.getElem?_set_ne (by omega)]
  rw [this]
  exact h.2 y hy
theorem dec_T {N : Nat} {BS : List Bool} {LS : List (List Int)} {S0 : List Int} {T : Nat → Int} (hB : BS.length = N) (hN : N ≤ 128) (hL : LS.length = N) (hTv : ∀ x, x < N → T x = 1 ∨ T x = 2)
  (hT1 : ∀ x y, x < N → y < N → imp BS (T x) x y = true → T y = T x) (hT3 : ∀ x, x < N → (rd_L4 LS (x : Int)).length ≤ 1000) (hT2 : ∀ x, x < N → ∀ z ∈ rd_L4 LS (x : Int), ∃ n : Nat, n < N ∧ z = (n : Int) ∧ T n = 3 - T x) : ∀ F : Nat,
  (∀ st x kk r, x < N → Ag N T st → sweep_family_decide.f F S0 kk BS LS st (x : Int) (T x) = some r → r.1 = true ∧ Ag N T r.2.2) ∧
  (∀ (st : List Int) (x y : Nat) kk r, x < N → Ag N T st → sweep_family_decide.l0 F st (x : Int) (T x) BS (N : Int) (y : Int) S0 kk BS LS = some r → r.1 = true ∧ Ag N T r.2.2) ∧
  (∀ st c (L : List Int) (i : Nat) kk r, (c = 1 ∨ c = 2) → L.length ≤ 1000 → (∀ z ∈ L, ∃ n : Nat, n < N ∧ z = (n : Int) ∧ T n = 3 - c) → Ag N T st → sweep_family_decide.l1 F st c L (L.length : Int) (i : Int) S0 kk BS LS = some r → r.1 = true ∧ Ag N T r.2.2)
 | 0 => ⟨fun _ _ _ _ _ _ h => by simp [sweep_family_decide.f] at h, fun _ _ _ _ _ _ _ h => by simp [sweep_family_decide.l0] at h, fun _ _ _ _ _ _ _ _ _ _ h => by simp [sweep_family_decide.l1] at h⟩
 | F + 1 => by
  obtain ⟨ih0, ih1, ih2⟩ := dec_T hB hN hL hTv hT1 hT3 hT2 F
  refine ⟨?_, ?_, ?_⟩
  ·intro st x kk r hx hA h
   rw [sweep_family_decide.f, if_pos (by omega), if_pos (by rw [hA.1]; omega)] at h
   by_cases h0 : rd st (x : Int) = 0
   ·rw [if_pos h0, Int.toNat_natCast, hB] at h
    exact ih1 _ x 0 kk r hx (hA.set x hx) h
   ·rw [if_neg h0] at h
    cases h
    exact ⟨beq_iff_eq.mpr ((hA.2 x hx).resolve_left h0), hA⟩
  ·intro st x y kk r hx hA h
   rw [l0_eq F st x y N (T x) S0 kk BS LS hB hN hL hx (hTv x hx)] at h
   split at h
   ·rename_i hy
    split at h
    ·rename_i hi
     obtain ⟨b, hb, h⟩ := Option.bind_eq_some_iff.mp h
     rw [← hT1 x y hx hy hi] at hb
     obtain ⟨h1, h2⟩ := ih0 st y kk b hy hA hb
     rw [if_pos h1] at h
     exact ih1 _ x (y + 1) _ r hx h2 h
    ·exact ih1 _ x (y + 1) _ r hx hA h
   ·exact ih2 st (T x) _ 0 kk r (hTv x hx) (hT3 x hx) (hT2 x hx) hA h
  ·intro st c L i kk r hc hl hz hA h
   rw [sweep_family_decide.l1] at h
   by_cases hi : i < L.length
   ·rw [if_pos (by omega), if_pos (by omega), if_pos (by omega)] at h
    have hw : wrap64 ((i : Int) + 1) = ((i + 1 : Nat) : Int) := by rw [w64_small _ (by omega) (by omega)]; omega
    have hm : rd L (i : Int) ∈ L := by
     unfold rd
     rw [Int.toNat_natCast, List.getD_eq_getElem?_getD, List.getElem?_eq_getElem hi]
     exact List.getElem_mem hi
    obtain ⟨n, hn, hz1, hz2⟩ := hz _ hm
    have hv : IntKind.i8.wrap (3 - c) = T n := by
     rw [hz2]
     rcases hc with rfl | rfl <;> rfl
    rw [hz1, hv, hw] at h
    obtain ⟨b, hb, h⟩ := Option.bind_eq_some_iff.mp h
    obtain ⟨h1, h2⟩ := ih0 st n kk b hn hA hb
    rw [if_pos h1] at h
    exact ih2 _ c L (i + 1) _ r hc hl hz h2 h
   ·rw [if_neg (by omega)] at h
    cases h
    exact ⟨rfl, hA⟩
theorem tailC_some {g : Int → Option (Option (List Int))} {c : Int} {cs : List Int} {o : Option (List Int)} (h : tailC g (c :: cs) = some o) : ∃ o1, g c = some o1 ∧ ((∃ d, o1 = some d ∧ o = some d) ∨ (o1 = none ∧ tailC g cs = some o)) := by
 simp only [tailC] at h
 obtain ⟨o1, h1, h2⟩ := Option.bind_eq_some_iff.mp h
 refine ⟨o1, h1, ?_⟩
 cases o1 with
 | none => exact .inr ⟨rfl, h2⟩
 | some d => exact .inl ⟨d, rfl, (Option.some.inj h2).symm⟩
theorem chF_T {N : Nat} {BS : List Bool} {LS : List (List Int)} {S0 : List Int} {T : Nat → Int} (hB : BS.length = N) (hN : N ≤ 128) (hL : LS.length = N) (hTv : ∀ x, x < N → T x = 1 ∨ T x = 2)
  (hT1 : ∀ x y, x < N → y < N → imp BS (T x) x y = true → T y = T x) (hT3 : ∀ x, x < N → (rd_L4 LS (x : Int)).length ≤ 1000) (hT2 : ∀ x, x < N → ∀ z ∈ rd_L4 LS (x : Int), ∃ n : Nat, n < N ∧ z = (n : Int) ∧ T n = 3 - T x) (kd : Nat) (kk : Int) :
  ∀ (m : Nat) (st : List Int) (o : Option (List Int)), Ag N T st → chF kd S0 kk BS LS m st = some o → o ≠ none
 | 0, _, _, _, h => by cases h
 | m + 1, st, o, hA, h => by
  simp only [chF] at h
  rw [hB] at h
  have hp := pk_lt BS st N 0 (-1) (by omega) (by omega)
  rw [Nat.zero_add] at hp
  generalize pk BS st N 0 (-1) = X at *
  by_cases hX : X < 0
  ·rw [if_pos hX] at h
   cases h
   exact fun e => by cases e
  ·rw [if_neg hX] at h
   obtain ⟨x, rfl⟩ := Int.eq_ofNat_of_zero_le (show 0 ≤ X by omega)
   have hx : x < N := by omega
   have good : ∀ o1, tryC kd S0 kk BS LS (chF kd S0 kk BS LS m) st (x : Int) (T x) = some o1 → o1 ≠ none := fun o1 h1 => by
    unfold tryC at h1
    obtain ⟨r, hr, h1⟩ := Option.bind_eq_some_iff.mp h1
    obtain ⟨q1, q2⟩ := (dec_T hB hN hL hTv hT1 hT3 hT2 kd).1 st x kk r hx hA hr
    rw [if_pos q1] at h1
    exact chF_T hB hN hL hTv hT1 hT3 hT2 kd kk m _ _ q2 h1
   obtain ⟨o1, h1, hcase⟩ := tailC_some h
   rcases hcase with ⟨d, _, rfl⟩ | ⟨rfl, h⟩
   ·exact fun e => by cases e
   ·rcases hTv x hx with e1 | e2
    ·rw [← e1] at h1
     exact absurd rfl (good _ h1)
    ·obtain ⟨o2, h2, hcase2⟩ := tailC_some h
     rcases hcase2 with ⟨d, _, rfl⟩ | ⟨rfl, h⟩
     ·exact fun e => by cases e
     ·rw [← e2] at h2
      exact absurd rfl (good _ h2)
end Go.Proofs.YtijfddobandcdaaDoor.Pure
end
section
/- decide: what it sets is closed (sound). -/
set_option linter.unusedVariables false
namespace Go.Proofs.YtijfddobandcdaaDoor.Pure
open Go.RowKit Go.Proofs.YtijfddobandcdaaDoorW.PrintWords Go.Proofs.YtijfddobandcdaaDoorW.PrintLast Go.Proofs.YtijfddobandcdaaDoorW.PrintMore Go.Proofs.YtijfddobandcdaaDoor.T Go.Proofs.YtijfddobandcdaaDoor.X
def Cl (N : Nat) (BS : List Bool) (LS : List (List Int)) (st : List Int) (x : Nat) (c : Int) : Prop := (∀ y, y < N → imp BS c x y = true → rd st (y : Int) = c) ∧ ∀ z ∈ rd_L4 LS (x : Int), rd st z = 3 - c
structure Step (N : Nat) (BS : List Bool) (LS : List (List Int)) (st st' : List Int) : Prop where
 len : st'.length = st.length
 ext : ∀ z : Int, rd st z ≠ 0 → rd st' z = rd st z
 new : ∀ y, y < N → rd st (y : Int) = 0 → rd st' (y : Int) ≠ 0 → (rd st' (y : Int) = 1 ∨ rd st' (y : Int) = 2) ∧ Cl N BS LS st' y (rd st' (y : Int))
theorem Step.refl (N : Nat) (BS : List Bool) (LS : List (List Int)) (st : List Int) : Step N BS LS st st := ⟨rfl, fun _ _ => rfl, fun y _ h h' => absurd h h'⟩
theorem Cl.ext {N : Nat} {BS : List Bool} {LS : List (List Int)} {st st' : List Int} {x : Nat} {c : Int} (h : Cl N BS LS st x c) (hc : c = 1 ∨ c = 2) (he : ∀ z : Int, rd st z ≠ 0 → rd st' z = rd st z) : Cl N BS LS st' x c := by
 refine ⟨fun y hy hi => ?_, fun z hz => ?_⟩
 ·have := h.1 y hy hi
  rw [he _ (by omega), this]
 ·have := h.2 z hz
  rw [he _ (by omega), this]
theorem Step.trans {N : Nat} {BS : List Bool} {LS : List (List Int)} {a b c : List Int} (h : Step N BS LS a b) (h2 : Step N BS LS b c) : Step N BS LS a c := by
 refine ⟨h2.len.trans h.len, fun z hz => ?_, fun y hy h0 h1 => ?_⟩
 ·have := h.ext z hz
  rw [h2.ext z (by rw [this]; exact hz), this]
 ·by_cases hb : rd b (y : Int) = 0
  ·exact h2.new y hy hb h1
  ·obtain ⟨p, q⟩ := h.new y hy h0 hb
   rw [h2.ext _ hb]
   exact ⟨p, q.ext p h2.ext⟩
theorem rd_set (st : List Int) (x : Nat) (c z : Int) (hx : x < st.length) : rd (st.set x c) z = if z.toNat = x then c else rd st z := by
 unfold rd
 simp only [List.getD_eq_getElem?_getD]
 by_cases h : z.toNat = x
 ·rw [if_pos h, h]
  simp [hx]
 ·rw [if_neg h, List.getElem?_set_ne (by omega)]
theorem dec_S {N : Nat} {BS : List Bool} {LS : List (List Int)} {S0 : List Int} (hB : BS.length = N) (hN : N ≤ 128) (hL : LS.length = N)
  (hT3 : ∀ x, x < N → (rd_L4 LS (x : Int)).length ≤ 1000) (hT2 : ∀ x, x < N → ∀ z ∈ rd_L4 LS (x : Int), ∃ n : Nat, n < N ∧ z = (n : Int)) : ∀ F : Nat,
  (∀ st (x : Nat) c kk r, x < N → st.length = N → (c = 1 ∨ c = 2) → sweep_family_decide.f F S0 kk BS LS st (x : Int) c = some r → r.1 = true → Step N BS LS st r.2.2 ∧ rd r.2.2 (x : Int) = c) ∧
  (∀ (st : List Int) (x y : Nat) c kk r, x < N → st.length = N → (c = 1 ∨ c = 2) → sweep_family_decide.l0 F st (x : Int) c BS (N : Int) (y : Int) S0 kk BS LS = some r → r.1 = true → Step N BS LS st r.2.2 ∧ (∀ y', y ≤ y' → y' < N → imp BS c x y' = true → rd r.2.2 (y' : Int) = c) ∧ ∀ z ∈ rd_L4 LS (x : Int), rd r.2.2 z = 3 - c) ∧
  (∀ st c (L : List Int) (i : Nat) kk r, st.length = N → (c = 1 ∨ c = 2) → L.length ≤ 1000 → (∀ z ∈ L, ∃ n : Nat, n < N ∧ z = (n : Int)) → sweep_family_decide.l1 F st c L (L.length : Int) (i : Int) S0 kk BS LS = some r → r.1 = true → Step N BS LS st r.2.2 ∧ ∀ j : Nat, i ≤ j → j < L.length → rd r.2.2 (rd L (j : Int)) = 3 - c)
 | 0 => ⟨fun _ _ _ _ _ _ _ _ h => by simp [sweep_family_decide.f] at h, fun _ _ _ _ _ _ _ _ _ h => by simp [sweep_family_decide.l0] at h, fun _ _ _ _ _ _ _ _ _ _ h => by simp [sweep_family_decide.l1] at h⟩
 | F + 1 => by
  obtain ⟨ih0, ih1, ih2⟩ := dec_S (S0 := S0) hB hN hL hT3 hT2 F
  refine ⟨?_, ?_, ?_⟩
  ·intro st x c kk r hx hl hc h hr
   rw [sweep_family_decide.f, if_pos (by omega), if_pos (by rw [hl]; omega)] at h
   by_cases h0 : rd st (x : Int) = 0
   ·rw [if_pos h0, Int.toNat_natCast, hB] at h
    obtain ⟨S1, a, b⟩ := ih1 _ x 0 c kk r hx (by rw [List.length_set]; exact hl) hc h hr
    have hs := fun z => rd_set st x c z (by omega)
    have hxc : rd r.2.2 (x : Int) = c := by
     have e := hs (x : Int)
     rw [if_pos (Int.toNat_natCast x)] at e
     rw [S1.ext _ (by rw [e]; omega), e]
    refine ⟨⟨by rw [S1.len, List.length_set], fun z hz => ?_, fun y hy y0 y1 => ?_⟩, hxc⟩
    ·have e := hs z
     by_cases hzx : z.toNat = x
     ·exfalso
      apply hz
      unfold rd at h0 ⊢
      rw [hzx]
      rwa [Int.toNat_natCast] at h0
     ·rw [if_neg hzx] at e
      rw [S1.ext z (by rw [e]; exact hz), e]
    ·by_cases e : y = x
     ·subst e
      rw [hxc]
      exact ⟨hc, fun y' hy' hi => a y' (by omega) hy' hi, b⟩
     ·have e' := hs (y : Int)
      rw [if_neg (by rw [Int.toNat_natCast]; exact e)] at e'
      exact S1.new y hy (by rw [e']; exact y0) y1
   ·rw [if_neg h0] at h
    cases h
    exact ⟨Step.refl _ _ _ _, beq_iff_eq.mp hr⟩
  ·intro st x y c kk r hx hl hc h hr
   rw [l0_eq F st x y N c S0 kk BS LS hB hN hL hx hc] at h
   split at h
   ·rename_i hy
    split at h
    ·rename_i hi
     obtain ⟨b, hb, h⟩ := Option.bind_eq_some_iff.mp h
     by_cases h1 : b.1 = true
     ·rw [if_pos h1] at h
      obtain ⟨S1, q1⟩ := ih0 st y c kk b hy hl hc hb h1
      obtain ⟨S2, a2, b2⟩ := ih1 _ x (y + 1) c _ r hx (S1.len.trans hl) hc h hr
      refine ⟨S1.trans S2, fun y' h1 h2 h3 => ?_, b2⟩
      by_cases e : y' = y
      ·subst e
       rw [S2.ext _ (by rw [q1]; omega), q1]
      ·exact a2 y' (by omega) h2 h3
     ·rw [if_neg h1] at h
      cases h
      cases hr
    ·rename_i hi
     obtain ⟨S2, a2, b2⟩ := ih1 st x (y + 1) c _ r hx hl hc h hr
     refine ⟨S2, fun y' h1 h2 h3 => ?_, b2⟩
     by_cases e : y' = y
     ·subst e
      exact absurd h3 hi
     ·exact a2 y' (by omega) h2 h3
   ·rename_i hy
    obtain ⟨S2, a2⟩ := ih2 st c _ 0 kk r hl hc (hT3 x hx) (hT2 x hx) h hr
    refine ⟨S2, fun y' h1 h2 => by omega, fun z hz => ?_⟩
    obtain ⟨j, hj, e⟩ := List.mem_iff_getElem.mp hz
    have := a2 j (by omega) hj
    unfold rd at this ⊢
    rw [Int.toNat_natCast, List.getD_eq_getElem?_getD (l := rd_L4 LS (x : Int)), List.getElem?_eq_getElem hj] at this
    rw [← e]
    exact this
  ·intro st c L i kk r hl hc hle hz h hr
   rw [sweep_family_decide.l1] at h
   by_cases hi : i < L.length
   ·rw [if_pos (by omega), if_pos (by omega), if_pos (by omega)] at h
    have hw : wrap64 ((i : Int) + 1) = ((i + 1 : Nat) : Int) := by rw [w64_small _ (by omega) (by omega)]; omega
    have hm : rd L (i : Int) ∈ L := by
     unfold rd
     rw [Int.toNat_natCast, List.getD_eq_getElem?_getD, List.getElem?_eq_getElem hi]
     exact List.getElem_mem hi
    obtain ⟨n, hn, hz1⟩ := hz _ hm
    have hv : IntKind.i8.wrap (3 - c) = 3 - c := by rcases hc with rfl | rfl <;> rfl
    rw [hz1, hv, hw] at h
    obtain ⟨b, hb, h⟩ := Option.bind_eq_some_iff.mp h
    by_cases h1 : b.1 = true
    ·rw [if_pos h1] at h
     obtain ⟨S1, q1⟩ := ih0 st n (3 - c) kk b hn hl (by omega) hb h1
     obtain ⟨S2, a2⟩ := ih2 _ c L (i + 1) _ r (S1.len.trans hl) hc hle hz h hr
     refine ⟨S1.trans S2, fun j j1 j2 => ?_⟩
     by_cases e : j = i
     ·subst e
      rw [hz1, S2.ext _ (by rw [q1]; omega), q1]
     ·exact a2 j (by omega) j2
    ·rw [if_neg h1] at h
     cases h
     cases hr
   ·rw [if_neg (by omega)] at h
    cases h
    exact ⟨Step.refl _ _ _ _, fun j j1 j2 => by omega⟩
theorem pk_neg (BS : List Bool) (st : List Int) : ∀ (d y : Nat) (x : Int), pk BS st d y x < 0 → x < 0 ∧ ∀ y', y ≤ y' → y' < y + d → BS.getD y' false = true → rd st (y' : Int) ≠ 0
 | 0, y, x, h => ⟨h, fun y' h1 h2 => by omega⟩
 | d + 1, y, x, h => by
  simp only [pk] at h
  obtain ⟨h1, h2⟩ := pk_neg BS st d (y + 1) _ h
  split at h1
  ·omega
  ·rename_i hn
   refine ⟨h1, fun y' q1 q2 q3 q4 => ?_⟩
   by_cases e : y' = y
   ·subst e
    apply hn
    rw [q3, q4]; simp [h1]
   ·exact h2 y' (by omega) (by omega) q3 q4
theorem chF_S {N : Nat} {BS : List Bool} {LS : List (List Int)} {S0 : List Int} (hB : BS.length = N) (hN : N ≤ 128) (hL : LS.length = N)
  (hT3 : ∀ x, x < N → (rd_L4 LS (x : Int)).length ≤ 1000) (hT2 : ∀ x, x < N → ∀ z ∈ rd_L4 LS (x : Int), ∃ n : Nat, n < N ∧ z = (n : Int)) (kd : Nat) (kk : Int) :
  ∀ (m : Nat) (st d : List Int), st.length = N → chF kd S0 kk BS LS m st = some (some d) → Step N BS LS st d ∧ ∀ y, y < N → BS.getD y false = true → rd d (y : Int) ≠ 0
 | 0, _, _, _, h => by cases h
 | m + 1, st, d, hl, h => by
  simp only [chF] at h
  rw [hB] at h
  have hp := pk_lt BS st N 0 (-1) (by omega) (by omega)
  have hq := pk_neg BS st N 0 (-1)
  rw [Nat.zero_add] at hp
  generalize pk BS st N 0 (-1) = X at *
  by_cases hX : X < 0
  ·rw [if_pos hX] at h
   cases h
   exact ⟨Step.refl _ _ _ _, fun y hy hb => (hq hX).2 y (by omega) (by omega) hb⟩
  ·rw [if_neg hX] at h
   obtain ⟨x, rfl⟩ := Int.eq_ofNat_of_zero_le (show 0 ≤ X by omega)
   have hx : x < N := by omega
   have good : ∀ c, (c = 1 ∨ c = 2) → tryC kd S0 kk BS LS (chF kd S0 kk BS LS m) st (x : Int) c = some (some d) → Step N BS LS st d ∧ ∀ y, y < N → BS.getD y false = true → rd d (y : Int) ≠ 0 := fun c hc h1 => by
    unfold tryC at h1
    obtain ⟨r, hr, h1⟩ := Option.bind_eq_some_iff.mp h1
    by_cases q : r.1 = true
    ·rw [if_pos q] at h1
     obtain ⟨S1, _⟩ := (dec_S hB hN hL hT3 hT2 kd).1 st x c kk r hx hl hc hr q
     obtain ⟨S2, a2⟩ := chF_S hB hN hL hT3 hT2 kd kk m _ d (S1.len.trans hl) h1
     exact ⟨S1.trans S2, a2⟩
    ·rw [if_neg q] at h1
     cases h1
   obtain ⟨o1, h1, hcase⟩ := tailC_some h
   rcases hcase with ⟨d', rfl, e⟩ | ⟨rfl, h⟩
   ·cases e
    exact good 1 (.inl rfl) h1
   ·obtain ⟨o2, h2, hcase2⟩ := tailC_some h
    rcases hcase2 with ⟨d', rfl, e⟩ | ⟨rfl, h⟩
    ·cases e
     exact good 2 (.inr rfl) h2
    ·cases h
end Go.Proofs.YtijfddobandcdaaDoor.Pure
end
section
/- decide ends: enough fuel. -/
set_option linter.unusedVariables false
namespace Go.Proofs.YtijfddobandcdaaDoor.Pure
open Go.RowKit Go.Proofs.YtijfddobandcdaaDoorW.PrintWords Go.Proofs.YtijfddobandcdaaDoorW.PrintLast Go.Proofs.YtijfddobandcdaaDoorW.PrintMore Go.Proofs.YtijfddobandcdaaDoor.T Go.Proofs.YtijfddobandcdaaDoor.X
def zs : List Int → Nat
 | [] => 0
 | c :: cs => (if c = 0 then 1 else 0) + zs cs
theorem zs_set : ∀ (st : List Int) (x : Nat) (c : Int), c ≠ 0 → x < st.length → rd st (x : Int) = 0 → zs (st.set x c) + 1 = zs st
 | [], _, _, _, h, _ => by simp at h
 | a :: st, 0, c, hc, _, h => by
  have : a = 0 := by simpa [rd] using h
  simp [zs, this, hc]
  omega
 | a :: st, x + 1, c, hc, h, h0 => by
  have := zs_set st x c hc (by simpa using h) (by simpa [rd] using h0)
  simp only [List.set_cons_succ, zs]
  omega
def Ok3 (N : Nat) (st : List Int) (o : Option (Bool × Int × List Int)) : Prop := ∃ r, o = some r ∧ r.2.2.length = N ∧ zs r.2.2 ≤ zs st
theorem dec_F {N : Nat} {BS : List Bool} {LS : List (List Int)} {S0 : List Int} (hB : BS.length = N) (hN : N ≤ 128) (hL : LS.length = N)
  (hT3 : ∀ x, x < N → (rd_L4 LS (x : Int)).length ≤ 1000) (hT2 : ∀ x, x < N → ∀ z ∈ rd_L4 LS (x : Int), ∃ n : Nat, n < N ∧ z = (n : Int)) : ∀ F : Nat,
  (∀ st (x : Nat) c kk, x < N → st.length = N → (c = 1 ∨ c = 2) → 2000 * (zs st + 1) ≤ F → Ok3 N st (sweep_family_decide.f F S0 kk BS LS st (x : Int) c)) ∧
  (∀ (st : List Int) (x y : Nat) c kk, x < N → st.length = N → (c = 1 ∨ c = 2) → 2000 * (zs st + 1) + (N - y) + 1002 ≤ F → Ok3 N st (sweep_family_decide.l0 F st (x : Int) c BS (N : Int) (y : Int) S0 kk BS LS)) ∧
  (∀ st c (L : List Int) (i : Nat) kk, st.length = N → (c = 1 ∨ c = 2) → L.length ≤ 1000 → (∀ z ∈ L, ∃ n : Nat, n < N ∧ z = (n : Int)) → 2000 * (zs st + 1) + (L.length - i) + 1 ≤ F → Ok3 N st (sweep_family_decide.l1 F st c L (L.length : Int) (i : Int) S0 kk BS LS))
 | 0 => ⟨fun _ _ _ _ _ _ _ h => by omega, fun _ _ _ _ _ _ _ _ h => by omega, fun _ _ _ _ _ _ _ _ _ h => by omega⟩
 | F + 1 => by
  obtain ⟨ih0, ih1, ih2⟩ := dec_F (S0 := S0) hB hN hL hT3 hT2 F
  refine ⟨?_, ?_, ?_⟩
  ·intro st x c kk hx hl hc hF
   rw [sweep_family_decide.f, if_pos (by omega), if_pos (by rw [hl]; omega)]
   by_cases h0 : rd st (x : Int) = 0
   ·rw [if_pos h0, Int.toNat_natCast, hB]
    have hz := zs_set st x c (by omega) (by omega) h0
    obtain ⟨r, e, h1, h2⟩ := ih1 (st.set x c) x 0 c kk hx (by rw [List.length_set]; exact hl) hc (by omega)
    exact ⟨r, e, h1, by omega⟩
   ·rw [if_neg h0]
    exact ⟨_, rfl, hl, Nat.le_refl _⟩
  ·intro st x y c kk hx hl hc hF
   rw [l0_eq F st x y N c S0 kk BS LS hB hN hL hx hc]
   split
   ·rename_i hy
    split
    ·obtain ⟨b, e, h1, h2⟩ := ih0 st y c kk hy hl hc (by omega)
     rw [e, Option.bind_some]
     split
     ·obtain ⟨r, e2, h3, h4⟩ := ih1 b.2.2 x (y + 1) c b.2.1 hx h1 hc (by omega)
      exact ⟨r, e2, h3, by omega⟩
     ·exact ⟨_, rfl, h1, h2⟩
    ·exact ih1 st x (y + 1) c kk hx hl hc (by omega)
   ·exact ih2 st c _ 0 kk hl hc (hT3 x hx) (hT2 x hx) (by have := hT3 x hx; omega)
  ·intro st c L i kk hl hc hle hz hF
   rw [sweep_family_decide.l1]
   by_cases hi : i < L.length
   ·rw [if_pos (by omega), if_pos (by omega), if_pos (by omega)]
    have hw : wrap64 ((i : Int) + 1) = ((i + 1 : Nat) : Int) := by rw [w64_small _ (by omega) (by omega)]; omega
    have hm : rd L (i : Int) ∈ L := by
     unfold rd
     rw [Int.toNat_natCast, List.getD_eq_getElem?_getD, List.getElem?_eq_getElem hi]
     exact List.getElem_mem hi
    obtain ⟨n, hn, hz1⟩ := hz _ hm
    have hv : IntKind.i8.wrap (3 - c) = 3 - c := by rcases hc with rfl | rfl <;> rfl
    rw [hz1, hv, hw]
    obtain ⟨b, e, h1, h2⟩ := ih0 st n (3 - c) kk hn hl (by omega) (by omega)
    rw [e, Option.bind_some]
    split
    ·obtain ⟨r, e2, h3, h4⟩ := ih2 b.2.2 c L (i + 1) b.2.1 h1 hc hle hz (by omega)
     exact ⟨r, e2, h3, by omega⟩
    ·exact ⟨_, rfl, h1, h2⟩
   ·rw [if_neg (by omega)]
    exact ⟨_, rfl, hl, Nat.le_refl _⟩
theorem zs_le : ∀ (st st' : List Int), st'.length = st.length → (∀ x, x < st.length → rd st (x : Int) ≠ 0 → rd st' (x : Int) ≠ 0) → zs st' ≤ zs st
 | [], [], _, _ => Nat.le_refl _
 | [], _ :: _, h, _ => by simp at h
 | _ :: _, [], h, _ => by simp at h
 | a :: st, b :: st', h, hk => by
  have h0 := hk 0 (by simp)
  have ih := zs_le st st' (by simpa using h) (fun x hx => by
   have := hk (x + 1) (by simpa using hx)
   simpa [rd] using this)
  simp only [zs]
  have h0' : a ≠ 0 → b ≠ 0 := by simpa [rd] using h0
  by_cases ha : a = 0
  ·rw [if_pos ha]
   split <;> omega
  ·rw [if_neg ha, if_neg (h0' ha)]
   omega
theorem zs_lt {st st' : List Int} (h : st'.length = st.length) (hk : ∀ x, x < st.length → rd st (x : Int) ≠ 0 → rd st' (x : Int) ≠ 0) {x : Nat} (hx : x < st.length) (h0 : rd st (x : Int) = 0) (h1 : rd st' (x : Int) ≠ 0) : zs st' < zs st := by
 have e := zs_set st x 1 (by omega) hx h0
 have := zs_le (st.set x 1) st' (by rw [List.length_set]; exact h) (fun y hy hn => by
  rw [List.length_set] at hy
  rw [rd_set st x 1 (y : Int) hx, Int.toNat_natCast] at hn
  by_cases ey : y = x
  ·subst ey; exact h1
  ·rw [if_neg ey] at hn
   exact hk y hy hn)
 omega
theorem pk_open (BS : List Bool) (st : List Int) : ∀ (d y : Nat) (x : Int), 0 ≤ pk BS st d y x → pk BS st d y x = x ∨ (BS.getD (pk BS st d y x).toNat false = true ∧ rd st (pk BS st d y x) = 0)
 | 0, y, x, _ => .inl rfl
 | d + 1, y, x, h => by
  simp only [pk] at h ⊢
  rcases pk_open BS st d (y + 1) _ h with e | e
  ·split at e
   ·rename_i hc
    right
    simp only [Bool.and_eq_true, beq_iff_eq] at hc
    simp only [Bool.and_eq_true, beq_iff_eq, hc, and_self, if_true] at e ⊢
    rw [e]
    refine ⟨by rw [Int.toNat_natCast]; exact hc.1.1, hc.1.2⟩
   ·rename_i hc
    left
    rw [if_neg hc]
    exact e
  ·exact .inr e
theorem chF_F {N : Nat} {BS : List Bool} {LS : List (List Int)} {S0 : List Int} (hB : BS.length = N) (hN : N ≤ 128) (hL : LS.length = N)
  (hT3 : ∀ x, x < N → (rd_L4 LS (x : Int)).length ≤ 1000) (hT2 : ∀ x, x < N → ∀ z ∈ rd_L4 LS (x : Int), ∃ n : Nat, n < N ∧ z = (n : Int)) (kd : Nat) (kk : Int) :
  ∀ (m : Nat) (st : List Int), st.length = N → zs st < m → 2000 * (zs st + 1) ≤ kd → ∃ o, chF kd S0 kk BS LS m st = some o
 | 0, _, _, h, _ => by omega
 | m + 1, st, hl, hm, hk => by
  simp only [chF]
  rw [hB]
  have hp := pk_lt BS st N 0 (-1) (by omega) (by omega)
  have hq := pk_open BS st N 0 (-1)
  rw [Nat.zero_add] at hp
  generalize pk BS st N 0 (-1) = X at *
  by_cases hX : X < 0
  ·rw [if_pos hX]
   exact ⟨_, rfl⟩
  ·rw [if_neg hX]
   obtain ⟨x, rfl⟩ := Int.eq_ofNat_of_zero_le (show 0 ≤ X by omega)
   have hx : x < N := by omega
   have h0 := ((hq (by omega)).resolve_left (by omega)).2
   have good : ∀ c, (c = 1 ∨ c = 2) → ∃ o, tryC kd S0 kk BS LS (chF kd S0 kk BS LS m) st (x : Int) c = some o := fun c hc => by
    obtain ⟨r, e, h1, h2⟩ := (dec_F (S0 := S0) hB hN hL hT3 hT2 kd).1 st x c kk hx hl hc hk
    unfold tryC
    rw [e, Option.bind_some]
    split
    ·rename_i hr
     obtain ⟨S1, q⟩ := (dec_S hB hN hL hT3 hT2 kd).1 st x c kk r hx hl hc e hr
     have := zs_lt S1.len (fun y _ hn => by rw [S1.ext _ hn]; exact hn) (by rw [hl]; exact hx) h0 (by rw [q]; omega)
     exact chF_F hB hN hL hT3 hT2 kd kk m _ h1 (by omega) (by omega)
    ·exact ⟨_, rfl⟩
   obtain ⟨o1, e1⟩ := good 1 (.inl rfl)
   obtain ⟨o2, e2⟩ := good 2 (.inr rfl)
   simp only [tailC, e1, e2, Option.bind_some]
   cases o1 <;> cases o2 <;> exact ⟨_, rfl⟩
end Go.Proofs.YtijfddobandcdaaDoor.Pure
end
section
/- decide sets small sets only. -/
set_option linter.unusedVariables false
namespace Go.Proofs.YtijfddobandcdaaDoor.Pure
open Go.RowKit Go.Proofs.YtijfddobandcdaaDoorW.PrintWords Go.Proofs.YtijfddobandcdaaDoorW.PrintLast Go.Proofs.YtijfddobandcdaaDoorW.PrintMore Go.Proofs.YtijfddobandcdaaDoor.T Go.Proofs.YtijfddobandcdaaDoor.X
def On (N : Nat) (BS : List Bool) (st : List Int) : Prop := st.length = N ∧ ∀ y, y < N → rd st (y : Int) ≠ 0 → BS.getD y false = true
theorem On.set {N : Nat} {BS : List Bool} {st : List Int} (h : On N BS st) (x : Nat) (c : Int) (hx : x < N) (hb : BS.getD x false = true) : On N BS (st.set x c) := by
 refine ⟨by rw [List.length_set]; exact h.1, fun y hy h1 => ?_⟩
 rw [rd_set st x c _ (by rw [h.1]; exact hx), Int.toNat_natCast] at h1
 by_cases e : y = x
 ·rw [e]; exact hb
 ·rw [if_neg e] at h1
  exact h.2 y hy h1
theorem dec_B {N : Nat} {BS : List Bool} {LS : List (List Int)} {S0 : List Int} (hB : BS.length = N) (hN : N ≤ 128) (hL : LS.length = N)
  (hT3 : ∀ x, x < N → (rd_L4 LS (x : Int)).length ≤ 1000) (hT2 : ∀ x, x < N → ∀ z ∈ rd_L4 LS (x : Int), ∃ n : Nat, n < N ∧ z = (n : Int) ∧ BS.getD n false = true) : ∀ F : Nat,
  (∀ st (x : Nat) c kk r, x < N → BS.getD x false = true → (c = 1 ∨ c = 2) → On N BS st → sweep_family_decide.f F S0 kk BS LS st (x : Int) c = some r → On N BS r.2.2) ∧
  (∀ (st : List Int) (x y : Nat) c kk r, x < N → (c = 1 ∨ c = 2) → On N BS st → sweep_family_decide.l0 F st (x : Int) c BS (N : Int) (y : Int) S0 kk BS LS = some r → On N BS r.2.2) ∧
  (∀ st c (L : List Int) (i : Nat) kk r, (c = 1 ∨ c = 2) → L.length ≤ 1000 → (∀ z ∈ L, ∃ n : Nat, n < N ∧ z = (n : Int) ∧ BS.getD n false = true) → On N BS st → sweep_family_decide.l1 F st c L (L.length : Int) (i : Int) S0 kk BS LS = some r → On N BS r.2.2)
 | 0 => ⟨fun _ _ _ _ _ _ _ _ _ h => by simp [sweep_family_decide.f] at h, fun _ _ _ _ _ _ _ _ _ h => by simp [sweep_family_decide.l0] at h, fun _ _ _ _ _ _ _ _ _ _ h => by simp [sweep_family_decide.l1] at h⟩
 | F + 1 => by
  obtain ⟨ih0, ih1, ih2⟩ := dec_B (S0 := S0) hB hN hL hT3 hT2 F
  refine ⟨?_, ?_, ?_⟩
  ·intro st x c kk r hx hb hc hA h
   rw [sweep_family_decide.f, if_pos (by omega), if_pos (by rw [hA.1]; omega)] at h
   by_cases h0 : rd st (x : Int) = 0
   ·rw [if_pos h0, Int.toNat_natCast, hB] at h
    exact ih1 _ x 0 c kk r hx hc (hA.set x c hx hb) h
   ·rw [if_neg h0] at h
    cases h
    exact hA
  ·intro st x y c kk r hx hc hA h
   rw [l0_eq F st x y N c S0 kk BS LS hB hN hL hx hc] at h
   split at h
   ·rename_i hy
    split at h
    ·rename_i hi
     obtain ⟨b, hb, h⟩ := Option.bind_eq_some_iff.mp h
     have h2 := ih0 st y c kk b hy (by unfold imp at hi; simp only [Bool.and_eq_true] at hi; exact hi.1) hc hA hb
     split at h
     ·exact ih1 _ x (y + 1) c _ r hx hc h2 h
     ·cases h
      exact h2
    ·exact ih1 _ x (y + 1) c _ r hx hc hA h
   ·exact ih2 st c _ 0 kk r hc (hT3 x hx) (hT2 x hx) hA h
  ·intro st c L i kk r hc hl hz hA h
   rw [sweep_family_decide.l1] at h
   by_cases hi : i < L.length
   ·rw [if_pos (by omega), if_pos (by omega), if_pos (by omega)] at h
    have hw : wrap64 ((i : Int) + 1) = ((i + 1 : Nat) : Int) := by rw [w64_small _ (by omega) (by omega)]; omega
    have hm : rd L (i : Int) ∈ L := by
     unfold rd
     rw [Int.toNat_natCast, List.getD_eq_getElem?_getD, List.getElem?_eq_getElem hi]
     exact List.getElem_mem hi
    obtain ⟨n, hn, hz1, hz2⟩ := hz _ hm
    have hv : IntKind.i8.wrap (3 - c) = 3 - c := by rcases hc with rfl | rfl <;> rfl
    rw [hz1, hv, hw] at h
    obtain ⟨b, hb, h⟩ := Option.bind_eq_some_iff.mp h
    have h2 := ih0 st n (3 - c) kk b hn hz2 (by omega) hA hb
    split at h
    ·exact ih2 _ c L (i + 1) _ r hc hl hz h2 h
    ·cases h
     exact h2
   ·rw [if_neg (by omega)] at h
    cases h
    exact hA
end Go.Proofs.YtijfddobandcdaaDoor.Pure
end
section
/- choose from the start: what comes out is a blockage; and something comes out, if there is one. -/
set_option linter.unusedVariables false
namespace Go.Proofs.YtijfddobandcdaaDoor.Pure
open Go.RowKit Go.Proofs.YtijfddobandcdaaDoorW.PrintWords Go.Proofs.YtijfddobandcdaaDoorW.PrintLast Go.Proofs.YtijfddobandcdaaDoorW.PrintMore Go.Proofs.YtijfddobandcdaaDoor.T Go.Proofs.YtijfddobandcdaaDoor.X
theorem chF_B {N : Nat} {BS : List Bool} {LS : List (List Int)} {S0 : List Int} (hB : BS.length = N) (hN : N ≤ 128) (hL : LS.length = N)
  (hT3 : ∀ x, x < N → (rd_L4 LS (x : Int)).length ≤ 1000) (hT2 : ∀ x, x < N → ∀ z ∈ rd_L4 LS (x : Int), ∃ n : Nat, n < N ∧ z = (n : Int) ∧ BS.getD n false = true) (kd : Nat) (kk : Int) :
  ∀ (m : Nat) (st d : List Int), On N BS st → chF kd S0 kk BS LS m st = some (some d) → On N BS d
 | 0, _, _, _, h => by cases h
 | m + 1, st, d, hA, h => by
  simp only [chF] at h
  rw [hB] at h
  have hp := pk_lt BS st N 0 (-1) (by omega) (by omega)
  have hq := pk_open BS st N 0 (-1)
  rw [Nat.zero_add] at hp
  generalize pk BS st N 0 (-1) = X at *
  by_cases hX : X < 0
  ·rw [if_pos hX] at h
   cases h
   exact hA
  ·rw [if_neg hX] at h
   obtain ⟨x, rfl⟩ := Int.eq_ofNat_of_zero_le (show 0 ≤ X by omega)
   have hx : x < N := by omega
   have hb := ((hq (by omega)).resolve_left (by omega)).1
   rw [Int.toNat_natCast] at hb
   have good : ∀ c, (c = 1 ∨ c = 2) → tryC kd S0 kk BS LS (chF kd S0 kk BS LS m) st (x : Int) c = some (some d) → On N BS d := fun c hc h1 => by
    unfold tryC at h1
    obtain ⟨r, hr, h1⟩ := Option.bind_eq_some_iff.mp h1
    have q2 := (dec_B hB hN hL hT3 hT2 kd).1 st x c kk r hx hb hc hA hr
    by_cases q : r.1 = true
    ·rw [if_pos q] at h1
     exact chF_B hB hN hL hT3 hT2 kd kk m _ d q2 h1
    ·rw [if_neg q] at h1
     cases h1
   obtain ⟨o1, h1, hcase⟩ := tailC_some h
   rcases hcase with ⟨d', rfl, e⟩ | ⟨rfl, h⟩
   ·cases e
    exact good 1 (.inl rfl) h1
   ·obtain ⟨o2, h2, hcase2⟩ := tailC_some h
    rcases hcase2 with ⟨d', rfl, e⟩ | ⟨rfl, h⟩
    ·cases e
     exact good 2 (.inr rfl) h2
    ·cases h
theorem othTo_iff (G : List Nat) (k x : Nat) : ∀ (d y z : Nat), ((z : Int) ∈ othTo G k x d y ↔ y ≤ z ∧ z < y + d ∧ sidesB G k x z = true)
 | 0, y, z => by simp [othTo]; omega
 | d + 1, y, z => by
  simp only [othTo]
  have ih := othTo_iff G k x d (y + 1) z
  by_cases h : sidesB G k x y = true
  ·rw [if_pos h, List.mem_cons, ih]
   constructor
   ·rintro (e | ⟨a, b, c⟩)
    ·have : z = y := by omega
     subst this; exact ⟨Nat.le_refl _, by omega, h⟩
    ·exact ⟨by omega, by omega, c⟩
   ·rintro ⟨a, b, c⟩
    by_cases e : z = y
    ·left; rw [e]
    ·right; exact ⟨by omega, by omega, c⟩
  ·rw [if_neg h, ih]
   constructor
   ·rintro ⟨a, b, c⟩; exact ⟨by omega, by omega, c⟩
   ·rintro ⟨a, b, c⟩
    refine ⟨?_, by omega, c⟩
    by_cases e : z = y
    ·subst e; exact (h c).elim
    ·omega
theorem bs_iff {G : List Nat} (hG : Gr 7 G) (k : Nat) {y : Nat} (hy : y < 2 ^ G.length) : (smTo G k (2 ^ G.length) 0).getD y false = true ↔ Sm G k y := by
 rw [smTo_get G k _ 0 y hy, Nat.zero_add, bo_eq hG hy, decide_eq_true_eq]
 exact ⟨fun h => ⟨hy, h⟩, fun h => h.2⟩
theorem ls_eq (G : List Nat) (k : Nat) {x : Nat} (hx : x < 2 ^ G.length) : rd_L4 (otTo G k (2 ^ G.length) 0) (x : Int) = othTo G k x (2 ^ G.length) 0 := by
 have := otTo_get G k (2 ^ G.length) 0 x hx
 rw [Nat.zero_add] at this
 rw [← this]
 unfold rd_L4
 rw [Int.toNat_natCast]
theorem ls_mem {G : List Nat} (hG : Gr 7 G) (k : Nat) {x : Nat} (hx : x < 2 ^ G.length) {z : Int} (hz : z ∈ rd_L4 (otTo G k (2 ^ G.length) 0) (x : Int)) : ∃ n : Nat, z = (n : Int) ∧ Sep G k x n := by
 rw [ls_eq G k hx] at hz
 obtain ⟨n, rfl, hn⟩ := othTo_mem G k x _ _ _ hz
 obtain ⟨_, _, h⟩ := (othTo_iff G k x _ _ _).1 hz
 exact ⟨n, rfl, (sides_sep hG hx (by omega)).1 h⟩
theorem mem_ls {G : List Nat} (hG : Gr 7 G) (k : Nat) {x y : Nat} (h : Sep G k x y) : (y : Int) ∈ rd_L4 (otTo G k (2 ^ G.length) 0) (x : Int) := by
 rw [ls_eq G k h.la]
 exact (othTo_iff G k x _ _ _).2 ⟨Nat.zero_le _, by rw [Nat.zero_add]; exact h.lb, (sides_sep hG h.la h.lb).2 h⟩
theorem imp_iff {G : List Nat} (hG : Gr 7 G) (k : Nat) {x y : Nat} (hy : y < 2 ^ G.length) (c : Int) : imp (smTo G k (2 ^ G.length) 0) c x y = true ↔ Sm G k y ∧ ((c = 1 ∧ Sub y x) ∨ (c = 2 ∧ Sub x y)) := by
 unfold imp
 rw [Bool.and_eq_true, bs_iff hG k hy, Bool.or_eq_true, Bool.and_eq_true, Bool.and_eq_true, beq_iff_eq, beq_iff_eq, beq_iff_eq, beq_iff_eq, sub_diff, sub_diff]
noncomputable def tgt (G : List Nat) (B : Nat → Prop) (x : Nat) : Int := @ite _ (∃ y, y < 2 ^ G.length ∧ Sub x y ∧ B y) (Classical.propDecidable _) 1 2
theorem tgt_or (G : List Nat) (B : Nat → Prop) (x : Nat) : tgt G B x = 1 ∨ tgt G B x = 2 := by unfold tgt; split <;> simp
theorem tgt_one (G : List Nat) (B : Nat → Prop) (x : Nat) : tgt G B x = 1 ↔ ∃ y, y < 2 ^ G.length ∧ Sub x y ∧ B y := by
 unfold tgt
 split
 ·rename_i h; exact ⟨fun _ => h, fun _ => rfl⟩
 ·rename_i h; exact ⟨fun e => absurd e (by decide), fun h' => (h h').elim⟩
theorem tgt_small {G : List Nat} {k : Nat} {B : Nat → Prop} (h : Blk G k B) {x : Nat} (hx : Sm G k x) : tgt G B x = 1 ↔ B x := by
 rw [tgt_one]
 exact ⟨fun ⟨y, _, h2, h3⟩ => h.down y x h3 h2 hx, fun hb => ⟨x, hx.1, Sub.refl x, hb⟩⟩
theorem tgt_imp {G : List Nat} (hG : Gr 7 G) {k : Nat} {B : Nat → Prop} {x y : Nat} (hy : y < 2 ^ G.length) (hi : imp (smTo G k (2 ^ G.length) 0) (tgt G B x) x y = true) : tgt G B y = tgt G B x := by
 obtain ⟨_, h⟩ := (imp_iff hG k hy _).1 hi
 rcases h with ⟨e, h⟩ | ⟨e, h⟩
 ·rw [e, tgt_one]
  obtain ⟨z, h1, h2, h3⟩ := (tgt_one G B x).1 e
  exact ⟨z, h1, h.trans h2, h3⟩
 ·rw [e]
  rcases tgt_or G B y with e2 | e2
  ·obtain ⟨z, h1, h2, h3⟩ := (tgt_one G B y).1 e2
   have := (tgt_one G B x).2 ⟨z, h1, h.trans h2, h3⟩
   omega
  ·exact e2
theorem tgt_sep {G : List Nat} (hG : Gr 7 G) {k : Nat} {B : Nat → Prop} (hB : Blk G k B) {x y : Nat} (h : Sep G k x y) : tgt G B y = 3 - tgt G B x := by
 have h1 := tgt_small hB (h.sm hG)
 have h2 := tgt_small hB ((h.symm hG).sm hG)
 have h3 := hB.one x y h
 rcases tgt_or G B x with e | e <;> rcases tgt_or G B y with e2 | e2
 ·exact absurd (h2.1 e2) (h3.1 (h1.1 e))
 ·omega
 ·omega
 ·have : B x := h3.2 fun hb => by have := h2.2 hb; omega
  have := h1.2 this
  omega
def onesN (st : List Int) : Nat → Nat → List Nat
 | 0, _ => []
 | d + 1, x => if rd st (x : Int) == 1 then x :: onesN st d (x + 1) else onesN st d (x + 1)
theorem ones_gi (st : List Int) : ∀ d x, ones st d x = gi (onesN st d x)
 | 0, _ => rfl
 | d + 1, x => by
  simp only [ones, onesN]
  have ih := ones_gi st d (x + 1)
  split
  ·rw [ih]; rfl
  ·exact ih
theorem onesN_mem (st : List Int) : ∀ d x z, z ∈ onesN st d x ↔ x ≤ z ∧ z < x + d ∧ rd st (z : Int) = 1
 | 0, x, z => by simp [onesN]; omega
 | d + 1, x, z => by
  simp only [onesN]
  have ih := onesN_mem st d (x + 1) z
  by_cases h : rd st (x : Int) = 1
  ·rw [if_pos (by rw [h]; rfl), List.mem_cons, ih]
   constructor
   ·rintro (e | ⟨a, b, c⟩)
    ·subst e; exact ⟨Nat.le_refl _, by omega, h⟩
    ·exact ⟨by omega, by omega, c⟩
   ·rintro ⟨a, b, c⟩
    by_cases e : z = x
    ·exact .inl e
    ·exact .inr ⟨by omega, by omega, c⟩
  ·rw [if_neg (by simpa using h), ih]
   constructor
   ·rintro ⟨a, b, c⟩; exact ⟨by omega, by omega, c⟩
   ·rintro ⟨a, b, c⟩
    refine ⟨?_, by omega, c⟩
    by_cases e : z = x
    ·subst e; exact (h c).elim
    ·omega
theorem onesN_up (st : List Int) : ∀ d x, (onesN st d x).Pairwise (· < ·)
 | 0, _ => List.Pairwise.nil
 | d + 1, x => by
  simp only [onesN]
  split
  ·refine List.pairwise_cons.2 ⟨fun z hz => ?_, onesN_up st d (x + 1)⟩
   have := (onesN_mem st d (x + 1) z).1 hz
   omega
  ·exact onesN_up st d (x + 1)
theorem rd_zero (N : Nat) (z : Int) : rd (List.replicate N (0 : Int)) z = 0 := by
 unfold rd
 rw [List.getD_eq_getElem?_getD, List.getElem?_replicate]
 split <;> rfl
theorem zs_zero (N : Nat) : zs (List.replicate N (0 : Int)) = N := by
 induction N with
 | zero => rfl
 | succ n ih => rw [List.replicate_succ]; simp only [zs]; rw [ih]; simp; omega
theorem blR_eq {G : List Nat} (hG : Gr 7 G) {k m : Nat} (hm : IsVs G m) (hkm : k ≤ m) : ∃ K L, blR K G k = some (gi L, 0) ∧ RL G k L ∧ Blk G k (fun x => x ∈ L) := by
 have hn := hG.most
 obtain ⟨B, hBlk⟩ := blk_of_vs hG (by omega) hm hkm
 have HBI := fun y hy => @bs_iff G hG k y hy
 have HLM := fun x hx z hz => @ls_mem G hG k x hx z hz
 have HML := fun x y h => @mem_ls G hG k x y h
 have HII := fun x y hy c => @imp_iff G hG k x y hy c
 have hB : (smTo G k (2 ^ G.length) 0).length = 2 ^ G.length := smTo_len G k _ _
 have hL : (otTo G k (2 ^ G.length) 0).length = 2 ^ G.length := otTo_len G k _ _
 have h7 := p7 hn
 have hT3 : ∀ x : Nat, x < 2 ^ G.length → (rd_L4 (otTo G k (2 ^ G.length) 0) (x : Int)).length ≤ 1000 := fun x hx => by
  rw [ls_eq G k hx]
  have := othTo_len G k x (2 ^ G.length) 0
  omega
 have hT1 : ∀ x y, x < 2 ^ G.length → y < 2 ^ G.length → imp (smTo G k (2 ^ G.length) 0) (tgt G B x) x y = true → tgt G B y = tgt G B x := fun x y _ hy hi => tgt_imp hG hy hi
 unfold blR
 obtain ⟨o, ho⟩ := chF_F (S0 := gi G) hB h7 hL hT3 (fun x hx z hz => by
  obtain ⟨n, e, h⟩ := HLM x hx z hz
  exact ⟨n, h.lb, e⟩) (2000 * (2 ^ G.length + 1)) (k : Int) (2000 * (2 ^ G.length + 1)) (List.replicate (2 ^ G.length) 0) (by simp) (by rw [zs_zero]; omega) (by rw [zs_zero]; exact Nat.le_refl _)
 have hne := chF_T (S0 := gi G) (T := tgt G B) hB h7 hL (fun x _ => tgt_or G B x) hT1 hT3 (fun x hx z hz => by
  obtain ⟨n, e, h⟩ := HLM x hx z hz
  exact ⟨n, h.lb, e, tgt_sep hG hBlk h⟩) _ _ _ _ o ⟨by simp, fun y _ => .inl (rd_zero _ _)⟩ ho
 cases o with
 | none => exact (hne rfl).elim
 | some d =>
  refine ⟨_, onesN d (2 ^ G.length) 0, by rw [ho, Option.bind_some]; simp only [blOut]; rw [ones_gi], ?_⟩
  obtain ⟨hS, hall⟩ := chF_S (S0 := gi G) hB h7 hL hT3 (fun x hx z hz => by
   obtain ⟨n, e, h⟩ := HLM x hx z hz
   exact ⟨n, h.lb, e⟩) _ _ _ _ d (by simp) ho
  have hOn := chF_B (S0 := gi G) hB h7 hL hT3 (fun x hx z hz => by
   obtain ⟨n, e, h⟩ := HLM x hx z hz
   exact ⟨n, h.lb, e, (HBI n h.lb).2 ((h.symm hG).sm hG)⟩) _ _ _ _ d ⟨by simp, fun y _ h => (h (rd_zero _ _)).elim⟩ ho
  have hmem : ∀ z, z ∈ onesN d (2 ^ G.length) 0 ↔ z < 2 ^ G.length ∧ rd d (z : Int) = 1 := fun z => by
   rw [onesN_mem, Nat.zero_add]
   exact ⟨fun h => h.2, fun h => ⟨Nat.zero_le _, h⟩⟩
  have hnew := fun y hy h => hS.new y hy (rd_zero _ _) h
  have hsm : ∀ x, x ∈ onesN d (2 ^ G.length) 0 → Sm G k x := fun x hx => by
   obtain ⟨h1, h2⟩ := (hmem x).1 hx
   exact (HBI x h1).1 (hOn.2 x h1 (by omega))
  refine ⟨⟨onesN_up _ _ _, fun x hx => ⟨(hsm x hx).1, by rw [bo_eq hG (hsm x hx).1]; exact (hsm x hx).2⟩⟩, hsm, fun X Y hX hs hY => ?_, fun X Y hs => ?_⟩
  ·obtain ⟨h1, h2⟩ := (hmem X).1 hX
   have := (hnew X h1 (by omega)).2.1 Y hY.1
   rw [h2] at this
   exact (hmem Y).2 ⟨hY.1, this ((HII X Y hY.1 1).2 ⟨hY, .inl ⟨rfl, hs⟩⟩)⟩
  ·have hX := hs.sm hG
   have h1 := hall X hs.la ((HBI X hs.la).2 hX)
   obtain ⟨h2, h3⟩ := hnew X hs.la h1
   have h4 := h3.2 _ (HML X Y hs)
   rw [hmem, hmem]
   constructor
   ·rintro ⟨_, e⟩ ⟨_, e2⟩
    omega
   ·intro h
    refine ⟨hs.la, ?_⟩
    rcases h2 with e | e
    ·exact e
    ·exact (h ⟨hs.lb, by omega⟩).elim
end Go.Proofs.YtijfddobandcdaaDoor.Pure
end
section
/- SweepBlockages, without Go and memory: Blockage returns a blockage of an order exactly if the path width is not less than it, or the documented error. -/
set_option linter.unusedVariables false
namespace Go.Proofs.YtijfddobandcdaaDoor.Pure
open Go.RowKit Go.Proofs.YtijfddobandcdaaDoorW.PrintWords Go.Proofs.YtijfddobandcdaaDoorW.PrintLast Go.Proofs.YtijfddobandcdaaDoorW.PrintMore Go.Proofs.YtijfddobandcdaaDoor.T Go.Proofs.YtijfddobandcdaaDoor.X
theorem Blockage_ev {g : List Int} {a : Int} {r : List Int × Int} {K : Nat} (h : sweep_Blockage.f K g a = some r) : Ev (fun k => sweep_Blockage.f k g a) r := Ev.of (sweep_Blockage.mono g a) h
theorem SweepBlockages : ∀ (l0 : List Int) (a1 : Int), l0.length ≤ maxLen → l0.length * 8 ≤ 140737488351232 → (∀ x ∈ l0, (Lit.int .i64 x).wf = true) → (Lit.int .i64 a1).wf = true → ∃ k, lampblacklaw03_SweepBlockages.f k l0 a1 = some true := by
 intro g a _ hg _ _
 apply Ev.rounds
 obtain ⟨h, e, e1, e2, e3⟩ := few_eq g (by omega)
 have hv := valid_ev g (by omega)
 unfold lampblacklaw03_SweepBlockages.f
 refine Ev.bind1 e ?_
 have bad : ∀ g a, Ev (fun k => lampblacklaw03_SweepBlockages.j0 k g a [] 2 true) true := fun g a =>
  Ev.step (f := fun k => (lampblacklaw03_awake.f k).bind fun t472 => some t472) (fun k => by rw [lampblacklaw03_SweepBlockages.j0, if_pos rfl, if_pos (by simp), if_pos rfl]) (Ev.bind awake_ev (Ev.some rfl))
 by_cases hc : chk 7 g = true
 ·obtain ⟨G, rfl, hG⟩ := (chk_iff 7 (by omega) _).1 hc
  have hn := hG.most
  have hlen : (gi G).length < 2 ^ 60 := by rw [gi_length]; omega
  rw [hc] at hv
  rw [e1 hc]
  by_cases ha0 : a < 0
  ·have hcb : sweep_Blockage.f 0 (gi G) a = some ([], 2) := by
    unfold sweep_Blockage.f
    rw [if_pos hlen, if_pos hc, if_pos ha0]
   exact Ev.bind (Blockage_ev hcb) (Ev.bind hv (Ev.if_pos rfl (Ev.if_pos ha0 (bad _ _))))
  ·by_cases ha7 : 7 < a
   ·have hcb : sweep_Blockage.f 0 (gi G) a = some ([], 2) := by
     unfold sweep_Blockage.f
     rw [if_pos hlen, if_pos hc, if_neg ha0, if_pos ha7]
    refine Ev.bind (Blockage_ev hcb) (Ev.bind hv (Ev.if_pos rfl (Ev.if_neg ha0 ?_)))
    rw [decide_eq_true (show a > 7 from ha7)]
    exact bad _ _
   ·obtain ⟨k, rfl⟩ := Int.eq_ofNat_of_zero_le (show 0 ≤ a by omega)
    obtain ⟨L, m, hL, hm, hgr⟩ := layout_eq G hG
    have hp : Ev (fun k => lampblackref03_PathWidth.f k (gi G)) (m : Int) := by
     unfold lampblackref03_PathWidth.f
     exact Ev.bind (refLayout_ev G hG hm hgr) (Ev.some rfl)
    by_cases hmk : (m : Int) < (k : Int)
    ·have hcb : sweep_Blockage.f 0 (gi G) (k : Int) = some ([], 4) := by
      unfold sweep_Blockage.f
      rw [if_pos hlen, if_pos hc, if_neg ha0, if_neg ha7, hL, Option.bind_some, if_pos hmk]
     refine Ev.bind (Blockage_ev hcb) (Ev.bind hv (Ev.if_pos rfl (Ev.if_neg ha0 ?_)))
     rw [decide_eq_false (show ¬ (k : Int) > 7 from ha7)]
     refine Ev.step (fun n => by rw [lampblacklaw03_SweepBlockages.j0, if_neg (by simp)]) ?_
     exact Ev.bind hp (Ev.if_pos hmk (Ev.if_pos (by simp) (Ev.if_pos rfl (Ev.bind awake_ev (Ev.some rfl)))))
    ·obtain ⟨K, L2, hK, hRL, hBl⟩ := blR_eq hG hm (show k ≤ m by omega)
     have hcb : sweep_Blockage.f K (gi G) (k : Int) = some (gi L2, 0) := by
      unfold sweep_Blockage.f
      rw [if_pos hlen, if_pos hc, if_neg ha0, if_neg ha7, hL, Option.bind_some, if_neg hmk, gi_toNat, Int.toNat_natCast]
      exact hK
     have h7 := p7 hn
     have hlen2 : L2.length < 2 ^ 44 := by
      have hl : ∀ (L : List Nat) (lo n : Nat), L.Pairwise (· < ·) → (∀ x ∈ L, lo ≤ x ∧ x < lo + n) → L.length ≤ n := by
       intro L
       induction L with
       | nil => intro lo n _ _; exact Nat.zero_le _
       | cons x L ih =>
        intro lo n hp hx
        obtain ⟨q1, q2⟩ := List.pairwise_cons.1 hp
        have h1 := hx x List.mem_cons_self
        have := ih (x + 1) (lo + n - (x + 1)) q2 (fun y hy => by
         have := q1 y hy
         have := hx y (List.mem_cons_of_mem _ hy)
         omega)
        simp only [List.length_cons]
        omega
      have := hl L2 0 (2 ^ G.length) hRL.up (fun x hx => ⟨Nat.zero_le _, by have := (hRL.sm x hx).1; omega⟩)
      omega
     have hb := isBlk_ev G hG k (by omega) (gi L2) (by rw [gi_length]; exact hlen2)
     rw [(cbR_iff hG k (gi L2)).2 ⟨L2, rfl, hRL, hBl⟩] at hb
     refine Ev.bind (Blockage_ev hcb) (Ev.bind hv (Ev.if_pos rfl (Ev.if_neg ha0 ?_)))
     rw [decide_eq_false (show ¬ (k : Int) > 7 from ha7)]
     refine Ev.step (fun n => by rw [lampblacklaw03_SweepBlockages.j0, if_neg (by simp)]) ?_
     exact Ev.bind hp (Ev.if_neg hmk (Ev.bind hb (Ev.if_pos rfl (Ev.if_pos rfl (Ev.bind awake_ev (Ev.some rfl))))))
 ·have hc' : chk 7 g = false := by simpa using hc
  rw [hc'] at hv
  have hcb : sweep_Blockage.f 0 h a = some ([], 2) := by
   unfold sweep_Blockage.f
   rw [if_pos (by omega), if_neg (by rw [e2 hc']; simp)]
  exact Ev.bind (Blockage_ev hcb) (Ev.bind hv (Ev.if_neg (by simp) (bad _ _)))
end Go.Proofs.YtijfddobandcdaaDoor.Pure
end
