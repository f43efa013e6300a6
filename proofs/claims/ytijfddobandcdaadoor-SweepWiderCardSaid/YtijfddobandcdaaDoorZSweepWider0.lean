/- Part 0 of what SweepWider rests on: contracts of the functions that it reaches, and what they compute, in plain words. -/
import Derived.Test.YtijfddobandcdaaDoorProg
import Derived.Below
import Derived.Deep.Draws
import Derived.Deep.AppendLies
import Derived.Maps.AppendAt
import Derived.OwnWalk
import Derived.Laws.BytesArg
import Derived.Laws.MakeOwn
import Derived.Laws.OwnMore
import Derived.Deep.OwnRows
import Derived.Tactics
import Derived.Lib.ConvBytes
import Derived.Laws.Slices
import Derived.WalkKit
import Derived.KernelRfl
import Derived.RowKit3
import Derived.Deep.LoopGhost
import Derived.Deep.QuietTactic
import Derived.BigQuiet
import Derived.WideLaws
import Derived.Deep.DeepCutAuto
import Derived.Deep.CutBlock
import Derived.Deep.RegionHeld3
import Derived.Laws.Rows
import Derived.Lib.AppendStr
import Derived.ArgAppend
import Derived.Laws.IdiomCopy
import Derived.OrdersHeld
import Derived.Laws.BitsLemmas
import Derived.RowKit
import Derived.Test.YtijfddobandcdaaDoorWWords
import Derived.Test.YtijfddobandcdaaDoorWLast
import Derived.Test.YtijfddobandcdaaDoorWTab
import Derived.Test.YtijfddobandcdaaDoorWQPut
import Derived.Test.YtijfddobandcdaaDoorWApart
import Derived.Test.YtijfddobandcdaaDoorWArr
import Derived.Test.YtijfddobandcdaaDoorWZeros
import Derived.Test.YtijfddobandcdaaDoorWFoot
import Derived.Test.YtijfddobandcdaaDoorWKept
import Derived.Test.YtijfddobandcdaaDoorWShare
import Derived.Test.YtijfddobandcdaaDoorWN
import Derived.Laws.StructEq
import Derived.Test.YtijfddobandcdaaDoorWRepsOne
import Derived.Test.YtijfddobandcdaaDoorWGuard
import Derived.Test.YtijfddobandcdaaDoorWNEv
import Derived.Test.YtijfddobandcdaaDoorWMore
import Derived.Laws.Bits64b
import Derived.Lib.TrailingZeros
import Derived.Test.YtijfddobandcdaaDoorRows
import Derived.ChangeSame
import Derived.ChangeVars
import Derived.JoinedOf
import Derived.LaidLaws
import Derived.LaidHandle
import Derived.Lib.LaidTab
import Derived.Stop.LaidErr
import Derived.RangeFuncNested
import Derived.RangeFuncBound
import Derived.RangeFuncCalls
import Derived.RangeFuncLeaves
import Derived.Shelf.Abstract
import Derived.Shelf.RegionOpen
import Derived.OwnWalkIn
import Derived.TacticsInMore
import Derived.LoopNIn
import Derived.LoopIn
import Derived.OrdersIn
import Derived.Deep.RegionHeld
import Derived.Maps.OwnIn
import Derived.WalkSpells
set_option linter.unusedVariables false
set_option linter.unusedSimpArgs false
namespace Go.Proofs.YtijfddobandcdaaDoor.X
def Qbz (n k : Nat) : Array Bool := ((List.range n).map fun i => k.testBit i).toArray
theorem Qp1 {α : Type} (l : List α) (i : Nat) (a : α) : l.toArray.setIfInBounds i a = (l.set i a).toArray := List.setIfInBounds_toArray ..
theorem Qp2 {α : Type} (a b : α) (t : List α) : (a :: t).set 0 b = b :: t := rfl
theorem Qp3 {α : Type} (a b : α) (t : List α) (n : Nat) : (a :: t).set (n + 1) b = a :: t.set n b := rfl
theorem Qaw {p : Prop} (h : p := by repeat (first | (with_reducible first | exact HB.out | apply below_alloc | apply pw_below_drewN | apply below_drew1) | exact HB.out)) : p := h
theorem Qro {p q : Prop} (h : q) (f : q → p := by intro hz_; (with_reducible repeat (first | apply Kd.R_alloc | apply Kd.R_drewN | apply Kd.R_drew)); exact hz_) : p := f h
theorem Qls {p : Prop} (h : p := by (try simp only [List.map_toArray, List.map_cons, List.map_nil]); first | done | rfl | (simp only [List.length_drop, List.length_take]; rfl)) : p := h
theorem Qlg {p : Prop} (h : p := by repeat (first | (with_reducible exact HGL.out) | (with_reducible exact GL_below HGL.out HB.out) | (with_reducible refine GL_alloc ?_ _) | (with_reducible refine GL_drewN ?_ _) | (with_reducible refine GL_drew ?_))) : p := h
theorem Qsc {p q : Prop} (h : q) (f : q → p := by intro hz_; repeat (first | exact hz_ | (with_reducible refine Kd.C_alloc ?_ _) | (with_reducible refine Kd.C_drewN ?_ _) | (with_reducible refine Kd.C_drew ?_))) : p := f h
end Go.Proofs.YtijfddobandcdaaDoor.X
section
namespace Go.Proofs.YtijfddobandcdaaDoor.X
open Go.RowKit YtijfddobandcdaaDoorW.PrintWords YtijfddobandcdaaDoorW.PrintLast YtijfddobandcdaaDoorW.PrintMore
attribute [local go_sem] max2_int min2_int max_two min_two max_three min_three max_four min_four
def errW : Option Int → Value
 | none => .nilIface
 | some c => .iface 0 (.int .i64 c)
theorem errW_none : errW none = .nilIface := rfl
theorem errW_some (c : Int) : errW (some c) = .iface 0 (.int .i64 c) := rfl
theorem info3 : (Tryd.prog.info? 3).map (fun i => (i.zero, i.size, i.bytes)) = some (some (.int .i64 0), 1, 8) := by kernel_rfl
/-! #### struct type 85 -/
/-! #### struct type 70 -/
/-! #### struct type 117 -/
end Go.Proofs.YtijfddobandcdaaDoor.X
end
section
/- math/bits.TrailingZeros: it returns Lib.ctz 64 x, where its table lies as the program's text lays it (GL). -/
namespace Go.Proofs.YtijfddobandcdaaDoor.X
open Go.RowKit YtijfddobandcdaaDoorW.PrintWords YtijfddobandcdaaDoorW.PrintLast YtijfddobandcdaaDoorW.PrintMore
def GL (w : World) : Prop := ∀ j, j < 64 → w.cell? ⟨1, j, none⟩ = some (.int .u8 ((Lib.deBruijn64tab.getD j 0 : Nat) : Int))
theorem GL_below {w w1 : World} (h : GL w) (hb : Below w.heap.size w w1) : GL w1 := fun j hj => (hb.cell (World.block_lt_of_cell? w _ (h j hj))).trans (h j hj)
theorem GL_alloc {w : World} (h : GL w) (o : Obj) : GL (w.alloc o) := GL_below h (below_alloc (Below.refl _ _) o)
theorem GL_drewN {w : World} (h : GL w) (n : Nat) : GL (w.drewN n) := GL_below h (pw_below_drewN (Below.refl _ _) n)
theorem GL_drew {w : World} (h : GL w) : GL w.drew := GL_below h (below_drew1 (Below.refl _ _))
theorem tz_key (x a : Nat) (hx : x < 18446744073709551616) (hx0 : x ≠ 0) (hlow : x &&& (18446744073709551616 - x) = a) :
  IntKind.u64.wrap (bits BinOp.and IntKind.u64 (x : Int) (IntKind.u64.wrap (-(x : Int))) * 285870213051353865) / 288230376151711744 = ((a * 285870213051353865 % 18446744073709551616 / 288230376151711744 : Nat) : Int) := by
 rw [show IntKind.u64.wrap (-(x : Int)) = ((18446744073709551616 - x : Nat) : Int) by rw [IntKind.wrap_u64]; omega]
 rw [bits_and_u64_nat x _ hx (by omega), hlow, IntKind.wrap_u64]
 omega
set_option maxHeartbeats 1000000 in
theorem tz64_core (x k idx : Nat) (w : World) (hx0 : ((x : Int) == 0) = false)
  (key : IntKind.u64.wrap (bits BinOp.and IntKind.u64 (x : Int) (IntKind.u64.wrap (-(x : Int))) * 285870213051353865) / 288230376151711744 = (idx : Int))
  (hi : idx < 64) (hk : k < 64) (hcell : w.cell? ⟨1, idx, none⟩ = some (.int .u8 k)) :
  Calls Tryd.prog 98 #[.int .u64 x] w fun e w' => e = .returned (.int .i64 k) ∧ w = w' := by
 go_enter Tryd.func98, Tryd.ntmps98
 go_wp2_with (simp only [key])
 go_ret
 exact ⟨rfl, rfl⟩
theorem tz64_zero (w : World) :
  Calls Tryd.prog 98 #[.int .u64 0] w fun e w' => e = .returned (.int .i64 64) ∧ w = w' := by
 go_enter Tryd.func98, Tryd.ntmps98
 go_wp2
 go_ret
 exact ⟨rfl, rfl⟩
theorem tz64 (x : Nat) (hx : x < 18446744073709551616) (w : World) (hT : GL w) :
  Calls Tryd.prog 98 #[.int .u64 x] w fun e w' => e = .returned (.int .i64 (Lib.ctz 64 x)) ∧ w = w' := by
 by_cases hx0 : x = 0
 ·subst hx0
  exact tz64_zero w
 ·obtain ⟨hlow, hk⟩ := Lib.lowest_bit 64 x hx0 hx
  obtain ⟨hi, htab⟩ := Lib.deBruijn64_at _ hk
  have hcell := hT _ hi
  rw [htab] at hcell
  exact tz64_core x _ _ w (by simp; omega) (tz_key x _ hx hx0 hlow) hi hk hcell
def bits_TrailingZeros.f (a : Int) : Option Int := if 0 ≤ a then (if a < 18446744073709551616 then some ((Lib.ctz 64 a.toNat : Nat) : Int) else none) else none
theorem bits_TrailingZeros.exact (a0 : Int) (r : Int) (w : World) (hGL : GL w) (h : bits_TrailingZeros.f a0 = some r) :
  Calls Tryd.prog 92 #[.int .u64 a0] w fun e w' => e = .returned (.int .i64 r) ∧ w = w' := by
 unfold bits_TrailingZeros.f at h
 by_cases h0 : 0 ≤ a0
 ·rw [if_pos h0] at h
  by_cases h1 : a0 < 18446744073709551616
  ·rw [if_pos h1] at h
   have h := Option.some.inj h
   subst h
   obtain ⟨x, rfl⟩ := Int.eq_ofNat_of_zero_le h0
   have hx : x < 18446744073709551616 := by omega
   have HG := Aside0.mk hGL
   clear hGL h0 h1
   rw [Int.toNat_natCast]
   go_enter Tryd.func92, Tryd.ntmps92
   go_wp2_with (go_at_call 98; (with_reducible refine (tz64 _ hx _ HG.out).mono ?_); rintro e w' ⟨rfl, rfl⟩)
   go_ret
   exact ⟨rfl, rfl⟩
  ·rw [if_neg h1] at h
   cases h
 ·rw [if_neg h0] at h
  cases h
theorem bits_TrailingZeros.calls (a0 : Int) (r : Int) (w : World) (hGL : GL w) (h : bits_TrailingZeros.f a0 = some r) :
  Calls Tryd.prog 92 #[.int .u64 a0] w fun e w' => e = .returned (.int .i64 r) ∧ Drawn0 w w' :=
 (bits_TrailingZeros.exact a0 r w hGL h).mono fun e w' h => ⟨h.1, by rw [h.2]; exact Drawn0.refl _⟩
end Go.Proofs.YtijfddobandcdaaDoor.X
end
section
/- What all rows of this seat share: the tables that the rows list, and a world that holds them. -/
namespace Go.Proofs.YtijfddobandcdaaDoor.X
open Go.ChangeShapes Go.WideShapes Go.RowKit
theorem own : ownKnob Tryd.prog.godebug = none := by kernel_rfl
theorem laidOut : laidOutB Tryd.prog = true := by kernel_rfl
def LAID : List (String × DataW Unit) := [("math/bits.deBruijn32tab", Rows.laid_math_bits_deBruijn32tab), ("math/bits.deBruijn64tab", Rows.laid_math_bits_deBruijn64tab)]
theorem g64 : Tryd.prog.globalNamed "math/bits.deBruijn64tab" = some 1 := by kernel_rfl
theorem t64 : (Tryd.prog.globals[1]?).map (·.type) = some 131 := by kernel_rfl
def z64 : List Int := Lib.deBruijn64tab.map fun (x : Nat) => (x : Int)
theorem d64 {H : Type} : (Rows.laid_math_bits_deBruijn64tab : DataW H) = Lib.tabData .u8 z64 := by rfl
theorem gl_of_laid {W : World} (h : laidMetH Tryd.prog LAID W) : GL W := by
 have h0 : laidMet Tryd.prog LAID W := h
 have h1 : laidMet Tryd.prog [("math/bits.deBruijn64tab", Lib.tabData .u8 z64)] W := by
  have := laidMet.tail h0
  rw [d64] at this
  exact this
 have h2 := Lib.tabIs_of_head g64 t64 Tryd.underlying131 (by kernel_rfl) (by kernel_rfl) (by kernel_rfl) h1
 intro j hj
 have := h2.cell g64 j (by simpa [z64, Lib.deBruijn64tab] using hj)
 rw [this]
 congr 2
 unfold z64
 rw [List.getD_eq_getElem?_getD, List.getElem?_map, List.getD_eq_getElem?_getD]
 cases Lib.deBruijn64tab[j]? <;> rfl
noncomputable def laidWorld (os : Os) : World :=
 let w0 := World.holding Tryd.prog os ⟨#[], #[], []⟩
 { w0 with heap := (w0.heap.modify 0 fun
   | .cells _ t frozen => .cells ((Lib.deBruijn32tab.map fun (x : Nat) => Value.int .u8 (x : Int)).toArray) t frozen
   | o => o).modify 1 fun
   | .cells _ t frozen => .cells ((Lib.deBruijn64tab.map fun (x : Nat) => Value.int .u8 (x : Int)).toArray) t frozen
   | o => o }
theorem laidWorld_met (os : Os) (args : Array Value) : laidMetH Tryd.prog LAID ((laidWorld os).forCall (fun _ _ => 0) ⟨#[], args, []⟩).memory :=
 show laidMet Tryd.prog LAID _ from laidMet_of_run' 8 (by kernel_rfl) (by kernel_rfl)
end Go.Proofs.YtijfddobandcdaaDoor.X
end
section
/- Sets as numbers: what Go's bit operations on an int come to, for numbers below 2^62. -/
namespace Go.Proofs.YtijfddobandcdaaDoor.T
open Go.RowKit YtijfddobandcdaaDoorW.PrintWords YtijfddobandcdaaDoorW.PrintLast YtijfddobandcdaaDoorW.PrintMore
def diff (a b : Nat) : Nat := a ^^^ (a &&& b)
theorem diff_testBit (a b i : Nat) : (diff a b).testBit i = (a.testBit i && !b.testBit i) := by
 unfold diff; simp; cases a.testBit i <;> cases b.testBit i <;> rfl
theorem diff_le (a b : Nat) : diff a b ≤ a := by
 have h : diff a b &&& a = diff a b := by
  apply Nat.eq_of_testBit_eq; intro i; simp [diff_testBit]
  cases a.testBit i <;> simp
 rw [← h]; exact Nat.and_le_right
theorem or_lt {a b j : Nat} (ha : a < 2 ^ j) (hb : b < 2 ^ j) : a ||| b < 2 ^ j := Nat.or_lt_two_pow ha hb
theorem i64_small (n : Int) (h0 : 0 ≤ n) (h1 : n < 2 ^ 62) : IntKind.i64.wrap n = n := by rw [IntKind.wrap_i64]; omega
theorem w64_small (n : Int) (h0 : -(2 ^ 62) ≤ n) (h1 : n < 2 ^ 62) : wrap64 n = n := by unfold wrap64; omega
theorem u64_low (a : Nat) (ha : a < 2 ^ 62) : (BitVec.ofInt 64 (a : Int)).toNat = a := by
 rw [BitVec.ofInt_natCast, BitVec.toNat_ofNat]; exact Nat.mod_eq_of_lt (by omega)
theorem b_and (a b : Nat) (ha : a < 2 ^ 62) (hb : b < 2 ^ 62) : Go.bits .and .i64 (a : Int) (b : Int) = ((a &&& b : Nat) : Int) := by
 have hx : a &&& b < 2 ^ 62 := Nat.and_lt_two_pow _ hb
 show IntKind.i64.wrap ((BitVec.ofInt 64 (a : Int) &&& BitVec.ofInt 64 (b : Int)).toNat : Int) = _
 rw [BitVec.toNat_and, u64_low a ha, u64_low b hb]
 exact i64_small _ (by omega) (by omega)
theorem b_or (a b : Nat) (ha : a < 2 ^ 62) (hb : b < 2 ^ 62) : Go.bits .or .i64 (a : Int) (b : Int) = ((a ||| b : Nat) : Int) := by
 have hx : a ||| b < 2 ^ 62 := Nat.or_lt_two_pow ha hb
 show IntKind.i64.wrap ((BitVec.ofInt 64 (a : Int) ||| BitVec.ofInt 64 (b : Int)).toNat : Int) = _
 rw [BitVec.toNat_or, u64_low a ha, u64_low b hb]
 exact i64_small _ (by omega) (by omega)
theorem b_andNot (a b : Nat) (ha : a < 2 ^ 62) (hb : b < 2 ^ 62) : Go.bits .andNot .i64 (a : Int) (b : Int) = ((diff a b : Nat) : Int) := by
 have hx : diff a b < 2 ^ 62 := Nat.lt_of_le_of_lt (diff_le a b) ha
 show IntKind.i64.wrap ((BitVec.ofInt 64 (a : Int) &&& ~~~ BitVec.ofInt 64 (b : Int)).toNat : Int) = _
 have e : (BitVec.ofInt 64 (a : Int) &&& ~~~ BitVec.ofInt 64 (b : Int)).toNat = diff a b := by
  apply Nat.eq_of_testBit_eq
  intro i
  rw [diff_testBit, BitVec.testBit_toNat, BitVec.getLsbD_and, BitVec.getLsbD_not, ← BitVec.testBit_toNat, ← BitVec.testBit_toNat, u64_low a ha, u64_low b hb]
  by_cases hi : i < 64
  ·simp [hi]
  ·have : a.testBit i = false := Nat.testBit_lt_two_pow (Nat.lt_of_lt_of_le ha (Nat.pow_le_pow_right (by omega) (by omega)))
   simp [this]
 rw [e]
 exact i64_small _ (by omega) (by omega)
theorem s_one (i : Nat) (hi : i < 62) : shl .i64 1 (i : Int) = ((2 ^ i : Nat) : Int) := by
 have h1 : 2 ^ i < 2 ^ 62 := Nat.pow_lt_pow_right (by omega) hi
 unfold shl
 rw [show min (i : Int).toNat IntKind.i64.bits = i by simp [IntKind.bits]; omega, Int.one_mul]
 rw [show ((2 : Int) ^ i) = ((2 ^ i : Nat) : Int) by simp]
 exact i64_small _ (Int.natCast_nonneg _) (by omega)
theorem s_shr (a i : Nat) (hi : i < 62) : shr .i64 (a : Int) (i : Int) = ((a / 2 ^ i : Nat) : Int) := by
 unfold shr
 rw [show min (i : Int).toNat IntKind.i64.bits = i by simp [IntKind.bits]; omega]
 simp
theorem bit_at (a i : Nat) (ha : a < 2 ^ 62) (hi : i < 62) : Go.bits .and .i64 (shr .i64 (a : Int) (i : Int)) 1 = ((a.testBit i).toNat : Int) := by
 rw [s_shr a i hi]
 have h1 : a / 2 ^ i < 2 ^ 62 := Nat.lt_of_le_of_lt (Nat.div_le_self _ _) ha
 have := b_and (a / 2 ^ i) 1 h1 (by omega)
 rw [show ((1 : Nat) : Int) = 1 from rfl] at this
 rw [this, Nat.and_one_is_mod, Nat.testBit_eq_decide_div_mod_eq]
 by_cases h : a / 2 ^ i % 2 = 1
 ·simp [h]
 ·have : a / 2 ^ i % 2 = 0 := by omega
  simp [this]
theorem bit_one (a i : Nat) (ha : a < 2 ^ 62) (hi : i < 62) : Go.bits .and .i64 (shr .i64 (a : Int) (i : Int)) 1 = 1 ↔ a.testBit i = true := by
 rw [bit_at a i ha hi]; cases a.testBit i <;> simp
def gi (l : List Nat) : List Int := l.map fun (x : Nat) => (x : Int)
theorem gi_length (l : List Nat) : (gi l).length = l.length := by simp [gi]
theorem rd_gi (l : List Nat) (i : Nat) : rd (gi l) (i : Int) = ((l.getD i 0 : Nat) : Int) := by
 unfold rd gi
 simp only [Int.toNat_natCast, List.getD_eq_getElem?_getD, List.getElem?_map]
 cases l[i]? <;> rfl
theorem gi_set (l : List Nat) (i x : Nat) : (gi l).set i (x : Int) = gi (l.set i x) := by simp [gi, List.map_set]
theorem gi_nonneg (l : List Int) (h : ∀ x ∈ l, 0 ≤ x) : ∃ m : List Nat, l = gi m := by
 refine ⟨l.map Int.toNat, ?_⟩
 unfold gi
 rw [List.map_map]
 conv => lhs; rw [← List.map_id l]
 apply List.map_congr_left
 intro x hx
 have := h x hx
 simp; omega
theorem testBit_ge {a n i : Nat} (h : a < 2 ^ n) (hi : n ≤ i) : a.testBit i = false := Nat.testBit_lt_two_pow (Nat.lt_of_lt_of_le h (Nat.pow_le_pow_right (by omega) hi))
end Go.Proofs.YtijfddobandcdaaDoor.T
end
section
/- sweep.nodes: what a range over it goes through: the nodes of a set, rising; and the law of a range over it: the iterator keeps the set that is left in a variable of its own. -/
namespace Go.Proofs.YtijfddobandcdaaDoor.X
open Go.RowKit Go.Shelf YtijfddobandcdaaDoorW.PrintWords YtijfddobandcdaaDoorW.PrintLast YtijfddobandcdaaDoorW.PrintMore YtijfddobandcdaaDoor.T
attribute [local go_sem] Oper.semAt_some
def rest (s : Nat) : Nat := s &&& (s - 1)
theorem rest_lt (s : Nat) (h : 0 < s) : rest s < s := Nat.lt_of_le_of_lt Nat.and_le_right (by omega)
theorem tz_nat (s : Nat) (h : s < 2 ^ 62) : bits_TrailingZeros.f (s : Int) = some ((Lib.ctz 64 s : Nat) : Int) := by
 unfold bits_TrailingZeros.f
 rw [if_pos (by omega), if_pos (by omega), Int.toNat_natCast]
theorem rest_bits (s : Nat) (h0 : 0 < s) (h : s < 2 ^ 62) : Go.bits .and .i64 (s : Int) ((s : Int) - 1) = ((rest s : Nat) : Int) := by
 rw [show (s : Int) - 1 = ((s - 1 : Nat) : Int) by omega, b_and _ _ h (by omega)]
 rfl
set_option maxHeartbeats 2000000 in
theorem nodes_in (n l c : Nat) (h1 : 1 ≤ n) (w0 : World) (hGL : GL w0) (hc0 : w0.heap.size ≤ c) (J : Nat → World → Prop) (Jx : World → Prop)
  (hJB : ∀ s W, J s W → Below w0.heap.size w0 W) (hJc : ∀ s W v, J s W → J s (W.setCell ⟨c, 0, none⟩ v))
  (hY : ∀ s W, J s W → 0 < s → s < 2 ^ 62 → YieldAt Fence.wide (n - 1) Tryd.prog l #[.int .i64 ((Lib.ctz 64 s : Nat) : Int)] W fun e W' =>
   (e = .returned (.bool true) ∧ J (rest s) W' ∧ W'.heap[c]? = W.heap[c]?) ∨ (e = .returned (.bool false) ∧ Jx W'))
  (s : Nat) (hs : s < 2 ^ 62) (W : World) (hc : Boxed W c 3 (.int .i64 s)) (h0 : J s W) :
  CallsIn Fence.wide n Tryd.prog 91 #[.func (.yield l) #[] #[], .pointer (some ⟨c, 0, none⟩)] W fun e W' => (∃ v, e = .returned v) ∧ (J 0 W' ∨ Jx W') := by
 refine callsIn_of_wp Tryd.func91 rfl trivial ?_ rfl
 simp only [Tryd.ntmps91, List.size_toArray, List.length_cons, List.length_nil, Nat.reduceAdd, Nat.reduceSub, Array.replicate_succ, Array.replicate_zero, List.push_toArray, List.append_toArray, List.nil_append, List.cons_append]
 gi_wp2
 gi_loopw [3] (fun _ wr => ∃ z : Nat, z < 2 ^ 62 ∧ Boxed wr c 3 (.int .i64 z) ∧ J z wr) (fun _ wr => match wr.cell? ⟨c, 0, none⟩ with | some (.int _ z) => z.toNat | _ => 0)
 case atStart => exact ⟨s, hs, hc, h0⟩
 case round =>
  obtain ⟨z, hz, hb, hj⟩ := hrel
  have hbc := hb.cell
  have hbf := hb.frozen
  by_cases hz0 : z = 0
  ·subst hz0
   gi_wp2
   go_end0
   exact ⟨⟨_, rfl⟩, .inl hj⟩
  ·have hne : ((z : Int) == 0) = false := by simp; omega
   have hgl : GL wr := GL_below hGL (hJB _ _ hj)
   have hr := rest_lt z (by omega)
   obtain ⟨fn, tmps, assign, body, hy, hR⟩ := hY z wr hj (by omega) hz
   gi_wp2
   refine ⟨trivial, ?_⟩
   refine (callsIn_wide.2 (bits_TrailingZeros.exact _ _ _ hgl (tz_nat z hz))).mono ?_
   rintro e w' ⟨rfl, rfl⟩
   gi_wp2
   refine hR.mono ?_
   rintro e W3 (⟨rfl, hj3, hk3⟩ | ⟨rfl, hx3⟩)
   ·have hb3 : Boxed W3 c 3 (.int .i64 z) := hk3.trans hb
    have hc3 := hb3.cell
    have hf3 := hb3.frozen
    gi_wp2
    rw [rest_bits z (by omega) hz]
    go_roundw
    case rel =>
     repeat (refine Exists.intro ?_ (And.intro ?_ rfl))
     exact ⟨rest z, by omega, hb3.set _, hJc _ _ _ hj3⟩
    case measure =>
     rw [(hb3.set (.int .i64 (rest z : Nat))).cell, hbc]
     simp
     omega
   ·gi_wp2
    refine bodyPost_ret (results_none rfl _ _ _) rfl ?_
    exact ⟨⟨_, rfl⟩, .inr hx3⟩
def roundEnds (c : Nat) (I : Nat → World → Prop) (Ix : Code → World → Prop) (s : Nat) (W : World) : Exit → Act → World → Prop
 | .normal, _, V => KeepsOthers W V ∧ V.heap[c]? = W.heap[c]? ∧ I (rest s) V
 | .ret, _, V => KeepsOthers W V ∧ Ix .ret V
 | .exit id, _, V => KeepsOthers W V ∧ Ix (.exit id) V
 | .goto t, _, V => KeepsOthers W V ∧ Ix (.goto t) V
 | .panic _, _, _ => False
 | .outgrown, _, _ => False
def Books (B c : Nat) (W : World) (row : Option Nat) : Prop := ∀ r, row = some r → r = c ∨ (B ≤ r ∧ ∃ o : Obj, W.heap[r]? = some o ∧ o.isCells = false)
set_option maxHeartbeats 1000000 in
theorem range_nodes {p : Tmp} {assign body : Code} {Q : Exit → Act → World → Prop} {a : Act} {w : World} {n : Nat} (h2 : 2 ≤ n) {g : Operand} {c : Nat}
  (hg : a.eval g = .func (.func 91) #[] #[.pointer (some ⟨c, 0, none⟩)]) (w0 : World) (hGL : GL w0) (hc0 : w0.heap.size ≤ c) (s : Nat) (hs : s < 2 ^ 62) (hbox : Boxed w c 3 (.int .i64 s))
  (I : Nat → World → Prop) (Ix : Code → World → Prop) (hIB : ∀ s W, I s W → Below w0.heap.size w0 W)
  (hI : ∀ s W V row, I s W → W.grownBy V row → Books w.heap.size c W row → I s V)
  (hIx : ∀ x W V row, Ix x W → W.grownBy V row → Books w.heap.size c W row → Ix x V) (h0 : I s w) (a1 : Int → Act)
  (hassign : ∀ (l : Nat) (x : Int) (W : World) (K : Act → World → Prop), K (a1 x) W →
   assign.wpIn (Fence.wide.inRound l) (n - 1 - 1) Tryd.prog (Exit.then K (fun _ _ _ => False)) { tmps := ((#[p] : Array Tmp).zip #[.int .i64 x]).foldl (fun t (p, v) => t.setIfInBounds p v) a.tmps, defers := [] } W)
  (hbody : ∀ (l s : Nat) (W : World), I s W → 0 < s → s < 2 ^ 62 → body.wpIn (Fence.wide.inRound l) (n - 1 - 1) Tryd.prog (roundEnds c I Ix s W) (a1 ((Lib.ctz 64 s : Nat) : Int)) W)
  (hdone : ∀ (D : Nat) (W : World), w.heap.size ≤ D → I 0 W → W.heap[D]? = some (.deferred (some [])) → Q .normal { a with defers := { target := .collected D, args := #[] } :: a.defers } W)
  (hstop : ∀ (D : Nat) (x : Code) (W : World), w.heap.size ≤ D → Ix x W → W.heap[D]? = some (.deferred (some [])) → x.wpIn Fence.wide n Tryd.prog Q { a with defers := { target := .collected D, args := #[] } :: a.defers } W) :
  (Code.rangeFunc g #[p] assign body).wpIn Fence.wide n Tryd.prog Q a w := by
 have hcw : c < w.heap.size := hbox.lt
 refine wpIn_rangeFunc fun fn _ => ?_
 generalize hB : w.heap.size = B at *
 let R : LoopState → Option Code → Obj := fun st pe => .loop { state := st, pending := pe, fn := fn, tmps := a.tmps, params := #[p], assign := assign, body := body, defers := B }
 have putI : ∀ {s : Nat} {W : World} {o : Obj} (o2 : Obj), I s W → W.heap[B + 1]? = some o → o.isCells = false → I s (W.putObj (B + 1) o2) := fun o2 h hl ho =>
  hI _ _ _ _ h (grownBy_putObj' _ _ _) (fun r e => by cases e; exact .inr ⟨by omega, _, hl, ho⟩)
 have putIx : ∀ {x : Code} {W : World} {o : Obj} (o2 : Obj), Ix x W → W.heap[B + 1]? = some o → o.isCells = false → Ix x (W.putObj (B + 1) o2) := fun o2 h hl ho =>
  hIx _ _ _ _ h (grownBy_putObj' _ _ _) (fun r e => by cases e; exact .inr ⟨by omega, _, hl, ho⟩)
 have allocI : ∀ {s : Nat} {W : World} (o : Obj), I s W → I s (W.alloc o) := fun o h => hI _ _ _ _ h (World.grownBy_alloc _ o none) (fun r e => by cases e)
 obtain ⟨W1, hW1⟩ : ∃ W1, (w.alloc (.deferred (some []))).alloc (R .ready none) = W1 := ⟨_, rfl⟩
 have hL1 : W1.heap[B + 1]? = some (R .ready none) := by
  have := World.alloc_heap_new (w.alloc (.deferred (some []))) (R .ready none)
  rw [World.size_alloc, hB, hW1] at this
  exact this
 have hD1 : W1.heap[B]? = some (.deferred (some [])) := by
  rw [← hW1, Below.heap_alloc _ _ _ (by simp [hB]), ← hB]
  exact World.alloc_heap_new w _
 have hbox1 : Boxed W1 c 3 (.int .i64 s) := by rw [← hW1]; exact (hbox.alloc _).alloc _
 have hI1 : I s W1 := by rw [← hW1]; exact allocI _ (allocI _ h0)
 refine ⟨B + 1, [{ target := .collected B, args := #[] }], W1, { target := .fn (.func 91) #[.pointer (some ⟨c, 0, none⟩)], args := #[.func (.yield (B + 1)) #[] #[]] }, W1, 91,
  #[.func (.yield (B + 1)) #[] #[], .pointer (some ⟨c, 0, none⟩)], W1, ?_, ?_, fun _ _ => trivial, ?_, fun _ => by omega, ?_⟩
 ·have := run_enterLoop_outer (P := Tryd.prog) (w := w) fn a.tmps #[p] assign body
  rw [hB] at this
  rw [← hW1]
  exact this
 ·simp only [resolve, hg]
  simp [go_sem]
 ·simp [invoke, go_sem, enters_of Tryd.func91 (by kernel_rfl) rfl]
 refine (nodes_in (n - 1) (B + 1) c (by omega) w0 hGL hc0
  (fun z W => I z W ∧ W.heap[B + 1]? = some (R .ready none) ∧ W.heap[B]? = some (.deferred (some [])))
  (fun W => ∃ x, Ix x W ∧ W.heap[B + 1]? = some (R .done (some x)) ∧ W.heap[B]? = some (.deferred (some [])))
  (fun z W h => hIB z W h.1)
  (fun z W v h => ⟨hI _ _ _ _ h.1 (grownBy_setCell' W c v) (fun r e => by cases e; exact .inl rfl), (Below.heap_setCell W ⟨c, 0, none⟩ v _ (by simp; omega)).trans h.2.1, (Below.heap_setCell W ⟨c, 0, none⟩ v _ (by simp; omega)).trans h.2.2⟩)
  ?_ s hs W1 hbox1 ⟨hI1, hL1, hD1⟩).mono ?_
 ·rintro z W ⟨hi, hl, hd⟩ hz hz2
  have hlt : B + 1 < W.heap.size := (Array.getElem?_eq_some_iff.1 hl).1
  have hl2 : (W.putObj (B + 1) (R .busy none)).heap[B + 1]? = some (R .busy none) := World.putObj_heap_same hlt
  have hd2 : (W.putObj (B + 1) (R .busy none)).heap[B]? = some (.deferred (some [])) := (World.putObj_heap_other (by omega)).trans hd
  refine ⟨fn, _, assign, body, run_yield hl rfl, roundIn_of_wpIn trivial (hassign (B + 1) ((Lib.ctz 64 z : Nat) : Int) W _ ?rd)⟩
  refine ⟨_, run_beginRound hl rfl, ?_⟩
  have ends : ∀ (j : Option Code) (V : World), KeepsOthers (W.putObj (B + 1) (R .busy none)) V →
    (Instr.endRound (B + 1) j).run Tryd.prog V = .ok (.bool j.isNone) (V.putObj (B + 1) (R (if j.isNone then .ready else .done) j)) ∧ V.heap[B + 1]? = some (R .busy none) ∧
    (V.putObj (B + 1) (R (if j.isNone then .ready else .done) j)).heap[B + 1]? = some (R (if j.isNone then .ready else .done) j) ∧
    (V.putObj (B + 1) (R (if j.isNone then .ready else .done) j)).heap[B]? = some (.deferred (some [])) := fun j V hk => by
   have h3 := hk.same _ _ hl2 rfl
   exact ⟨run_endRound j h3, h3, World.putObj_heap_same (Array.getElem?_eq_some_iff.1 h3).1, (World.putObj_heap_other (by omega)).trans (hk.same _ _ hd2 rfl)⟩
  refine wpIn_mono (hbody _ z _ (putI _ hi hl rfl) hz hz2) ?_
  rintro e a3 V hp
  cases e with
  | normal =>
   obtain ⟨hk, hcv, hi3⟩ := hp
   obtain ⟨hr, h3, h4, h5⟩ := ends none V hk
   refine ⟨_, _, hr, .inl ⟨rfl, ⟨putI _ hi3 h3 rfl, h4, h5⟩, ?_⟩⟩
   rw [World.putObj_heap_other (by omega), hcv, World.putObj_heap_other (by omega)]
  | ret =>
   obtain ⟨hr, h3, h4, h5⟩ := ends (some .ret) V hp.1
   exact ⟨_, _, hr, .inr ⟨rfl, .ret, putIx _ hp.2 h3 rfl, h4, h5⟩⟩
  | exit id =>
   obtain ⟨hr, h3, h4, h5⟩ := ends (some (.exit id)) V hp.1
   exact ⟨_, _, hr, .inr ⟨rfl, .exit id, putIx _ hp.2 h3 rfl, h4, h5⟩⟩
  | goto t =>
   obtain ⟨hr, h3, h4, h5⟩ := ends (some (.goto t)) V hp.1
   exact ⟨_, _, hr, .inr ⟨rfl, .goto t, putIx _ hp.2 h3 rfl, h4, h5⟩⟩
  | panic ch => exact hp.elim
  | outgrown => exact hp.elim
 ·rintro e W2 ⟨⟨v, rfl⟩, ⟨hi, hl, hd⟩ | ⟨x, hi, hl, hd⟩⟩
  ·exact ⟨none, _, run_endLoop hl (by simp), hdone B _ (Nat.le_refl _) (putI _ hi hl rfl) ((World.putObj_heap_other (by omega)).trans hd)⟩
  ·exact ⟨some x, _, run_endLoop hl (by simp), hstop B x _ (Nat.le_refl _) (putIx _ hi hl rfl) ((World.putObj_heap_other (by omega)).trans hd)⟩
end Go.Proofs.YtijfddobandcdaaDoor.X
end
section
/- A region that draws its order, in a round of a range over a function: whatever the plain walk shows of it holds there. -/
namespace Go.Proofs.YtijfddobandcdaaDoor.X
open Go.RowKit
def noDefer (ops : Array Oper) : Bool := ops.all fun o => match o.op with | .defer _ => false | _ => true
theorem wpOpIn_of_wpOp {l n : Nat} (h1 : 1 ≤ n) {P : Program} {ops : Array Oper} {Q : Exit → Act → World → Prop} (hd : noDefer ops = true) (hQ : ¬ LetsOut Q) (i : Nat) (K K' : Act → World → Prop) (hK : ∀ a w, K a w → K' a w) (a : Act) (w : World)
  (h : wpOp P ops Q i K a w) : wpOpIn (Fence.wide.inRound l) n P ops Q i K' a w := by
 unfold wpOp at h
 unfold wpOpIn
 cases ho : ops[i]? with
 | none => rw [ho] at h; exact hK _ _ h
 | some o =>
  rw [ho] at h
  simp only at h ⊢
  split at h
  ·rename_i hw
   rw [if_pos hw]
   refine ⟨fun _ _ => trivial, ?_⟩
   have hno : ∀ c, o.op ≠ .defer c := fun c hc => by
    unfold noDefer at hd
    rw [Array.all_eq_true] at hd
    obtain ⟨hi, he⟩ := Array.getElem?_eq_some_iff.1 ho
    have := hd i hi
    rw [he, hc] at this
    cases this
   rw [Oper.semAt_eq _ _ _ hno]
   rcases h with h | ⟨_, h⟩
   ·unfold Oper.wp at h
    generalize (execOp a.eval o).run P w = r at h
    cases r with
    | ok x w' =>
     cases x with
     | value v => exact hK _ _ h
     | skip => exact hK _ _ h
     | defer d => exact hK _ _ h
     | enter f args =>
      refine ⟨fun _ => h1, CallsIn.inRound l (callsIn_wide.2 (Calls.mono h ?_))⟩
      intro e w2 h2
      cases e with
      | returned v => exact hK _ _ h2
      | panicked ch => exact h2
      | outgrown => exact h2
     | row r args =>
      exact ⟨fun _ => h1, fun c cs _ => let ⟨v, w2, h2, s⟩ := h c cs; ⟨v, w2, hK _ _ h2, stepsIn_wide.2 s⟩⟩
     | _ => exact h.elim
    | halt x w' =>
     cases x with
     | panic v => exact h
     | _ => exact h.elim
   ·exact (hQ h).elim
  ·rename_i hw
   rw [if_neg hw]
   exact ⟨fun _ _ => trivial, hK _ _ h⟩
theorem wpAnyIn_of_wpAny {l n : Nat} (h1 : 1 ≤ n) {P : Program} {md : Region.Mode} {ops : Array Oper} {Q : Exit → Act → World → Prop} (hd : noDefer ops = true) (hQ : ¬ LetsOut Q) : ∀ (fuel : Nat) (listed : Array Bool) (a : Act) (w : World),
  wpAny P md ops Q fuel listed a w → wpAnyIn (Fence.wide.inRound l) n P md ops Q fuel listed a w := by
 intro fuel
 induction fuel with
 | zero => exact fun _ _ _ h => h
 | succ fuel ih => exact fun _ _ _ h => ⟨h.1, fun i hi => wpOpIn_of_wpOp h1 hd hQ i _ _ (fun a w hk => ih _ a w hk) _ _ (h.2 i hi)⟩
theorem region_round {l n : Nat} (h1 : 1 ≤ n) {P : Program} {ops : Array Oper} {Q : Exit → Act → World → Prop} {id : Nat} {a : Act} {w : World} (hm : P.follows .mixedOrders = true) (hd : noDefer ops = true) (hQ : ¬ LetsOut Q)
  (h : wpAny P .any ops Q ops.size (Array.replicate ops.size false) a w.drew) : (Code.region id ops true).wpIn (Fence.wide.inRound l) n P Q a w :=
 wpIn_region_any hm (wpAnyIn_of_wpAny h1 hd hQ _ _ _ _ h)
end Go.Proofs.YtijfddobandcdaaDoor.X
end
section
/- sweep.nodes and (sweep.town).border, by hand: a range over an iterator that keeps what is left in a variable. -/
namespace Go.Proofs.YtijfddobandcdaaDoor.X
open Go.RowKit Go.Shelf YtijfddobandcdaaDoorW.PrintWords YtijfddobandcdaaDoorW.PrintLast YtijfddobandcdaaDoorW.PrintMore YtijfddobandcdaaDoor.T
attribute [local go_sem] Oper.semAt_some
theorem sweep_nodes.calls (s : Int) (w : World) :
  Calls Tryd.prog 72 #[.int .i64 s] w fun e w' => e = .returned (.func (.func 91) #[] #[.pointer (some ⟨w.heap.size, 0, none⟩)]) ∧ w' = w.alloc (.cells #[.int .i64 s] 3) := by
 go_enter Tryd.func72, Tryd.ntmps72
 go_wp2
 go_ret
 exact ⟨rfl, rfl⟩
def bordTo (t : List Int) (S : Int) : Nat → Nat → Int → Option Int
 | 0, _, _ => none
 | k + 1, s, out => if s = 0 then some out else if Lib.ctz 64 s < t.length then bordTo t S k (rest s) (if (Go.bits .andNot .i64 (rd t ((Lib.ctz 64 s : Nat) : Int)) S != 0) = true then Go.bits .or .i64 out (shl .i64 1 ((Lib.ctz 64 s : Nat) : Int)) else out) else none
def sweep_town_border.f (l0 : List Int) (a1 : Int) : Option Int := if 0 ≤ a1 then (if a1 < 2 ^ 62 then bordTo l0 a1 64 a1.toNat 0 else none) else none
theorem reads_at {w : World} {A : Option Addr} {l : List Int} (h : Kd.C (Kd.int .i64) w A l.length l) (k : Nat) (hk : k < l.length) : ∃ ad, A = some ad ∧ w.cell? (ad.add k) = some (.int .i64 (rd l (k : Int))) := by
 obtain ⟨ad, e, hx⟩ := Kd.at_int h (k : Int) (by omega) (by omega)
 exact ⟨ad, e, by simpa using hx⟩
theorem shl_min (v : Nat) : shl .i64 1 (v : Int) = IntKind.i64.wrap (2 ^ min v 64) := by
 unfold shl
 simp [IntKind.bits]
set_option maxHeartbeats 4000000 in
set_option maxRecDepth 100000 in
theorem sweep_town_border.calls (A0 : Option Addr) (c0 : Nat) (l0 : List Int) (a1 : Int) (r : Int) (w : World) (hGL : GL w) (hr0 : Kd.C (Kd.int .i64) w A0 l0.length l0) (hc0 : l0.length ≤ c0) (h : sweep_town_border.f l0 a1 = some r) :
  Calls Tryd.prog 73 #[.slice A0 l0.length c0, .int .i64 a1] w fun e w' => e = .returned (.int .i64 r) ∧ Below w.heap.size w w' := by
 unfold sweep_town_border.f at h
 by_cases h1 : 0 ≤ a1
 ·rw [if_pos h1] at h
  by_cases h2 : a1 < 2 ^ 62
  ·rw [if_pos h2] at h
   obtain ⟨S, rfl⟩ := Int.eq_ofNat_of_zero_le h1
   rw [Int.toNat_natCast] at h
   have hS : S < 2 ^ 62 := by omega
   have HR := Aside0.mk hr0
   have HF := Aside0.mk h
   clear hr0 h h2
   refine (callsIn_wide (n := 4)).1 ?_
   refine callsIn_of_wp_marks Tryd.func73 rfl trivial ?_ rfl
   simp only [Tryd.ntmps73, List.size_toArray, List.length_cons, List.length_nil, Nat.reduceAdd, Nat.reduceSub, Array.replicate_succ, Array.replicate_zero, List.push_toArray, List.append_toArray, List.nil_append, List.cons_append]
   gi_wp2_with (refine ⟨trivial, ?_⟩; refine (callsIn_wide.2 (sweep_nodes.calls _ _)).mono ?_; rintro e w' ⟨rfl, rfl⟩)
   let act : Int → Act := fun x => { tmps := #[.slice A0 l0.length c0, .int .i64 (S : Int), .pointer (some ⟨w.heap.size, 0, none⟩), .pointer (some ⟨w.heap.size + 1, 0, none⟩), .int .i64 0, .pointer (some ⟨w.heap.size + 2, 0, none⟩), .int .i64 x, .int .i64 (S : Int), .func (.func 91) #[] #[.pointer (some ⟨w.heap.size + 3, 0, none⟩)], .int .i64 x, undef, undef, undef, undef, undef, undef, undef, undef, undef, undef, undef, undef], defers := [] }
   refine range_nodes (by omega) (c := w.heap.size + 3) rfl w hGL (by omega) S hS ?box
    (fun z W => (∃ (out : Int) (k : Nat), bordTo l0 S k z out = some r ∧ Boxed W (w.heap.size + 2) 3 (.int .i64 out)) ∧ Boxed W w.heap.size 76 (.slice A0 l0.length c0) ∧ Boxed W (w.heap.size + 1) 3 (.int .i64 (S : Int)) ∧ Below w.heap.size w W)
    (fun _ _ => False) (fun _ _ h => h.2.2.2) ?hI (fun _ _ _ _ h _ _ => h) ?h0 act ?assign ?body ?done (fun _ _ _ _ h _ => h.elim)
   case box => simpa using Boxed.new (((w.alloc (Obj.cells #[Value.slice A0 l0.length c0] 76)).alloc (Obj.cells #[Value.int IntKind.i64 (S : Int)] 3)).alloc (Obj.cells #[Value.int IntKind.i64 0] 3)) 3 (.int .i64 (S : Int))
   case hI =>
    rintro z W V row ⟨⟨out, k, hf, hb⟩, ht, hs, hB⟩ hg hrow
    have ne : ∀ b, b < w.heap.size + 3 → some b ≠ row := fun b hb e => by
     rcases hrow b e.symm with h | ⟨h, _⟩
     ·omega
     ·simp at h; omega
    refine ⟨⟨out, k, hf, hb.kept hg (ne _ (by omega))⟩, ht.kept hg (ne _ (by omega)), hs.kept hg (ne _ (by omega)), hB.grown hg hB.size (fun j e => ?_)⟩
    rcases hrow j e with h | ⟨h, _⟩
    ·omega
    ·simp at h; omega
   case h0 =>
    refine ⟨⟨0, 64, HF.out, ?_⟩, ?_, ?_, ?_⟩
    ·simpa using (Boxed.new ((w.alloc (Obj.cells #[Value.slice A0 l0.length c0] 76)).alloc (Obj.cells #[Value.int IntKind.i64 (S : Int)] 3)) 3 (.int .i64 0)).alloc (Obj.cells #[Value.int IntKind.i64 (S : Int)] 3)
    ·exact (((Boxed.new w 76 (.slice A0 l0.length c0)).alloc _).alloc _).alloc _
    ·simpa using ((Boxed.new (w.alloc (Obj.cells #[Value.slice A0 l0.length c0] 76)) 3 (.int .i64 (S : Int))).alloc (Obj.cells #[Value.int IntKind.i64 0] 3)).alloc (Obj.cells #[Value.int IntKind.i64 (S : Int)] 3)
    ·exact below_alloc (below_alloc (below_alloc (below_alloc (Below.refl _ _) _) _) _) _
   case assign =>
    intro l x W K hK
    gi_wp2
    exact hK
   case body =>
    rintro l z W ⟨⟨out, k, hf, hb⟩, ht, hs, hB⟩ hz hz2
    cases k with
    | zero => cases hf
    | succ k =>
     simp only [bordTo] at hf
     rw [if_neg (by omega)] at hf
     by_cases hlt : Lib.ctz 64 z < l0.length
     ·rw [if_pos hlt] at hf
      obtain ⟨ad, e, hx⟩ := reads_at (Kd.C_below HR.out hB) _ hlt
      subst e
      have hbc := hb.cell
      have hbf := hb.frozen
      have htc := ht.cell
      have hsc := hs.cell
      generalize Lib.ctz 64 z = v at *
      have hmx : Tryd.prog.follows .mixedOrders = true := by kernel_rfl
      dsimp only [act]
      clear_value act
      by_cases ht2 : (Go.bits .andNot .i64 (rd l0 (v : Int)) S != 0) = true
      ·rw [if_pos ht2, shl_min] at hf
       gi_wp2
       gi_region_with_o (fail)
       all_goals gi_wp2
       all_goals have hbc2 : W.drew.cell? ⟨w.heap.size + 2, 0, none⟩ = some (.int .i64 out) := hbc
       all_goals have hbf2 : W.drew.frozen? ⟨w.heap.size + 2, 0, none⟩ = false := hbf
       all_goals gi_region_with_o (fail)
       all_goals gi_wp2
       all_goals exact ⟨((KeepsOthers.setCell _ _ _).trans (KeepsOthers.drew _)).trans (KeepsOthers.drew _), Below.heap_setCell W ⟨w.heap.size + 2, 0, none⟩ _ _ (by simp), ⟨_, k, hf, hb.set _⟩, ht.other (by omega) _, hs.other (by omega) _, ((hB.setCell (p := ⟨w.heap.size + 2, 0, none⟩) (by simp) _).drew).drew⟩
      ·rw [if_neg ht2] at hf
       have ht3 : (Go.bits .andNot .i64 (rd l0 (v : Int)) S != 0) = false := by simpa using ht2
       gi_wp2
       gi_region_with_o (fail)
       all_goals gi_wp2
       all_goals exact ⟨KeepsOthers.drew _, rfl, ⟨out, k, hf, hb⟩, ht, hs, hB.drew⟩
     ·rw [if_neg hlt] at hf
      cases hf
   case done =>
    rintro D W hD ⟨⟨out, k, hf, hb⟩, ht, hs, hB⟩ hK
    have hr : out = r := by
     cases k with
     | zero => cases hf
     | succ k =>
      simp only [bordTo, if_pos] at hf
      exact Option.some.inj hf
    subst hr
    have hbc := hb.cell
    simp at hD
    gi_wp2
    refine ⟨by simp, .inl ⟨_, _, rfl, run_takeDeferred hK, ?_⟩⟩
    exact ⟨_, results_tmp rfl _ _ _, rfl, hB.trans (belowK_b (w := w) (Nat.le_refl _) W D _ _ (by omega) hK rfl rfl)⟩
  ·rw [if_neg h2] at h
   cases h
 ·rw [if_neg h1] at h
  cases h
end Go.Proofs.YtijfddobandcdaaDoor.X
end
section
namespace Go.Proofs.YtijfddobandcdaaDoor.X
open Go.RowKit YtijfddobandcdaaDoorW.PrintWords YtijfddobandcdaaDoorW.PrintLast YtijfddobandcdaaDoorW.PrintMore
attribute [local go_sem] max2_int min2_int max_two min_two max_three min_three max_four min_four
/-! ### bits_OnesCount64: function 94 -/
def bits_OnesCount64.f (a0 : Int) : Option (Int) := some (Go.bits .and .i64 (wrap64 (IntKind.u64.wrap ((IntKind.u64.wrap ((IntKind.u64.wrap ((Go.bits .and .u64 (IntKind.u64.wrap (((IntKind.u64.wrap ((Go.bits .and .u64 ((IntKind.u64.wrap ((Go.bits .and .u64 (a0 / 2) 6148914691236517205) + (Go.bits .and .u64 a0 6148914691236517205))) / 4) 3689348814741910323) + (Go.bits .and .u64 (IntKind.u64.wrap ((Go.bits .and .u64 (a0 / 2) 6148914691236517205) + (Go.bits .and .u64 a0 6148914691236517205))) 3689348814741910323))) / 16) + (IntKind.u64.wrap ((Go.bits .and .u64 ((IntKind.u64.wrap ((Go.bits .and .u64 (a0 / 2) 6148914691236517205) + (Go.bits .and .u64 a0 6148914691236517205))) / 4) 3689348814741910323) + (Go.bits .and .u64 (IntKind.u64.wrap ((Go.bits .and .u64 (a0 / 2) 6148914691236517205) + (Go.bits .and .u64 a0 6148914691236517205))) 3689348814741910323))))) 1085102592571150095) + ((Go.bits .and .u64 (IntKind.u64.wrap (((IntKind.u64.wrap ((Go.bits .and .u64 ((IntKind.u64.wrap ((Go.bits .and .u64 (a0 / 2) 6148914691236517205) + (Go.bits .and .u64 a0 6148914691236517205))) / 4) 3689348814741910323) + (Go.bits .and .u64 (IntKind.u64.wrap ((Go.bits .and .u64 (a0 / 2) 6148914691236517205) + (Go.bits .and .u64 a0 6148914691236517205))) 3689348814741910323))) / 16) + (IntKind.u64.wrap ((Go.bits .and .u64 ((IntKind.u64.wrap ((Go.bits .and .u64 (a0 / 2) 6148914691236517205) + (Go.bits .and .u64 a0 6148914691236517205))) / 4) 3689348814741910323) + (Go.bits .and .u64 (IntKind.u64.wrap ((Go.bits .and .u64 (a0 / 2) 6148914691236517205) + (Go.bits .and .u64 a0 6148914691236517205))) 3689348814741910323))))) 1085102592571150095) / 256))) + ((IntKind.u64.wrap ((Go.bits .and .u64 (IntKind.u64.wrap (((IntKind.u64.wrap ((Go.bits .and .u64 ((IntKind.u64.wrap ((Go.bits .and .u64 (a0 / 2) 6148914691236517205) + (Go.bits .and .u64 a0 6148914691236517205))) / 4) 3689348814741910323) + (Go.bits .and .u64 (IntKind.u64.wrap ((Go.bits .and .u64 (a0 / 2) 6148914691236517205) + (Go.bits .and .u64 a0 6148914691236517205))) 3689348814741910323))) / 16) + (IntKind.u64.wrap ((Go.bits .and .u64 ((IntKind.u64.wrap ((Go.bits .and .u64 (a0 / 2) 6148914691236517205) + (Go.bits .and .u64 a0 6148914691236517205))) / 4) 3689348814741910323) + (Go.bits .and .u64 (IntKind.u64.wrap ((Go.bits .and .u64 (a0 / 2) 6148914691236517205) + (Go.bits .and .u64 a0 6148914691236517205))) 3689348814741910323))))) 1085102592571150095) + ((Go.bits .and .u64 (IntKind.u64.wrap (((IntKind.u64.wrap ((Go.bits .and .u64 ((IntKind.u64.wrap ((Go.bits .and .u64 (a0 / 2) 6148914691236517205) + (Go.bits .and .u64 a0 6148914691236517205))) / 4) 3689348814741910323) + (Go.bits .and .u64 (IntKind.u64.wrap ((Go.bits .and .u64 (a0 / 2) 6148914691236517205) + (Go.bits .and .u64 a0 6148914691236517205))) 3689348814741910323))) / 16) + (IntKind.u64.wrap ((Go.bits .and .u64 ((IntKind.u64.wrap ((Go.bits .and .u64 (a0 / 2) 6148914691236517205) + (Go.bits .and .u64 a0 6148914691236517205))) / 4) 3689348814741910323) + (Go.bits .and .u64 (IntKind.u64.wrap ((Go.bits .and .u64 (a0 / 2) 6148914691236517205) + (Go.bits .and .u64 a0 6148914691236517205))) 3689348814741910323))))) 1085102592571150095) / 256))) / 65536))) + ((IntKind.u64.wrap ((IntKind.u64.wrap ((Go.bits .and .u64 (IntKind.u64.wrap (((IntKind.u64.wrap ((Go.bits .and .u64 ((IntKind.u64.wrap ((Go.bits .and .u64 (a0 / 2) 6148914691236517205) + (Go.bits .and .u64 a0 6148914691236517205))) / 4) 3689348814741910323) + (Go.bits .and .u64 (IntKind.u64.wrap ((Go.bits .and .u64 (a0 / 2) 6148914691236517205) + (Go.bits .and .u64 a0 6148914691236517205))) 3689348814741910323))) / 16) + (IntKind.u64.wrap ((Go.bits .and .u64 ((IntKind.u64.wrap ((Go.bits .and .u64 (a0 / 2) 6148914691236517205) + (Go.bits .and .u64 a0 6148914691236517205))) / 4) 3689348814741910323) + (Go.bits .and .u64 (IntKind.u64.wrap ((Go.bits .and .u64 (a0 / 2) 6148914691236517205) + (Go.bits .and .u64 a0 6148914691236517205))) 3689348814741910323))))) 1085102592571150095) + ((Go.bits .and .u64 (IntKind.u64.wrap (((IntKind.u64.wrap ((Go.bits .and .u64 ((IntKind.u64.wrap ((Go.bits .and .u64 (a0 / 2) 6148914691236517205) + (Go.bits .and .u64 a0 6148914691236517205))) / 4) 3689348814741910323) + (Go.bits .and .u64 (IntKind.u64.wrap ((Go.bits .and .u64 (a0 / 2) 6148914691236517205) + (Go.bits .and .u64 a0 6148914691236517205))) 3689348814741910323))) / 16) + (IntKind.u64.wrap ((Go.bits .and .u64 ((IntKind.u64.wrap ((Go.bits .and .u64 (a0 / 2) 6148914691236517205) + (Go.bits .and .u64 a0 6148914691236517205))) / 4) 3689348814741910323) + (Go.bits .and .u64 (IntKind.u64.wrap ((Go.bits .and .u64 (a0 / 2) 6148914691236517205) + (Go.bits .and .u64 a0 6148914691236517205))) 3689348814741910323))))) 1085102592571150095) / 256))) + ((IntKind.u64.wrap ((Go.bits .and .u64 (IntKind.u64.wrap (((IntKind.u64.wrap ((Go.bits .and .u64 ((IntKind.u64.wrap ((Go.bits .and .u64 (a0 / 2) 6148914691236517205) + (Go.bits .and .u64 a0 6148914691236517205))) / 4) 3689348814741910323) + (Go.bits .and .u64 (IntKind.u64.wrap ((Go.bits .and .u64 (a0 / 2) 6148914691236517205) + (Go.bits .and .u64 a0 6148914691236517205))) 3689348814741910323))) / 16) + (IntKind.u64.wrap ((Go.bits .and .u64 ((IntKind.u64.wrap ((Go.bits .and .u64 (a0 / 2) 6148914691236517205) + (Go.bits .and .u64 a0 6148914691236517205))) / 4) 3689348814741910323) + (Go.bits .and .u64 (IntKind.u64.wrap ((Go.bits .and .u64 (a0 / 2) 6148914691236517205) + (Go.bits .and .u64 a0 6148914691236517205))) 3689348814741910323))))) 1085102592571150095) + ((Go.bits .and .u64 (IntKind.u64.wrap (((IntKind.u64.wrap ((Go.bits .and .u64 ((IntKind.u64.wrap ((Go.bits .and .u64 (a0 / 2) 6148914691236517205) + (Go.bits .and .u64 a0 6148914691236517205))) / 4) 3689348814741910323) + (Go.bits .and .u64 (IntKind.u64.wrap ((Go.bits .and .u64 (a0 / 2) 6148914691236517205) + (Go.bits .and .u64 a0 6148914691236517205))) 3689348814741910323))) / 16) + (IntKind.u64.wrap ((Go.bits .and .u64 ((IntKind.u64.wrap ((Go.bits .and .u64 (a0 / 2) 6148914691236517205) + (Go.bits .and .u64 a0 6148914691236517205))) / 4) 3689348814741910323) + (Go.bits .and .u64 (IntKind.u64.wrap ((Go.bits .and .u64 (a0 / 2) 6148914691236517205) + (Go.bits .and .u64 a0 6148914691236517205))) 3689348814741910323))))) 1085102592571150095) / 256))) / 65536))) / 4294967296)))) 127)
set_option maxHeartbeats 8000000 in
set_option maxRecDepth 100000 in
theorem bits_OnesCount64.calls (a0 : Int) (r : Int) (w : World) (h : bits_OnesCount64.f a0 = some r) :
  Calls Tryd.prog 94 #[.int .u64 a0] w fun e w' => e = .returned (.int .i64 r) ∧ Drawn0 w w' := by
 have H : (some (Go.bits .and .i64 (wrap64 (IntKind.u64.wrap ((IntKind.u64.wrap ((IntKind.u64.wrap ((Go.bits .and .u64 (IntKind.u64.wrap (((IntKind.u64.wrap ((Go.bits .and .u64 ((IntKind.u64.wrap ((Go.bits .and .u64 (a0 / 2) 6148914691236517205) + (Go.bits .and .u64 a0 6148914691236517205))) / 4) 3689348814741910323) + (Go.bits .and .u64 (IntKind.u64.wrap ((Go.bits .and .u64 (a0 / 2) 6148914691236517205) + (Go.bits .and .u64 a0 6148914691236517205))) 3689348814741910323))) / 16) + (IntKind.u64.wrap ((Go.bits .and .u64 ((IntKind.u64.wrap ((Go.bits .and .u64 (a0 / 2) 6148914691236517205) + (Go.bits .and .u64 a0 6148914691236517205))) / 4) 3689348814741910323) + (Go.bits .and .u64 (IntKind.u64.wrap ((Go.bits .and .u64 (a0 / 2) 6148914691236517205) + (Go.bits .and .u64 a0 6148914691236517205))) 3689348814741910323))))) 1085102592571150095) + ((Go.bits .and .u64 (IntKind.u64.wrap (((IntKind.u64.wrap ((Go.bits .and .u64 ((IntKind.u64.wrap ((Go.bits .and .u64 (a0 / 2) 6148914691236517205) + (Go.bits .and .u64 a0 6148914691236517205))) / 4) 3689348814741910323) + (Go.bits .and .u64 (IntKind.u64.wrap ((Go.bits .and .u64 (a0 / 2) 6148914691236517205) + (Go.bits .and .u64 a0 6148914691236517205))) 3689348814741910323))) / 16) + (IntKind.u64.wrap ((Go.bits .and .u64 ((IntKind.u64.wrap ((Go.bits .and .u64 (a0 / 2) 6148914691236517205) + (Go.bits .and .u64 a0 6148914691236517205))) / 4) 3689348814741910323) + (Go.bits .and .u64 (IntKind.u64.wrap ((Go.bits .and .u64 (a0 / 2) 6148914691236517205) + (Go.bits .and .u64 a0 6148914691236517205))) 3689348814741910323))))) 1085102592571150095) / 256))) + ((IntKind.u64.wrap ((Go.bits .and .u64 (IntKind.u64.wrap (((IntKind.u64.wrap ((Go.bits .and .u64 ((IntKind.u64.wrap ((Go.bits .and .u64 (a0 / 2) 6148914691236517205) + (Go.bits .and .u64 a0 6148914691236517205))) / 4) 3689348814741910323) + (Go.bits .and .u64 (IntKind.u64.wrap ((Go.bits .and .u64 (a0 / 2) 6148914691236517205) + (Go.bits .and .u64 a0 6148914691236517205))) 3689348814741910323))) / 16) + (IntKind.u64.wrap ((Go.bits .and .u64 ((IntKind.u64.wrap ((Go.bits .and .u64 (a0 / 2) 6148914691236517205) + (Go.bits .and .u64 a0 6148914691236517205))) / 4) 3689348814741910323) + (Go.bits .and .u64 (IntKind.u64.wrap ((Go.bits .and .u64 (a0 / 2) 6148914691236517205) + (Go.bits .and .u64 a0 6148914691236517205))) 3689348814741910323))))) 1085102592571150095) + ((Go.bits .and .u64 (IntKind.u64.wrap (((IntKind.u64.wrap ((Go.bits .and .u64 ((IntKind.u64.wrap ((Go.bits .and .u64 (a0 / 2) 6148914691236517205) + (Go.bits .and .u64 a0 6148914691236517205))) / 4) 3689348814741910323) + (Go.bits .and .u64 (IntKind.u64.wrap ((Go.bits .and .u64 (a0 / 2) 6148914691236517205) + (Go.bits .and .u64 a0 6148914691236517205))) 3689348814741910323))) / 16) + (IntKind.u64.wrap ((Go.bits .and .u64 ((IntKind.u64.wrap ((Go.bits .and .u64 (a0 / 2) 6148914691236517205) + (Go.bits .and .u64 a0 6148914691236517205))) / 4) 3689348814741910323) + (Go.bits .and .u64 (IntKind.u64.wrap ((Go.bits .and .u64 (a0 / 2) 6148914691236517205) + (Go.bits .and .u64 a0 6148914691236517205))) 3689348814741910323))))) 1085102592571150095) / 256))) / 65536))) + ((IntKind.u64.wrap ((IntKind.u64.wrap ((Go.bits .and .u64 (IntKind.u64.wrap (((IntKind.u64.wrap ((Go.bits .and .u64 ((IntKind.u64.wrap ((Go.bits .and .u64 (a0 / 2) 6148914691236517205) + (Go.bits .and .u64 a0 6148914691236517205))) / 4) 3689348814741910323) + (Go.bits .and .u64 (IntKind.u64.wrap ((Go.bits .and .u64 (a0 / 2) 6148914691236517205) + (Go.bits .and .u64 a0 6148914691236517205))) 3689348814741910323))) / 16) + (IntKind.u64.wrap ((Go.bits .and .u64 ((IntKind.u64.wrap ((Go.bits .and .u64 (a0 / 2) 6148914691236517205) + (Go.bits .and .u64 a0 6148914691236517205))) / 4) 3689348814741910323) + (Go.bits .and .u64 (IntKind.u64.wrap ((Go.bits .and .u64 (a0 / 2) 6148914691236517205) + (Go.bits .and .u64 a0 6148914691236517205))) 3689348814741910323))))) 1085102592571150095) + ((Go.bits .and .u64 (IntKind.u64.wrap (((IntKind.u64.wrap ((Go.bits .and .u64 ((IntKind.u64.wrap ((Go.bits .and .u64 (a0 / 2) 6148914691236517205) + (Go.bits .and .u64 a0 6148914691236517205))) / 4) 3689348814741910323) + (Go.bits .and .u64 (IntKind.u64.wrap ((Go.bits .and .u64 (a0 / 2) 6148914691236517205) + (Go.bits .and .u64 a0 6148914691236517205))) 3689348814741910323))) / 16) + (IntKind.u64.wrap ((Go.bits .and .u64 ((IntKind.u64.wrap ((Go.bits .and .u64 (a0 / 2) 6148914691236517205) + (Go.bits .and .u64 a0 6148914691236517205))) / 4) 3689348814741910323) + (Go.bits .and .u64 (IntKind.u64.wrap ((Go.bits .and .u64 (a0 / 2) 6148914691236517205) + (Go.bits .and .u64 a0 6148914691236517205))) 3689348814741910323))))) 1085102592571150095) / 256))) + ((IntKind.u64.wrap ((Go.bits .and .u64 (IntKind.u64.wrap (((IntKind.u64.wrap ((Go.bits .and .u64 ((IntKind.u64.wrap ((Go.bits .and .u64 (a0 / 2) 6148914691236517205) + (Go.bits .and .u64 a0 6148914691236517205))) / 4) 3689348814741910323) + (Go.bits .and .u64 (IntKind.u64.wrap ((Go.bits .and .u64 (a0 / 2) 6148914691236517205) + (Go.bits .and .u64 a0 6148914691236517205))) 3689348814741910323))) / 16) + (IntKind.u64.wrap ((Go.bits .and .u64 ((IntKind.u64.wrap ((Go.bits .and .u64 (a0 / 2) 6148914691236517205) + (Go.bits .and .u64 a0 6148914691236517205))) / 4) 3689348814741910323) + (Go.bits .and .u64 (IntKind.u64.wrap ((Go.bits .and .u64 (a0 / 2) 6148914691236517205) + (Go.bits .and .u64 a0 6148914691236517205))) 3689348814741910323))))) 1085102592571150095) + ((Go.bits .and .u64 (IntKind.u64.wrap (((IntKind.u64.wrap ((Go.bits .and .u64 ((IntKind.u64.wrap ((Go.bits .and .u64 (a0 / 2) 6148914691236517205) + (Go.bits .and .u64 a0 6148914691236517205))) / 4) 3689348814741910323) + (Go.bits .and .u64 (IntKind.u64.wrap ((Go.bits .and .u64 (a0 / 2) 6148914691236517205) + (Go.bits .and .u64 a0 6148914691236517205))) 3689348814741910323))) / 16) + (IntKind.u64.wrap ((Go.bits .and .u64 ((IntKind.u64.wrap ((Go.bits .and .u64 (a0 / 2) 6148914691236517205) + (Go.bits .and .u64 a0 6148914691236517205))) / 4) 3689348814741910323) + (Go.bits .and .u64 (IntKind.u64.wrap ((Go.bits .and .u64 (a0 / 2) 6148914691236517205) + (Go.bits .and .u64 a0 6148914691236517205))) 3689348814741910323))))) 1085102592571150095) / 256))) / 65536))) / 4294967296)))) 127)) = some r := h
 clear h
 obtain rfl := Option.some.inj H
 go_enter Tryd.func94, Tryd.ntmps94
 go_wp2
 go_ret
 exact ⟨by first | rfl | (simp; done) | (simp [*]; done), by repeat (first | exact Drawn0.refl _ | apply Drawn0.step)⟩
end Go.Proofs.YtijfddobandcdaaDoor.X
end
section
namespace Go.Proofs.YtijfddobandcdaaDoor.X
open Go.RowKit YtijfddobandcdaaDoorW.PrintWords YtijfddobandcdaaDoorW.PrintLast YtijfddobandcdaaDoorW.PrintMore
attribute [local go_sem] max2_int min2_int max_two min_two max_three min_three max_four min_four
/-! ### bits_OnesCount: function 77 -/
def bits_OnesCount.f (a0 : Int) : Option (Int) := (bits_OnesCount64.f a0).bind fun t103 => (some t103)
set_option maxHeartbeats 8000000 in
set_option maxRecDepth 100000 in
theorem bits_OnesCount.calls (a0 : Int) (r : Int) (w : World) (h : bits_OnesCount.f a0 = some r) :
  Calls Tryd.prog 77 #[.int .u64 a0] w fun e w' => e = .returned (.int .i64 r) ∧ Drawn0 w w' := by
 have H : ((bits_OnesCount64.f a0).bind fun t103 => (some t103)) = some r := h
 clear h
 replace H := Option.bind_eq_some_iff.mp H
 obtain ⟨t103, A20, H⟩ := H
 replace H : (some t103) = some r := H
 have A2 := Aside0.mk A20
 clear A20
 obtain rfl := Option.some.inj H
 go_enter Tryd.func77, Tryd.ntmps77
 go_wp2_with (first | ((with_reducible refine gate_callee (f := 94) rfl ?_); refine goesL_ (some 7) rfl rfl Tryd.func94 (by kernel_rfl) rfl #[.int .u64 a0] rfl (Qls) ?_; (with_reducible refine (bits_OnesCount64.calls a0 t103 _ A2.out).mono ?_); rintro e w' ⟨rfl, ⟨nd, rfl⟩⟩; refine ⟨_, rfl, ?_⟩))
 go_ret
 exact ⟨by first | rfl | (simp; done) | (simp [*]; done), by repeat (first | exact Drawn0.refl _ | apply Drawn0.step)⟩
end Go.Proofs.YtijfddobandcdaaDoor.X
end
section
namespace Go.Proofs.YtijfddobandcdaaDoor.X
open Go.RowKit YtijfddobandcdaaDoorW.PrintWords YtijfddobandcdaaDoorW.PrintLast YtijfddobandcdaaDoorW.PrintMore
attribute [local go_sem] max2_int min2_int max_two min_two max_three min_three max_four min_four
/-! ### sweep_count: function 63 -/
def sweep_count.f (a0 : Int) : Option (Int) := (bits_OnesCount.f (IntKind.u64.wrap (a0))).bind fun t104 => (some t104)
set_option maxHeartbeats 8000000 in
set_option maxRecDepth 100000 in
theorem sweep_count.calls (a0 : Int) (r : Int) (w : World) (h : sweep_count.f a0 = some r) :
  Calls Tryd.prog 63 #[.int .i64 a0] w fun e w' => e = .returned (.int .i64 r) ∧ Drawn0 w w' := by
 have H : ((bits_OnesCount.f (IntKind.u64.wrap (a0))).bind fun t104 => (some t104)) = some r := h
 clear h
 replace H := Option.bind_eq_some_iff.mp H
 obtain ⟨t104, A20, H⟩ := H
 replace H : (some t104) = some r := H
 have A2 := Aside0.mk A20
 clear A20
 obtain rfl := Option.some.inj H
 go_enter Tryd.func63, Tryd.ntmps63
 go_wp2_with (first | ((with_reducible refine gate_callee (f := 77) rfl ?_); refine goesL_ (some 5) rfl rfl Tryd.func77 (by kernel_rfl) rfl #[.int .u64 (IntKind.u64.wrap (a0))] rfl (Qls) ?_; (with_reducible refine (bits_OnesCount.calls (IntKind.u64.wrap (a0)) t104 _ A2.out).mono ?_); rintro e w' ⟨rfl, ⟨nd, rfl⟩⟩; refine ⟨_, rfl, ?_⟩))
 go_ret
 exact ⟨by first | rfl | (simp; done) | (simp [*]; done), by repeat (first | exact Drawn0.refl _ | apply Drawn0.step)⟩
end Go.Proofs.YtijfddobandcdaaDoor.X
end
section
/- Region 9 of (sweep.town).layout, in a round: rest[set] = min(rest[set], max(rest[next], count(border(next)))). -/
namespace Go.Proofs.YtijfddobandcdaaDoor.X
open Go.RowKit Go.Shelf YtijfddobandcdaaDoorW.PrintWords YtijfddobandcdaaDoorW.PrintLast YtijfddobandcdaaDoorW.PrintMore YtijfddobandcdaaDoor.T
set_option maxHeartbeats 8000000 in
set_option maxRecDepth 100000 in
theorem layout_r9 {Q : Exit → Act → World → Prop} (hQ : ∀ c a a' w, Q (.panic c) a w → Q (.panic c) a' w) (A0 : Option Addr) (c0 : Nat) (l0 : List Int) (R : List Int) (tB rB sB g s x N cp : Nat) (b c : Int) (w : World) (ds : List Deferred)
  (hGL : GL w) (hr0 : Kd.C (Kd.int .i64) w A0 l0.length l0) (hc0 : l0.length ≤ c0)
  (h1 : w.cell? ⟨rB, 0, none⟩ = some (.slice (some ⟨g, 0, none⟩) N cp)) (h2 : w.cell? ⟨sB, 0, none⟩ = some (.int .i64 (s : Int))) (h3 : w.cell? ⟨tB, 0, none⟩ = some (.slice A0 l0.length c0)) (h4 : w.cell? ⟨g, s, none⟩ = some (.int .i64 (rd R (s : Int)))) (h5 : w.cell? ⟨g, x, none⟩ = some (.int .i64 (rd R (x : Int)))) (h6 : w.frozen? ⟨g, s, none⟩ = false)
  (hs : s < N) (hx : x < N) (hb : sweep_town_border.f l0 (x : Int) = some b) (hc : sweep_count.f b = some c) {u0 u2 u3 u6 u8 u9 u10 u11 u12 u13 u14 u15 u16 u17 u18 u19 u20 u21 u22 u23 u24 u25 u26 u27 u28 u29 u30 u31 u32 u33 u34 u35 u36 u37 u38 u39 u40 u41 u42 u43 u44 u45 u46 u47 u48 u49 u50 u51 u52 u53 u54 u55 u56 u57 u58 u59 u60 u61 u62 u63 u64 u65 u66 u67 u68 u69 u70 u71 u72 u73 u74 u75 u76 u77 u78 u79 u80 u81 u82 u83 u84 u85 u86 u87 u88 u89 u90 u91 u92 : Value}
  (hpost : ∀ V, Below w.heap.size w V → Q .normal { tmps := #[u0, .pointer (some ⟨tB, 0, none⟩), u2, u3, .pointer (some ⟨rB, 0, none⟩), .pointer (some ⟨sB, 0, none⟩), u6, .int .i64 (x : Int), u8, u9, u10, u11, u12, u13, u14, u15, u16, u17, u18, u19, u20, u21, u22, u23, u24, u25, u26, u27, u28, u29, u30, u31, u32, u33, u34, u35, u36, u37, .slice (some ⟨g, 0, none⟩) N cp, .int .i64 (s : Int), .slice (some ⟨g, 0, none⟩) N cp, .int .i64 (s : Int), .pointer (some ⟨g, s, none⟩), .int .i64 (rd R (s : Int)), .slice (some ⟨g, 0, none⟩) N cp, .int .i64 (x : Int), .pointer (some ⟨g, x, none⟩), .int .i64 (rd R (x : Int)), .slice A0 l0.length c0, .int .i64 (x : Int), .int .i64 b, .int .i64 c, .int .i64 (mx (rd R (x : Int)) c), .int .i64 (mn (rd R (s : Int)) (mx (rd R (x : Int)) c)), .pointer (some ⟨g, s, none⟩), u55, u56, u57, u58, u59, u60, u61, u62, u63, u64, u65, u66, u67, u68, u69, u70, u71, u72, u73, u74, u75, u76, u77, u78, u79, u80, u81, u82, u83, u84, u85, u86, u87, u88, u89, u90, u91, u92], defers := ds } (V.setCell ⟨g, s, none⟩ (.int .i64 (mn (rd R (s : Int)) (mx (rd R (x : Int)) c))))) :
  wpAny Tryd.prog .any (opsOf Tryd.f50 9) Q (opsOf Tryd.f50 9).size (Array.replicate (opsOf Tryd.f50 9).size false) { tmps := #[u0, .pointer (some ⟨tB, 0, none⟩), u2, u3, .pointer (some ⟨rB, 0, none⟩), .pointer (some ⟨sB, 0, none⟩), u6, .int .i64 (x : Int), u8, u9, u10, u11, u12, u13, u14, u15, u16, u17, u18, u19, u20, u21, u22, u23, u24, u25, u26, u27, u28, u29, u30, u31, u32, u33, u34, u35, u36, u37, u38, u39, u40, u41, u42, u43, u44, u45, u46, u47, u48, u49, u50, u51, u52, u53, u54, u55, u56, u57, u58, u59, u60, u61, u62, u63, u64, u65, u66, u67, u68, u69, u70, u71, u72, u73, u74, u75, u76, u77, u78, u79, u80, u81, u82, u83, u84, u85, u86, u87, u88, u89, u90, u91, u92], defers := ds } w := by
 obtain ⟨ops, hops⟩ : ∃ ops, opsOf Tryd.f50 9 = ops := ⟨_, rfl⟩
 rw [hops]
 conv at hops => lhs; whnf
 rw [← hops]
 clear hops ops
 have HR0 := Aside0.mk hr0
 have HPOST := Aside0.mk hpost
 clear hr0 hpost
 have HB := Aside0.mk (Below.refl w.heap.size w)
 have is0 : (0 ≤ (s : Int)) = True := eq_true (by omega)
 have is1 : ((s : Int) < (N : Int)) = True := eq_true (by omega)
 have ix0 : (0 ≤ (x : Int)) = True := eq_true (by omega)
 have ix1 : ((x : Int) < (N : Int)) = True := eq_true (by omega)
 refine wpAny_of_last (S := fun V => V.cell? ⟨rB, 0, none⟩ = some (.slice (some ⟨g, 0, none⟩) N cp) ∧ V.cell? ⟨sB, 0, none⟩ = some (.int .i64 (s : Int)) ∧ V.cell? ⟨tB, 0, none⟩ = some (.slice A0 l0.length c0) ∧ V.cell? ⟨g, s, none⟩ = some (.int .i64 (rd R (s : Int))) ∧ V.cell? ⟨g, x, none⟩ = some (.int .i64 (rd R (x : Int)))) (ds := [17]) _ _ _ _ ?_
 have hHeld : (fun V => V.cell? ⟨rB, 0, none⟩ = some (.slice (some ⟨g, 0, none⟩) N cp) ∧ V.cell? ⟨sB, 0, none⟩ = some (.int .i64 (s : Int)) ∧ V.cell? ⟨tB, 0, none⟩ = some (.slice A0 l0.length c0) ∧ V.cell? ⟨g, s, none⟩ = some (.int .i64 (rd R (s : Int))) ∧ V.cell? ⟨g, x, none⟩ = some (.int .i64 (rd R (x : Int)))) w := ⟨h1, h2, h3, h4, h5⟩
 have hfz := h6
 have h4' := h4
 clear h1 h2 h3 h4 h5 h6
 show wpAnyLast _ _ _ _ _ _ 18 (Qbz 18 0) _ _
 refine take_ (i := 0) (N := some 38) (v := ?_) (a' := ?_) (Qbz 18 1) rfl rfl (by kernel_rfl) (fun _ _ _ h => hQ _ _ _ _ h) (Or.inl ⟨by rfl, ?_⟩) hHeld ?_ ?_
 rotate_left
 ·rintro w' ⟨s0, s1, s2, s3, s4⟩
  go_simp
  with_reducible rfl
 rotate_left
 ·simp only [Act.put, Qp1, Qp2, Qp3, i64_w, i32_w]
  rfl
 refine take_ (i := 1) (N := some 39) (v := ?_) (a' := ?_) (Qbz 18 3) rfl rfl (by kernel_rfl) (fun _ _ _ h => hQ _ _ _ _ h) (Or.inl ⟨by rfl, ?_⟩) hHeld ?_ ?_
 rotate_left
 ·rintro w' ⟨s0, s1, s2, s3, s4⟩
  go_simp
  with_reducible rfl
 rotate_left
 ·simp only [Act.put, Qp1, Qp2, Qp3, i64_w, i32_w]
  rfl
 refine take_ (i := 2) (N := some 40) (v := ?_) (a' := ?_) (Qbz 18 7) rfl rfl (by kernel_rfl) (fun _ _ _ h => hQ _ _ _ _ h) (Or.inl ⟨by rfl, ?_⟩) hHeld ?_ ?_
 rotate_left
 ·rintro w' ⟨s0, s1, s2, s3, s4⟩
  go_simp
  with_reducible rfl
 rotate_left
 ·simp only [Act.put, Qp1, Qp2, Qp3, i64_w, i32_w]
  rfl
 refine take_ (i := 3) (N := some 41) (v := ?_) (a' := ?_) (Qbz 18 15) rfl rfl (by kernel_rfl) (fun _ _ _ h => hQ _ _ _ _ h) (Or.inl ⟨by rfl, ?_⟩) hHeld ?_ ?_
 rotate_left
 ·rintro w' ⟨s0, s1, s2, s3, s4⟩
  go_simp
  with_reducible rfl
 rotate_left
 ·simp only [Act.put, Qp1, Qp2, Qp3, i64_w, i32_w]
  rfl
 refine pure_ (i := 4) (N := some 42) (v := ?_) (a' := ?_) (Qbz 18 31) rfl rfl (by kernel_rfl) (fun _ _ _ h => hQ _ _ _ _ h) (Or.inl ⟨by rfl, ?_⟩) ?_ ?_
 rotate_left
 ·intro w'
  go_simp
  with_reducible rfl
 rotate_left
 ·simp only [Act.put, Qp1, Qp2, Qp3, i64_w, i32_w]
  rfl
 refine take_ (i := 5) (N := some 43) (v := ?_) (a' := ?_) (Qbz 18 63) rfl rfl (by kernel_rfl) (fun _ _ _ h => hQ _ _ _ _ h) (Or.inl ⟨by rfl, ?_⟩) hHeld ?_ ?_
 rotate_left
 ·rintro w' ⟨s0, s1, s2, s3, s4⟩
  go_simp
  with_reducible rfl
 rotate_left
 ·simp only [Act.put, Qp1, Qp2, Qp3, i64_w, i32_w]
  rfl
 refine take_ (i := 6) (N := some 44) (v := ?_) (a' := ?_) (Qbz 18 127) rfl rfl (by kernel_rfl) (fun _ _ _ h => hQ _ _ _ _ h) (Or.inl ⟨by rfl, ?_⟩) hHeld ?_ ?_
 rotate_left
 ·rintro w' ⟨s0, s1, s2, s3, s4⟩
  go_simp
  with_reducible rfl
 rotate_left
 ·simp only [Act.put, Qp1, Qp2, Qp3, i64_w, i32_w]
  rfl
 refine pure_ (i := 7) (N := some 45) (v := ?_) (a' := ?_) (Qbz 18 255) rfl rfl (by kernel_rfl) (fun _ _ _ h => hQ _ _ _ _ h) (Or.inl ⟨by rfl, ?_⟩) ?_ ?_
 rotate_left
 ·intro w'
  go_simp
  with_reducible rfl
 rotate_left
 ·simp only [Act.put, Qp1, Qp2, Qp3, i64_w, i32_w]
  rfl
 refine pure_ (i := 8) (N := some 46) (v := ?_) (a' := ?_) (Qbz 18 511) rfl rfl (by kernel_rfl) (fun _ _ _ h => hQ _ _ _ _ h) (Or.inl ⟨by rfl, ?_⟩) ?_ ?_
 rotate_left
 ·intro w'
  go_simp
  with_reducible rfl
 rotate_left
 ·simp only [Act.put, Qp1, Qp2, Qp3, i64_w, i32_w]
  rfl
 refine take_ (i := 9) (N := some 47) (v := ?_) (a' := ?_) (Qbz 18 1023) rfl rfl (by kernel_rfl) (fun _ _ _ h => hQ _ _ _ _ h) (Or.inl ⟨by rfl, ?_⟩) hHeld ?_ ?_
 rotate_left
 ·rintro w' ⟨s0, s1, s2, s3, s4⟩
  go_simp
  with_reducible rfl
 rotate_left
 ·simp only [Act.put, Qp1, Qp2, Qp3, i64_w, i32_w]
  rfl
 refine take_ (i := 10) (N := some 48) (v := ?_) (a' := ?_) (Qbz 18 2047) rfl rfl (by kernel_rfl) (fun _ _ _ h => hQ _ _ _ _ h) (Or.inl ⟨by rfl, ?_⟩) hHeld ?_ ?_
 rotate_left
 ·rintro w' ⟨s0, s1, s2, s3, s4⟩
  go_simp
  with_reducible rfl
 rotate_left
 ·simp only [Act.put, Qp1, Qp2, Qp3, i64_w, i32_w]
  rfl
 refine pure_ (i := 11) (N := some 49) (v := ?_) (a' := ?_) (Qbz 18 4095) rfl rfl (by kernel_rfl) (fun _ _ _ h => hQ _ _ _ _ h) (Or.inl ⟨by rfl, ?_⟩) ?_ ?_
 rotate_left
 ·intro w'
  go_simp
  with_reducible rfl
 rotate_left
 ·simp only [Act.put, Qp1, Qp2, Qp3, i64_w, i32_w]
  rfl
 refine one_ (i := 12) (N := some 50) (Qbz 18 8191) rfl rfl (by kernel_rfl) (by decide) (fun K hK => ?_)
 refine goes_ Tryd.func73 (by kernel_rfl) rfl #[.slice A0 l0.length c0, .int .i64 (x : Int)] (by rfl) rfl rfl (by (try simp only [List.map_toArray, List.map_cons, List.map_nil]); first | done | rfl) ?_
 refine (sweep_town_border.calls A0 c0 l0 (x : Int) b w hGL HR0.out hc0 hb).mono ?_
 rintro e V ⟨rfl, hb1⟩
 replace hHeld := (⟨pw_cell_below hb1 hHeld.1, pw_cell_below hb1 hHeld.2.1, pw_cell_below hb1 hHeld.2.2.1, pw_cell_below hb1 hHeld.2.2.2.1, pw_cell_below hb1 hHeld.2.2.2.2⟩ : (fun V => V.cell? ⟨rB, 0, none⟩ = some (.slice (some ⟨g, 0, none⟩) N cp) ∧ V.cell? ⟨sB, 0, none⟩ = some (.int .i64 (s : Int)) ∧ V.cell? ⟨tB, 0, none⟩ = some (.slice A0 l0.length c0) ∧ V.cell? ⟨g, s, none⟩ = some (.int .i64 (rd R (s : Int))) ∧ V.cell? ⟨g, x, none⟩ = some (.int .i64 (rd R (x : Int)))) V)
 replace hfz : V.frozen? ⟨g, s, none⟩ = false := (hb1.frozen (World.block_lt_of_cell? _ _ h4')).trans hfz
 refine ⟨_, rfl, ?_⟩
 refine hK.out _ _ hHeld (fun hHeld => ?_)
 clear hK K
 refine norm_ (a' := ?_) ?_ ?_
 rotate_left
 ·show Act.put _ (some 50) _ = _
  simp only [Act.put, Qp1, Qp2, Qp3, i64_w, i32_w]
  rfl
 refine one_ (i := 13) (N := some 51) (Qbz 18 16383) rfl rfl (by kernel_rfl) (by decide) (fun K hK => ?_)
 refine goes_ Tryd.func63 (by kernel_rfl) rfl #[.int .i64 b] (by rfl) rfl rfl (by (try simp only [List.map_toArray, List.map_cons, List.map_nil]); first | done | rfl) ?_
 refine (sweep_count.calls b c V hc).mono ?_
 rintro e V2 ⟨rfl, ⟨m, rfl⟩⟩
 refine ⟨_, rfl, ?_⟩
 refine hK.out _ _ hHeld (fun hHeld => ?_)
 clear hK K
 refine norm_ (a' := ?_) ?_ ?_
 rotate_left
 ·show Act.put _ (some 51) _ = _
  simp only [Act.put, Qp1, Qp2, Qp3, i64_w, i32_w]
  rfl
 refine pure_ (i := 14) (N := some 52) (v := ?_) (a' := ?_) (Qbz 18 32767) rfl rfl (by kernel_rfl) (fun _ _ _ h => hQ _ _ _ _ h) (Or.inl ⟨by rfl, ?_⟩) ?_ ?_
 rotate_left
 ·intro w'
  go_simp
  with_reducible rfl
 rotate_left
 ·simp only [Act.put, Qp1, Qp2, Qp3, i64_w, i32_w]
  rfl
 refine pure_ (i := 15) (N := some 53) (v := ?_) (a' := ?_) (Qbz 18 65535) rfl rfl (by kernel_rfl) (fun _ _ _ h => hQ _ _ _ _ h) (Or.inl ⟨by rfl, ?_⟩) ?_ ?_
 rotate_left
 ·intro w'
  go_simp
  with_reducible rfl
 rotate_left
 ·simp only [Act.put, Qp1, Qp2, Qp3, i64_w, i32_w]
  rfl
 refine pure_ (i := 16) (N := some 54) (v := ?_) (a' := ?_) (Qbz 18 131071) rfl rfl (by kernel_rfl) (fun _ _ _ h => hQ _ _ _ _ h) (Or.inl ⟨by rfl, ?_⟩) ?_ ?_
 rotate_left
 ·intro w'
  go_simp
  with_reducible rfl
 rotate_left
 ·simp only [Act.put, Qp1, Qp2, Qp3, i64_w, i32_w]
  rfl
 refine last_ (i := 17) (N := none) (Qbz 18 262143) rfl rfl (by kernel_rfl) (by decide) (fun K hK => ?_)
 refine skip_ (w1 := ?_) (by rfl) rfl ?_ ?_
 rotate_left
 ·go_simp
  rfl
 refine hK.out _ _ ?_
 clear hK K
 refine done_ (by kernel_rfl) ?_
 exact HPOST.out _ (pw_below_drewN hb1 m)
end Go.Proofs.YtijfddobandcdaaDoor.X
end
section
/- Region 18 of (sweep.town).layout, in a round: max(rest[next], count(border(next))) <= rest[0]. -/
namespace Go.Proofs.YtijfddobandcdaaDoor.X
open Go.RowKit Go.Shelf YtijfddobandcdaaDoorW.PrintWords YtijfddobandcdaaDoorW.PrintLast YtijfddobandcdaaDoorW.PrintMore YtijfddobandcdaaDoor.T
set_option maxHeartbeats 8000000 in
set_option maxRecDepth 100000 in
theorem layout_r18 {Q : Exit → Act → World → Prop} (hQ : ∀ c a a' w, Q (.panic c) a w → Q (.panic c) a' w) (A0 : Option Addr) (c0 : Nat) (l0 : List Int) (R : List Int) (tB rB g x N cp : Nat) (b c : Int) (w : World) (ds : List Deferred)
  (hGL : GL w) (hr0 : Kd.C (Kd.int .i64) w A0 l0.length l0) (hc0 : l0.length ≤ c0)
  (h1 : w.cell? ⟨rB, 0, none⟩ = some (.slice (some ⟨g, 0, none⟩) N cp)) (h3 : w.cell? ⟨tB, 0, none⟩ = some (.slice A0 l0.length c0)) (h4 : w.cell? ⟨g, 0, none⟩ = some (.int .i64 (rd R 0))) (h5 : w.cell? ⟨g, x, none⟩ = some (.int .i64 (rd R (x : Int))))
  (hx : x < N) (hb : sweep_town_border.f l0 (x : Int) = some b) (hc : sweep_count.f b = some c) {u0 u2 u3 u5 u6 u7 u8 u9 u10 u12 u13 u14 u15 u16 u17 u18 u19 u20 u21 u22 u23 u24 u25 u26 u27 u28 u29 u30 u31 u32 u33 u34 u35 u36 u37 u38 u39 u40 u41 u42 u43 u44 u45 u46 u47 u48 u49 u50 u51 u52 u53 u54 u55 u56 u57 u58 u59 u60 u61 u62 u63 u64 u65 u66 u67 u68 u69 u70 u71 u72 u73 u74 u75 u76 u77 u78 u79 u80 u81 u82 u83 u84 u85 u86 u87 u88 u89 u90 u91 u92 : Value}
  (hpost : ∀ V, Below w.heap.size w V → Q .normal { tmps := #[u0, .pointer (some ⟨tB, 0, none⟩), u2, u3, .pointer (some ⟨rB, 0, none⟩), u5, u6, u7, u8, u9, u10, .int .i64 (x : Int), u12, u13, u14, u15, u16, u17, u18, u19, u20, u21, u22, u23, u24, u25, u26, u27, u28, u29, u30, u31, u32, u33, u34, u35, u36, u37, u38, u39, u40, u41, u42, u43, u44, u45, u46, u47, u48, u49, u50, u51, u52, u53, u54, u55, u56, u57, u58, u59, u60, u61, u62, u63, u64, u65, u66, u67, u68, u69, .slice (some ⟨g, 0, none⟩) N cp, .int .i64 (x : Int), .pointer (some ⟨g, x, none⟩), .int .i64 (rd R (x : Int)), .slice A0 l0.length c0, .int .i64 (x : Int), .int .i64 b, .int .i64 c, .int .i64 (mx (rd R (x : Int)) c), .slice (some ⟨g, 0, none⟩) N cp, .pointer (some ⟨g, 0, none⟩), .int .i64 (rd R 0), .bool (decide (mx (rd R (x : Int)) c ≤ rd R 0)), u83, u84, u85, u86, u87, u88, u89, u90, u91, u92], defers := ds } V) :
  wpAny Tryd.prog .any (opsOf Tryd.f50 18) Q (opsOf Tryd.f50 18).size (Array.replicate (opsOf Tryd.f50 18).size false) { tmps := #[u0, .pointer (some ⟨tB, 0, none⟩), u2, u3, .pointer (some ⟨rB, 0, none⟩), u5, u6, u7, u8, u9, u10, .int .i64 (x : Int), u12, u13, u14, u15, u16, u17, u18, u19, u20, u21, u22, u23, u24, u25, u26, u27, u28, u29, u30, u31, u32, u33, u34, u35, u36, u37, u38, u39, u40, u41, u42, u43, u44, u45, u46, u47, u48, u49, u50, u51, u52, u53, u54, u55, u56, u57, u58, u59, u60, u61, u62, u63, u64, u65, u66, u67, u68, u69, u70, u71, u72, u73, u74, u75, u76, u77, u78, u79, u80, u81, u82, u83, u84, u85, u86, u87, u88, u89, u90, u91, u92], defers := ds } w := by
 obtain ⟨ops, hops⟩ : ∃ ops, opsOf Tryd.f50 18 = ops := ⟨_, rfl⟩
 rw [hops]
 conv at hops => lhs; whnf
 rw [← hops]
 clear hops ops
 have HR0 := Aside0.mk hr0
 have HPOST := Aside0.mk hpost
 clear hr0 hpost
 have HB := Aside0.mk (Below.refl w.heap.size w)
 have is1 : ((0 : Int) < (N : Int)) = True := eq_true (by omega)
 have is2 : 0 < N := by omega
 have ix0 : (0 ≤ (x : Int)) = True := eq_true (by omega)
 have ix1 : ((x : Int) < (N : Int)) = True := eq_true (by omega)
 refine wpAny_of_last (S := fun V => V.cell? ⟨rB, 0, none⟩ = some (.slice (some ⟨g, 0, none⟩) N cp) ∧ V.cell? ⟨tB, 0, none⟩ = some (.slice A0 l0.length c0) ∧ V.cell? ⟨g, 0, none⟩ = some (.int .i64 (rd R 0)) ∧ V.cell? ⟨g, x, none⟩ = some (.int .i64 (rd R (x : Int)))) (ds := []) _ _ _ _ ?_
 have hHeld : (fun V => V.cell? ⟨rB, 0, none⟩ = some (.slice (some ⟨g, 0, none⟩) N cp) ∧ V.cell? ⟨tB, 0, none⟩ = some (.slice A0 l0.length c0) ∧ V.cell? ⟨g, 0, none⟩ = some (.int .i64 (rd R 0)) ∧ V.cell? ⟨g, x, none⟩ = some (.int .i64 (rd R (x : Int)))) w := ⟨h1, h3, h4, h5⟩
 clear h1 h3 h4 h5
 show wpAnyLast _ _ _ _ _ _ 13 (Qbz 13 0) _ _
 refine take_ (i := 0) (N := some 70) (v := ?_) (a' := ?_) (Qbz 13 1) rfl rfl (by kernel_rfl) (fun _ _ _ h => hQ _ _ _ _ h) (Or.inl ⟨by rfl, ?_⟩) hHeld ?_ ?_
 rotate_left
 ·rintro w' ⟨s0, s1, s2, s3⟩
  go_simp
  with_reducible rfl
 rotate_left
 ·simp only [Act.put, Qp1, Qp2, Qp3, i64_w, i32_w]
  rfl
 refine pure_ (i := 1) (N := some 71) (v := ?_) (a' := ?_) (Qbz 13 3) rfl rfl (by kernel_rfl) (fun _ _ _ h => hQ _ _ _ _ h) (Or.inl ⟨by rfl, ?_⟩) ?_ ?_
 rotate_left
 ·intro w'
  go_simp
  with_reducible rfl
 rotate_left
 ·simp only [Act.put, Qp1, Qp2, Qp3, i64_w, i32_w]
  rfl
 refine pure_ (i := 2) (N := some 72) (v := ?_) (a' := ?_) (Qbz 13 7) rfl rfl (by kernel_rfl) (fun _ _ _ h => hQ _ _ _ _ h) (Or.inl ⟨by rfl, ?_⟩) ?_ ?_
 rotate_left
 ·intro w'
  go_simp
  with_reducible rfl
 rotate_left
 ·simp only [Act.put, Qp1, Qp2, Qp3, i64_w, i32_w]
  rfl
 refine take_ (i := 3) (N := some 73) (v := ?_) (a' := ?_) (Qbz 13 15) rfl rfl (by kernel_rfl) (fun _ _ _ h => hQ _ _ _ _ h) (Or.inl ⟨by rfl, ?_⟩) hHeld ?_ ?_
 rotate_left
 ·rintro w' ⟨s0, s1, s2, s3⟩
  go_simp
  with_reducible rfl
 rotate_left
 ·simp only [Act.put, Qp1, Qp2, Qp3, i64_w, i32_w]
  rfl
 refine take_ (i := 4) (N := some 74) (v := ?_) (a' := ?_) (Qbz 13 31) rfl rfl (by kernel_rfl) (fun _ _ _ h => hQ _ _ _ _ h) (Or.inl ⟨by rfl, ?_⟩) hHeld ?_ ?_
 rotate_left
 ·rintro w' ⟨s0, s1, s2, s3⟩
  go_simp
  with_reducible rfl
 rotate_left
 ·simp only [Act.put, Qp1, Qp2, Qp3, i64_w, i32_w]
  rfl
 refine pure_ (i := 5) (N := some 75) (v := ?_) (a' := ?_) (Qbz 13 63) rfl rfl (by kernel_rfl) (fun _ _ _ h => hQ _ _ _ _ h) (Or.inl ⟨by rfl, ?_⟩) ?_ ?_
 rotate_left
 ·intro w'
  go_simp
  with_reducible rfl
 rotate_left
 ·simp only [Act.put, Qp1, Qp2, Qp3, i64_w, i32_w]
  rfl
 refine take_ (i := 9) (N := some 79) (v := ?_) (a' := ?_) (Qbz 13 575) rfl rfl (by kernel_rfl) (fun _ _ _ h => hQ _ _ _ _ h) (Or.inl ⟨by rfl, ?_⟩) hHeld ?_ ?_
 rotate_left
 ·rintro w' ⟨s0, s1, s2, s3⟩
  go_simp
  with_reducible rfl
 rotate_left
 ·simp only [Act.put, Qp1, Qp2, Qp3, i64_w, i32_w]
  rfl
 refine pure_ (i := 10) (N := some 80) (v := ?_) (a' := ?_) (Qbz 13 1599) rfl rfl (by kernel_rfl) (fun _ _ _ h => hQ _ _ _ _ h) (Or.inl ⟨by rfl, ?_⟩) ?_ ?_
 rotate_left
 ·intro w'
  go_simp
  with_reducible rfl
 rotate_left
 ·simp only [Act.put, Qp1, Qp2, Qp3, i64_w, i32_w]
  rfl
 refine take_ (i := 11) (N := some 81) (v := ?_) (a' := ?_) (Qbz 13 3647) rfl rfl (by kernel_rfl) (fun _ _ _ h => hQ _ _ _ _ h) (Or.inl ⟨by rfl, ?_⟩) hHeld ?_ ?_
 rotate_left
 ·rintro w' ⟨s0, s1, s2, s3⟩
  go_simp
  with_reducible rfl
 rotate_left
 ·simp only [Act.put, Qp1, Qp2, Qp3, i64_w, i32_w]
  rfl
 refine one_ (i := 6) (N := some 76) (Qbz 13 3711) rfl rfl (by kernel_rfl) (by decide) (fun K hK => ?_)
 refine goes_ Tryd.func73 (by kernel_rfl) rfl #[.slice A0 l0.length c0, .int .i64 (x : Int)] (by rfl) rfl rfl (by (try simp only [List.map_toArray, List.map_cons, List.map_nil]); first | done | rfl) ?_
 refine (sweep_town_border.calls A0 c0 l0 (x : Int) b w hGL HR0.out hc0 hb).mono ?_
 rintro e V ⟨rfl, hb1⟩
 replace hHeld := (⟨pw_cell_below hb1 hHeld.1, pw_cell_below hb1 hHeld.2.1, pw_cell_below hb1 hHeld.2.2.1, pw_cell_below hb1 hHeld.2.2.2⟩ : (fun V => V.cell? ⟨rB, 0, none⟩ = some (.slice (some ⟨g, 0, none⟩) N cp) ∧ V.cell? ⟨tB, 0, none⟩ = some (.slice A0 l0.length c0) ∧ V.cell? ⟨g, 0, none⟩ = some (.int .i64 (rd R 0)) ∧ V.cell? ⟨g, x, none⟩ = some (.int .i64 (rd R (x : Int)))) V)
 refine ⟨_, rfl, ?_⟩
 refine hK.out _ _ hHeld (fun hHeld => ?_)
 clear hK K
 refine norm_ (a' := ?_) ?_ ?_
 rotate_left
 ·show Act.put _ (some 76) _ = _
  simp only [Act.put, Qp1, Qp2, Qp3, i64_w, i32_w]
  rfl
 refine one_ (i := 7) (N := some 77) (Qbz 13 3839) rfl rfl (by kernel_rfl) (by decide) (fun K hK => ?_)
 refine goes_ Tryd.func63 (by kernel_rfl) rfl #[.int .i64 b] (by rfl) rfl rfl (by (try simp only [List.map_toArray, List.map_cons, List.map_nil]); first | done | rfl) ?_
 refine (sweep_count.calls b c V hc).mono ?_
 rintro e V2 ⟨rfl, ⟨m, rfl⟩⟩
 refine ⟨_, rfl, ?_⟩
 refine hK.out _ _ hHeld (fun hHeld => ?_)
 clear hK K
 refine norm_ (a' := ?_) ?_ ?_
 rotate_left
 ·show Act.put _ (some 77) _ = _
  simp only [Act.put, Qp1, Qp2, Qp3, i64_w, i32_w]
  rfl
 refine pure_ (i := 8) (N := some 78) (v := ?_) (a' := ?_) (Qbz 13 4095) rfl rfl (by kernel_rfl) (fun _ _ _ h => hQ _ _ _ _ h) (Or.inl ⟨by rfl, ?_⟩) ?_ ?_
 rotate_left
 ·intro w'
  go_simp
  with_reducible rfl
 rotate_left
 ·simp only [Act.put, Qp1, Qp2, Qp3, i64_w, i32_w]
  rfl
 refine pure_ (i := 12) (N := some 82) (v := ?_) (a' := ?_) (Qbz 13 8191) rfl rfl (by kernel_rfl) (fun _ _ _ h => hQ _ _ _ _ h) (Or.inl ⟨by rfl, ?_⟩) ?_ ?_
 rotate_left
 ·intro w'
  go_simp
  with_reducible rfl
 rotate_left
 ·simp only [Act.put, Qp1, Qp2, Qp3, i64_w, i32_w]
  rfl
 refine done_ (by kernel_rfl) ?_
 exact HPOST.out _ (pw_below_drewN hb1 m)
end Go.Proofs.YtijfddobandcdaaDoor.X
end
section
namespace Go.Proofs.YtijfddobandcdaaDoor.X
open Go.RowKit YtijfddobandcdaaDoorW.PrintWords YtijfddobandcdaaDoorW.PrintLast YtijfddobandcdaaDoorW.PrintMore
attribute [local go_sem] max2_int min2_int max_two min_two max_three min_three max_four min_four
/-! ### sweep_town_all: function 61 -/
def sweep_town_all.f (l0 : List Int) : Option (Int) := some (wrap64 ((shl .i64 1 (l0.length : Int)) - 1))
set_option maxHeartbeats 8000000 in
set_option maxRecDepth 100000 in
theorem sweep_town_all.calls (A0 : Option Addr) (c0 : Nat) (l0 : List Int) (r : Int) (w : World) (hr0 : Kd.C (Kd.int .i64) w A0 l0.length l0) (hc0 : l0.length ≤ c0) (h : sweep_town_all.f l0 = some r) :
  Calls Tryd.prog 61 #[.slice A0 l0.length c0] w fun e w' => e = .returned (.int .i64 r) ∧ Drawn0 w w' := by
 have HR0 := Aside0.mk hr0
 have HC0 := Aside0.mk hc0
 clear hr0 hc0
 have H : (some (wrap64 ((shl .i64 1 (l0.length : Int)) - 1))) = some r := h
 clear h
 obtain ⟨ji2, hji2⟩ : ∃ j_ : Int, (shl .i64 1 (l0.length : Int)) = j_ := ⟨_, rfl⟩
 replace H : (some (wrap64 ((ji2) - 1))) = some r := by first | (rw [hji2] at H; exact H) | (simp only [hji2] at H ⊢; exact H)
 have hji2_ : (IntKind.i64.wrap (1 * 2 ^ min (l0.length : Int).toNat 64)) = ji2 := hji2
 have hji2z : (l0.length : Int) ≤ 64 → (IntKind.i64.wrap (1 * 2 ^ (l0.length : Int).toNat)) = ji2 := shl_small hji2
 have hji2p : (IntKind.i64.wrap (1 * 2 ^ min l0.length 64)) = ji2 := hji2_
 have hji2q : (l0.length : Int) ≤ 64 → (IntKind.i64.wrap (1 * 2 ^ l0.length)) = ji2 := hji2z
 have hji2r : (IntKind.i64.wrap (2 ^ min l0.length 64)) = ji2 := by have h_ := hji2p; rw [Int.one_mul] at h_; exact h_
 have hji2s : (l0.length : Int) ≤ 64 → (IntKind.i64.wrap (2 ^ l0.length)) = ji2 := fun hle_ => by have h_ := hji2q hle_; rw [Int.one_mul] at h_; exact h_
 have hji2u : (IntKind.i64.wrap (2 ^ min (l0.length : Int).toNat 64)) = ji2 := by have h_ := hji2_; rw [Int.one_mul] at h_; exact h_
 have hji2v : (l0.length : Int) ≤ 64 → (IntKind.i64.wrap (2 ^ (l0.length : Int).toNat)) = ji2 := fun hle_ => by have h_ := hji2z hle_; rw [Int.one_mul] at h_; exact h_
 have hji2y : (wrap64 (1 * 2 ^ min (l0.length : Int).toNat 64)) = ji2 := (i64_w _).symm.trans hji2_
 have hji2x : (l0.length : Int) ≤ 64 → (wrap64 (1 * 2 ^ (l0.length : Int).toNat)) = ji2 := fun h_ => (i64_w _).symm.trans (hji2z h_)
 obtain rfl := Option.some.inj H
 go_enter Tryd.func61, Tryd.ntmps61
 go_wp2
 go_ret
 exact ⟨by first | rfl | (simp; done) | (simp only [← hji2] <;> (first | rfl | simp)) | (simp [*]; done), by repeat (first | exact Drawn0.refl _ | apply Drawn0.step)⟩
end Go.Proofs.YtijfddobandcdaaDoor.X
end
section
/- A row of ints of the function's own, written out as its block; and what (sweep.town).layout computes. -/
namespace Go.Proofs.YtijfddobandcdaaDoor.X
open Go.RowKit Go.Shelf YtijfddobandcdaaDoorW.PrintWords YtijfddobandcdaaDoorW.PrintLast YtijfddobandcdaaDoorW.PrintMore YtijfddobandcdaaDoor.T
def Row (W : World) (g : Nat) (R : List Int) : Prop := W.heap[g]? = some (.cells (R.map (Value.int .i64)).toArray 3 (0, 0))
theorem Row.lt {W : World} {g : Nat} {R : List Int} (h : Row W g R) : g < W.heap.size := (Array.getElem?_eq_some_iff.1 h).1
theorem Row.cell {W : World} {g : Nat} {R : List Int} (h : Row W g R) (i : Nat) (hi : i < R.length) : W.cell? ⟨g, i, none⟩ = some (.int .i64 (rd R (i : Int))) := by
 unfold World.cell?
 rw [show W.heap[(⟨g, i, none⟩ : Addr).block]? = _ from h]
 simp only [Option.isSome_none, Bool.false_eq_true, if_false]
 unfold rd
 rw [Int.toNat_natCast]
 simp [List.getElem?_eq_getElem hi]
theorem Row.frozen {W : World} {g : Nat} {R : List Int} (h : Row W g R) (i : Nat) : W.frozen? ⟨g, i, none⟩ = false := by
 unfold World.frozen?
 rw [show W.heap[(⟨g, i, none⟩ : Addr).block]? = _ from h]
 simp
theorem Row.kept {W V : World} {row : Option Nat} {g : Nat} {R : List Int} (h : Row W g R) (hg : W.grownBy V row) (hne : some g ≠ row) : Row V g R := (hg.block g h.lt hne).trans h
theorem Row.below {W V : World} {g : Nat} {R : List Int} (h : Row W g R) (hb : Below W.heap.size W V) : Row V g R := (hb.block g h.lt).trans h
theorem Row.other {W : World} {g B : Nat} {R : List Int} (h : Row W g R) (hne : g ≠ B) (v : Value) : Row (W.setCell ⟨B, 0, none⟩ v) g R := h.kept (grownBy_setCell' W B v) (fun e => hne (by cases e; rfl))
theorem Row.set {W : World} {g : Nat} {R : List Int} (h : Row W g R) (i : Nat) (v : Int) : Row (W.setCell ⟨g, i, none⟩ (.int .i64 v)) g (R.set i v) := by
 obtain ⟨hlt, hk⟩ := Array.getElem?_eq_some_iff.1 h
 show (W.heap.modify g _)[g]? = _
 rw [Array.getElem?_eq_getElem (by rw [Array.size_modify]; exact hlt), Array.getElem_modify_self, hk]
 simp [List.map_set]
theorem Row.made (W : World) (n : Nat) : Row (W.alloc (.cells (madeCells #[Value.int .i64 0] n) 3)) W.heap.size (List.replicate n 0) := by
 have := World.alloc_heap_new W (.cells (madeCells #[Value.int .i64 0] n) 3)
 unfold Row
 rw [this]
 congr 2
 unfold madeCells
 apply Array.ext
 ·simp
 ·intro i h1 h2
  simp [Nat.mod_one]
def cost (t : List Int) (x : Int) : Option Int := (sweep_town_border.f t x).bind fun b => sweep_count.f b
def nxt (set : Nat) (s : Nat) : Nat := set ||| 2 ^ Lib.ctz 64 s
def bestIn (t : List Int) (set : Nat) : Nat → Nat → List Int → Option (List Int)
 | 0, _, _ => none
 | k + 1, s, R => if s = 0 then some R else if set < R.length ∧ nxt set s < R.length then (cost t (nxt set s)).bind fun c => bestIn t set k (rest s) (R.set set (mn (rd R set) (mx (rd R (nxt set s)) c))) else none
def bestTo (t : List Int) : Nat → List Int → Option (List Int)
 | 0, R => some R
 | d + 1, R => (bestIn t d 64 (diff (2 ^ t.length - 1) d) (R.set d t.length)).bind fun R2 => bestTo t d R2
def goOn (t : List Int) (R : List Int) (set : Nat) : Nat → Nat → Option (Option (Int × Nat))
 | 0, _ => none
 | k + 1, s => if s = 0 then some none else if nxt set s < R.length then (cost t (nxt set s)).bind fun c => if mx (rd R (nxt set s)) c ≤ rd R 0 then some (some (((Lib.ctz 64 s : Nat) : Int), nxt set s)) else goOn t R set k (rest s) else none
def layTo (t : List Int) (R : List Int) : Nat → Nat → List Int → Option (List Int)
 | 0, _, _ => none
 | k + 1, set, out => if set = 2 ^ t.length - 1 then some out else (goOn t R set 64 (diff (2 ^ t.length - 1) set)).bind fun o => match o with | some (v, set2) => layTo t R k set2 (out ++ [v]) | none => none
def sweep_town_layout.f (l0 : List Int) : Option (List Int × Int) := if 1 ≤ l0.length ∧ l0.length ≤ 9 then (bestTo l0 (2 ^ l0.length - 1) (List.replicate (2 ^ l0.length) 0)).bind fun R => (layTo l0 R 11 0 []).bind fun out => some (out, rd R 0) else none
end Go.Proofs.YtijfddobandcdaaDoor.X
end
section
/- Region 8 of (sweep.town).layout, in a round: next := set | 1<<v. -/
namespace Go.Proofs.YtijfddobandcdaaDoor.X
open Go.RowKit Go.Shelf YtijfddobandcdaaDoorW.PrintWords YtijfddobandcdaaDoorW.PrintLast YtijfddobandcdaaDoorW.PrintMore YtijfddobandcdaaDoor.T
set_option maxHeartbeats 8000000 in
set_option maxRecDepth 100000 in
theorem layout_r8 {Q : Exit → Act → World → Prop} (hQ : ∀ c a a' w, Q (.panic c) a w → Q (.panic c) a' w) (sB s v : Nat) (w : World) (ds : List Deferred)
  (h2 : w.cell? ⟨sB, 0, none⟩ = some (.int .i64 (s : Int))) {u0 u1 u2 u3 u4 u7 u8 u9 u10 u11 u12 u13 u14 u15 u16 u17 u18 u19 u20 u21 u22 u23 u24 u25 u26 u27 u28 u29 u30 u31 u32 u33 u34 u35 u36 u37 u38 u39 u40 u41 u42 u43 u44 u45 u46 u47 u48 u49 u50 u51 u52 u53 u54 u55 u56 u57 u58 u59 u60 u61 u62 u63 u64 u65 u66 u67 u68 u69 u70 u71 u72 u73 u74 u75 u76 u77 u78 u79 u80 u81 u82 u83 u84 u85 u86 u87 u88 u89 u90 u91 u92 : Value}
  (hpost : Q .normal { tmps := #[u0, u1, u2, u3, u4, .pointer (some ⟨sB, 0, none⟩), .int .i64 (v : Int), .int .i64 (Go.bits .or .i64 (s : Int) (wrap64 (2 ^ min v 64))), u8, u9, u10, u11, u12, u13, u14, u15, u16, u17, u18, u19, u20, u21, u22, u23, u24, u25, u26, u27, u28, u29, u30, u31, u32, u33, .int .i64 (s : Int), .int .i64 (v : Int), .int .i64 (wrap64 (2 ^ min v 64)), .int .i64 (Go.bits .or .i64 (s : Int) (wrap64 (2 ^ min v 64))), u38, u39, u40, u41, u42, u43, u44, u45, u46, u47, u48, u49, u50, u51, u52, u53, u54, u55, u56, u57, u58, u59, u60, u61, u62, u63, u64, u65, u66, u67, u68, u69, u70, u71, u72, u73, u74, u75, u76, u77, u78, u79, u80, u81, u82, u83, u84, u85, u86, u87, u88, u89, u90, u91, u92], defers := ds } w) :
  wpAny Tryd.prog .any (opsOf Tryd.f50 8) Q (opsOf Tryd.f50 8).size (Array.replicate (opsOf Tryd.f50 8).size false) { tmps := #[u0, u1, u2, u3, u4, .pointer (some ⟨sB, 0, none⟩), .int .i64 (v : Int), u7, u8, u9, u10, u11, u12, u13, u14, u15, u16, u17, u18, u19, u20, u21, u22, u23, u24, u25, u26, u27, u28, u29, u30, u31, u32, u33, u34, u35, u36, u37, u38, u39, u40, u41, u42, u43, u44, u45, u46, u47, u48, u49, u50, u51, u52, u53, u54, u55, u56, u57, u58, u59, u60, u61, u62, u63, u64, u65, u66, u67, u68, u69, u70, u71, u72, u73, u74, u75, u76, u77, u78, u79, u80, u81, u82, u83, u84, u85, u86, u87, u88, u89, u90, u91, u92], defers := ds } w := by
 obtain ⟨ops, hops⟩ : ∃ ops, opsOf Tryd.f50 8 = ops := ⟨_, rfl⟩
 rw [hops]
 conv at hops => lhs; whnf
 rw [← hops]
 clear hops ops
 have HPOST := Aside0.mk hpost
 clear hpost
 refine wpAny_of_last (S := fun V => V.cell? ⟨sB, 0, none⟩ = some (.int .i64 (s : Int))) (ds := []) _ _ _ _ ?_
 have hHeld : (fun V => V.cell? ⟨sB, 0, none⟩ = some (.int .i64 (s : Int))) w := h2
 clear h2
 show wpAnyLast _ _ _ _ _ _ 5 #[false, false, false, false, false] _ _
 refine take_ (i := 0) (N := some 34) (v := ?_) (a' := ?_) #[true, false, false, false, false] rfl rfl (by kernel_rfl) (fun _ _ _ h => hQ _ _ _ _ h) (Or.inl ⟨by rfl, ?_⟩) hHeld ?_ ?_
 rotate_left
 ·rintro w' s0
  go_simp
  with_reducible rfl
 rotate_left
 ·simp only [Act.put, Qp1, Qp2, Qp3, i64_w, i32_w]
  rfl
 refine pure_ (i := 1) (N := some 35) (v := ?_) (a' := ?_) #[true, true, false, false, false] rfl rfl (by kernel_rfl) (fun _ _ _ h => hQ _ _ _ _ h) (Or.inl ⟨by rfl, ?_⟩) ?_ ?_
 rotate_left
 ·intro w'
  go_simp
  with_reducible rfl
 rotate_left
 ·simp only [Act.put, Qp1, Qp2, Qp3, i64_w, i32_w]
  rfl
 refine pure_ (i := 2) (N := some 36) (v := ?_) (a' := ?_) #[true, true, true, false, false] rfl rfl (by kernel_rfl) (fun _ _ _ h => hQ _ _ _ _ h) (Or.inl ⟨by rfl, ?_⟩) ?_ ?_
 rotate_left
 ·intro w'
  go_simp
  with_reducible rfl
 rotate_left
 ·simp only [Act.put, Qp1, Qp2, Qp3, i64_w, i32_w]
  rfl
 refine pure_ (i := 3) (N := some 37) (v := ?_) (a' := ?_) #[true, true, true, true, false] rfl rfl (by kernel_rfl) (fun _ _ _ h => hQ _ _ _ _ h) (Or.inl ⟨by rfl, ?_⟩) ?_ ?_
 rotate_left
 ·intro w'
  go_simp
  with_reducible rfl
 rotate_left
 ·simp only [Act.put, Qp1, Qp2, Qp3, i64_w, i32_w]
  rfl
 refine pure_ (i := 4) (N := some 7) (v := ?_) (a' := ?_) #[true, true, true, true, true] rfl rfl (by kernel_rfl) (fun _ _ _ h => hQ _ _ _ _ h) (Or.inl ⟨by rfl, ?_⟩) ?_ ?_
 rotate_left
 ·intro w'
  go_simp
  with_reducible rfl
 rotate_left
 ·simp only [Act.put, Qp1, Qp2, Qp3, i64_w, i32_w]
  rfl
 refine done_ (by kernel_rfl) ?_
 exact HPOST.out
end Go.Proofs.YtijfddobandcdaaDoor.X
end
section
/- Region 17 of (sweep.town).layout, in a round: next := set | 1<<v. -/
namespace Go.Proofs.YtijfddobandcdaaDoor.X
open Go.RowKit Go.Shelf YtijfddobandcdaaDoorW.PrintWords YtijfddobandcdaaDoorW.PrintLast YtijfddobandcdaaDoorW.PrintMore YtijfddobandcdaaDoor.T
set_option maxHeartbeats 8000000 in
set_option maxRecDepth 100000 in
theorem layout_r17 {Q : Exit → Act → World → Prop} (hQ : ∀ c a a' w, Q (.panic c) a w → Q (.panic c) a' w) (sB s v : Nat) (w : World) (ds : List Deferred)
  (h2 : w.cell? ⟨sB, 0, none⟩ = some (.int .i64 (s : Int))) {u0 u1 u2 u3 u4 u5 u6 u7 u8 u11 u12 u13 u14 u15 u16 u17 u18 u19 u20 u21 u22 u23 u24 u25 u26 u27 u28 u29 u30 u31 u32 u33 u34 u35 u36 u37 u38 u39 u40 u41 u42 u43 u44 u45 u46 u47 u48 u49 u50 u51 u52 u53 u54 u55 u56 u57 u58 u59 u60 u61 u62 u63 u64 u65 u66 u67 u68 u69 u70 u71 u72 u73 u74 u75 u76 u77 u78 u79 u80 u81 u82 u83 u84 u85 u86 u87 u88 u89 u90 u91 u92 : Value}
  (hpost : Q .normal { tmps := #[u0, u1, u2, u3, u4, u5, u6, u7, u8, .pointer (some ⟨sB, 0, none⟩), .int .i64 (v : Int), .int .i64 (Go.bits .or .i64 (s : Int) (wrap64 (2 ^ min v 64))), u12, u13, u14, u15, u16, u17, u18, u19, u20, u21, u22, u23, u24, u25, u26, u27, u28, u29, u30, u31, u32, u33, u34, u35, u36, u37, u38, u39, u40, u41, u42, u43, u44, u45, u46, u47, u48, u49, u50, u51, u52, u53, u54, u55, u56, u57, u58, u59, u60, u61, u62, u63, u64, u65, .int .i64 (s : Int), .int .i64 (v : Int), .int .i64 (wrap64 (2 ^ min v 64)), .int .i64 (Go.bits .or .i64 (s : Int) (wrap64 (2 ^ min v 64))), u70, u71, u72, u73, u74, u75, u76, u77, u78, u79, u80, u81, u82, u83, u84, u85, u86, u87, u88, u89, u90, u91, u92], defers := ds } w) :
  wpAny Tryd.prog .any (opsOf Tryd.f50 17) Q (opsOf Tryd.f50 17).size (Array.replicate (opsOf Tryd.f50 17).size false) { tmps := #[u0, u1, u2, u3, u4, u5, u6, u7, u8, .pointer (some ⟨sB, 0, none⟩), .int .i64 (v : Int), u11, u12, u13, u14, u15, u16, u17, u18, u19, u20, u21, u22, u23, u24, u25, u26, u27, u28, u29, u30, u31, u32, u33, u34, u35, u36, u37, u38, u39, u40, u41, u42, u43, u44, u45, u46, u47, u48, u49, u50, u51, u52, u53, u54, u55, u56, u57, u58, u59, u60, u61, u62, u63, u64, u65, u66, u67, u68, u69, u70, u71, u72, u73, u74, u75, u76, u77, u78, u79, u80, u81, u82, u83, u84, u85, u86, u87, u88, u89, u90, u91, u92], defers := ds } w := by
 obtain ⟨ops, hops⟩ : ∃ ops, opsOf Tryd.f50 17 = ops := ⟨_, rfl⟩
 rw [hops]
 conv at hops => lhs; whnf
 rw [← hops]
 clear hops ops
 have HPOST := Aside0.mk hpost
 clear hpost
 refine wpAny_of_last (S := fun V => V.cell? ⟨sB, 0, none⟩ = some (.int .i64 (s : Int))) (ds := []) _ _ _ _ ?_
 have hHeld : (fun V => V.cell? ⟨sB, 0, none⟩ = some (.int .i64 (s : Int))) w := h2
 clear h2
 show wpAnyLast _ _ _ _ _ _ 5 #[false, false, false, false, false] _ _
 refine take_ (i := 0) (N := some 66) (v := ?_) (a' := ?_) #[true, false, false, false, false] rfl rfl (by kernel_rfl) (fun _ _ _ h => hQ _ _ _ _ h) (Or.inl ⟨by rfl, ?_⟩) hHeld ?_ ?_
 rotate_left
 ·rintro w' s0
  go_simp
  with_reducible rfl
 rotate_left
 ·simp only [Act.put, Qp1, Qp2, Qp3, i64_w, i32_w]
  rfl
 refine pure_ (i := 1) (N := some 67) (v := ?_) (a' := ?_) #[true, true, false, false, false] rfl rfl (by kernel_rfl) (fun _ _ _ h => hQ _ _ _ _ h) (Or.inl ⟨by rfl, ?_⟩) ?_ ?_
 rotate_left
 ·intro w'
  go_simp
  with_reducible rfl
 rotate_left
 ·simp only [Act.put, Qp1, Qp2, Qp3, i64_w, i32_w]
  rfl
 refine pure_ (i := 2) (N := some 68) (v := ?_) (a' := ?_) #[true, true, true, false, false] rfl rfl (by kernel_rfl) (fun _ _ _ h => hQ _ _ _ _ h) (Or.inl ⟨by rfl, ?_⟩) ?_ ?_
 rotate_left
 ·intro w'
  go_simp
  with_reducible rfl
 rotate_left
 ·simp only [Act.put, Qp1, Qp2, Qp3, i64_w, i32_w]
  rfl
 refine pure_ (i := 3) (N := some 69) (v := ?_) (a' := ?_) #[true, true, true, true, false] rfl rfl (by kernel_rfl) (fun _ _ _ h => hQ _ _ _ _ h) (Or.inl ⟨by rfl, ?_⟩) ?_ ?_
 rotate_left
 ·intro w'
  go_simp
  with_reducible rfl
 rotate_left
 ·simp only [Act.put, Qp1, Qp2, Qp3, i64_w, i32_w]
  rfl
 refine pure_ (i := 4) (N := some 11) (v := ?_) (a' := ?_) #[true, true, true, true, true] rfl rfl (by kernel_rfl) (fun _ _ _ h => hQ _ _ _ _ h) (Or.inl ⟨by rfl, ?_⟩) ?_ ?_
 rotate_left
 ·intro w'
  go_simp
  with_reducible rfl
 rotate_left
 ·simp only [Act.put, Qp1, Qp2, Qp3, i64_w, i32_w]
  rfl
 refine done_ (by kernel_rfl) ?_
 exact HPOST.out
end Go.Proofs.YtijfddobandcdaaDoor.X
end
section
/- (sweep.town).layout, by hand. -/
namespace Go.Proofs.YtijfddobandcdaaDoor.X
open Go.RowKit Go.Shelf YtijfddobandcdaaDoorW.PrintWords YtijfddobandcdaaDoorW.PrintLast YtijfddobandcdaaDoorW.PrintMore YtijfddobandcdaaDoor.T
attribute [local go_sem] Oper.semAt_some
def Marks (B : Nat) : Nat → List Deferred → World → Prop
 | _, [], _ => True
 | top, d :: ds, W => ∃ D, d = { target := .collected D, args := #[] } ∧ B ≤ D ∧ D < top ∧ W.heap[D]? = some (.deferred (some [])) ∧ Marks B D ds W
theorem Marks.mono {B : Nat} {W : World} : ∀ {ds : List Deferred} {top top2 : Nat}, Marks B top ds W → top ≤ top2 → Marks B top2 ds W
 | [], _, _, _, _ => trivial
 | _ :: _, _, _, ⟨D, h1, h2, h3, h4, h5⟩, h => ⟨D, h1, h2, by omega, h4, h5⟩
theorem Marks.kept {B : Nat} {W V : World} (hk : ∀ (D : Nat) (o : Obj), W.heap[D]? = some o → o.isCells = false → V.heap[D]? = W.heap[D]?) : ∀ {ds : List Deferred} {top : Nat}, Marks B top ds W → Marks B top ds V
 | [], _, _ => trivial
 | _ :: _, _, ⟨D, h1, h2, h3, h4, h5⟩ => ⟨D, h1, h2, h3, (hk D _ h4 rfl).trans h4, h5.kept hk⟩
theorem Marks.low {B : Nat} {W V : World} : ∀ {ds : List Deferred} {top : Nat}, (∀ D, D < top → V.heap[D]? = W.heap[D]?) → Marks B top ds W → Marks B top ds V
 | [], _, _, _ => trivial
 | _ :: _, _, hk, ⟨D, h1, h2, h3, h4, h5⟩ => ⟨D, h1, h2, h3, (hk D h3).trans h4, Marks.low (fun E hE => hk E (by omega)) h5⟩
theorem Marks.others {B : Nat} {W V : World} (hk : KeepsOthers W V) {ds : List Deferred} {top : Nat} (h : Marks B top ds W) : Marks B top ds V :=
 h.kept fun D o h1 h2 => (hk.same D o h1 h2).trans h1.symm
theorem marks_leave {F : Fence} {n : Nat} {P : Program} {fn : Func} {tmps : Array Value} {R : Ending → World → Prop} {B : Nat} : ∀ (ds : List Deferred) (top : Nat) (V : World), B ≤ V.heap.size → Marks B top ds V →
  (∀ V2, Below B V V2 → (∀ (j : Nat) (o : Obj), V.heap[j]? = some o → o.isCells = true → V2.heap[j]? = some o) → LeavesInM F n P fn tmps R [] .returning V2) → LeavesInM F n P fn tmps R ds .returning V
 | [], _, V, hBV, _, h => h V (Below.refl _ _) (fun _ _ h _ => h)
 | d :: ds, _, V, hBV, ⟨D, hd, hBD, _, hD, hm⟩, h => by
  refine ⟨by simp, .inl ⟨D, _, by rw [hd], run_takeDeferred hD, marks_leave ds D _ (by simpa using hBV) (hm.low (fun E hE => World.putObj_heap_other (by omega))) (fun V2 hb hc => h V2 ?_ ?_)⟩⟩
  ·exact ((Below.refl B V).grown (grownBy_putObj' V D _) hBV (fun k e => by cases e; exact hBD)).trans hb
  ·intro j o hj ho
   refine hc j o ((World.putObj_heap_other (fun e => ?_)).trans hj) ho
   subst e
   rw [hD] at hj
   cases hj
   cases ho
theorem owns_cells {W V : World} {base base2 : Nat} {e : TypeId} {size : Nat} {v : Value} {k : Nat} {xs : List Value} (h : W.ownsRow base e size v k xs) (hc : ∀ (j : Nat) (o : Obj), W.heap[j]? = some o → o.isCells = true → V.heap[j]? = some o) (hb : base2 ≤ base) : V.ownsRow base2 e size v k xs := by
 obtain ⟨h1, h2⟩ := h
 refine ⟨h1, ?_⟩
 rcases h2 with h2 | ⟨g, cap, cur, e1, hb1, hg, r⟩
 ·exact .inl h2
 ·exact .inr ⟨g, cap, cur, e1, by omega, hc _ _ hg rfl, r⟩
theorem own_lt {W : World} {base : Nat} {e : TypeId} {size : Nat} {v : Value} {k : Nat} {xs : List Value} (h : W.ownsRow base e size v k xs) (b : Nat) (hb : v.ownBlock = some b) : b < W.heap.size := by
 rcases h.2 with ⟨rfl, _⟩ | ⟨g, cap, cur, rfl, _, hg, _⟩
 ·simp [Value.ownBlock] at hb
 ·obtain rfl : g = b := by simpa [Value.ownBlock] using hb
  exact (Array.getElem?_eq_some_iff.1 hg).1
theorem own_base {W : World} {base : Nat} {e : TypeId} {size : Nat} {v : Value} {k : Nat} {xs : List Value} (h : W.ownsRow base e size v k xs) (b : Nat) (hb : v.ownBlock = some b) : base ≤ b := by
 rcases h.2 with ⟨rfl, _⟩ | ⟨g, cap, cur, rfl, hg, _⟩
 ·simp [Value.ownBlock] at hb
 ·obtain rfl : g = b := by simpa [Value.ownBlock] using hb
  exact hg
theorem own_cell {W : World} {base : Nat} {e : TypeId} {size : Nat} {v : Value} {k : Nat} {xs : List Value} (h : W.ownsRow base e size v k xs) (b : Nat) (hb : v.ownBlock = some b) (o : Obj) (ho : W.heap[b]? = some o) : o.isCells = true := by
 rcases h.2 with ⟨rfl, _⟩ | ⟨g, cap, cur, rfl, _, hg, _⟩
 ·simp [Value.ownBlock] at hb
 ·obtain rfl : g = b := by simpa [Value.ownBlock] using hb
  rw [ho] at hg
  cases hg
  rfl
theorem own_kept {W V : World} {row : Option Nat} {base : Nat} {e : TypeId} {size : Nat} {v : Value} {k : Nat} {xs : List Value} (h : W.ownsRow base e size v k xs) (hg : W.grownBy V row) (hne : ∀ b, v.ownBlock = some b → some b ≠ row) : V.ownsRow base e size v k xs := by
 refine h.kept hg ?_
 rcases h.2 with ⟨rfl, _⟩ | ⟨g, cap, cur, rfl, _, _, _⟩
 ·exact .inl rfl
 ·exact .inr fun e' => hne g rfl e'
theorem boxed_drewN {W : World} {B : Nat} {t : TypeId} {v : Value} (h : Boxed W B t v) (n : Nat) : Boxed (W.drewN n) B t v := h
theorem Row.drewN {W : World} {g : Nat} {R : List Int} (h : Row W g R) (n : Nat) : Row (W.drewN n) g R := h
theorem grownBy_set (W : World) (a : Addr) (v : Value) : W.grownBy (W.setCell a v) (some a.block) :=
 ⟨rfl, rfl, rfl, (KeepsWalks.setCell W a v).size, fun k _ hk => Below.heap_setCell _ _ _ k (fun e => hk (by rw [e]))⟩
theorem ctz_lt (z : Nat) (h0 : 0 < z) (h : z < 2 ^ 62) : Lib.ctz 64 z < 62 := by
 obtain ⟨h1, h2⟩ := Lib.lowest_bit 64 z (by omega) (by omega)
 have h3 : 2 ^ Lib.ctz 64 z ≤ z := by rw [← h1]; exact Nat.and_le_left
 exact Nat.lt_of_not_le fun h4 => by
  have : 2 ^ 62 ≤ 2 ^ Lib.ctz 64 z := Nat.pow_le_pow_right (by omega) h4
  omega
theorem nxt_bits (d z : Nat) (hd : d < 2 ^ 62) (h0 : 0 < z) (h : z < 2 ^ 62) : Go.bits .or .i64 (d : Int) (IntKind.i64.wrap (2 ^ min (Lib.ctz 64 z) 64)) = ((nxt d z : Nat) : Int) := by
 have h1 := ctz_lt z h0 h
 have h2 : 2 ^ Lib.ctz 64 z < 2 ^ 62 := Nat.pow_lt_pow_right (by omega) h1
 rw [← shl_min, s_one _ h1, b_or _ _ hd h2]
 rfl
def setOf (k : Nat) (a : Act) (W : World) : Nat := match a.tmps.getD k undef with
 | .pointer (some p) => (match W.cell? p with | some (.int _ z) => (z + 1).toNat | _ => 0)
 | _ => 0
structure LI (w : World) (A0 : Option Addr) (c0 : Nat) (l0 : List Int) (N : Nat) (RF : List Int) (W : World) (sB d : Nat) (R : List Int) (ds : List Deferred) : Prop where
 below : Below w.heap.size w W
 t : Boxed W w.heap.size 76 (.slice A0 l0.length c0)
 row : Row W (w.heap.size + 1) R
 len : R.length = N
 r : Boxed W (w.heap.size + 1 + 1) 22 (.slice (some ⟨w.heap.size + 1, 0, none⟩) N N)
 hs : w.heap.size + 1 + 1 + 1 ≤ sB
 s : Boxed W sB 3 (.int .i64 ((d : Int) - 1))
 dN : d < N
 tab : bestTo l0 d R = some RF
 marks : Marks w.heap.size W.heap.size ds W
structure LJ (w : World) (A0 : Option Addr) (c0 : Nat) (l0 : List Int) (N M : Nat) (R out : List Int) (W : World) (qB set k : Nat) (pre : List Int) (v : Value) (ds : List Deferred) : Prop where
 below : Below w.heap.size w W
 t : Boxed W w.heap.size 76 (.slice A0 l0.length c0)
 row : Row W (w.heap.size + 1) R
 r : Boxed W (w.heap.size + 1 + 1) 22 (.slice (some ⟨w.heap.size + 1, 0, none⟩) N N)
 hM : w.heap.size + 1 + 1 + 1 ≤ M
 hq : M < qB
 q : Boxed W qB 3 (.int .i64 (set : Int))
 o : Boxed W M 22 v
 own : W.ownsRow M 3 1 v pre.length (pre.map (Value.int .i64))
 apart : ∀ b, v.ownBlock = some b → b ≠ qB
 setN : set < N
 go : layTo l0 R k set pre = some out
 fuel : k + pre.length = 11
 marks : Marks w.heap.size W.heap.size ds W
structure KI (w : World) (A0 : Option Addr) (c0 : Nat) (l0 : List Int) (N M H : Nat) (R : List Int) (qB set : Nat) (pre : List Int) (v : Value) (ds : List Deferred) (o : Option (Int × Nat)) (z : Nat) (V : World) : Prop where
 go : ∃ k, goOn l0 R set k z = some o
 row : Row V (w.heap.size + 1) R
 q : Boxed V qB 3 (.int .i64 (set : Int))
 r : Boxed V (w.heap.size + 1 + 1) 22 (.slice (some ⟨w.heap.size + 1, 0, none⟩) N N)
 t : Boxed V w.heap.size 76 (.slice A0 l0.length c0)
 o : Boxed V M 22 v
 own : V.ownsRow M 3 1 v pre.length (pre.map (Value.int .i64))
 below : Below w.heap.size w V
 marks : Marks w.heap.size H ds V
 top : H < V.heap.size
structure KX (w : World) (A0 : Option Addr) (c0 : Nat) (l0 : List Int) (N M H : Nat) (R : List Int) (qB : Nat) (pre : List Int) (ds : List Deferred) (o : Option (Int × Nat)) (x : Code) (V : World) (v1 : Int) (set2 : Nat) (v2 : Value) : Prop where
 isExit : x = .exit 6
 got : o = some (v1, set2)
 row : Row V (w.heap.size + 1) R
 q : Boxed V qB 3 (.int .i64 (set2 : Int))
 r : Boxed V (w.heap.size + 1 + 1) 22 (.slice (some ⟨w.heap.size + 1, 0, none⟩) N N)
 t : Boxed V w.heap.size 76 (.slice A0 l0.length c0)
 o : Boxed V M 22 v2
 own : V.ownsRow M 3 1 v2 (pre.length + 1) ((pre ++ [v1]).map (Value.int .i64))
 below : Below w.heap.size w V
 marks : Marks w.heap.size H ds V
 top : H < V.heap.size
 apart : ∀ b, v2.ownBlock = some b → b ≠ H
 setN : set2 < N
theorem own_below {W V : World} {base : Nat} {e : TypeId} {size : Nat} {v : Value} {k : Nat} {xs : List Value} (h : W.ownsRow base e size v k xs) (hb : Below W.heap.size W V) : V.ownsRow base e size v k xs := by
 obtain ⟨h1, h2⟩ := h
 refine ⟨h1, ?_⟩
 rcases h2 with h2 | ⟨g, cap, cur, e1, hb1, hg, r⟩
 ·exact .inl h2
 ·exact .inr ⟨g, cap, cur, e1, hb1, (hb.block g (Array.getElem?_eq_some_iff.1 hg).1).trans hg, r⟩
set_option maxHeartbeats 8000000 in
set_option maxRecDepth 100000 in
theorem sweep_town_layout.calls0 (A0 : Option Addr) (c0 : Nat) (l0 : List Int) (r : List Int × Int) (w : World) (hGL : GL w) (hr0 : Kd.C (Kd.int .i64) w A0 l0.length l0) (hc0 : l0.length ≤ c0) (h : sweep_town_layout.f l0 = some r) :
  Calls Tryd.prog 50 #[.slice A0 l0.length c0] w fun e w' => ∃ v, e = .returned (.tuple #[v, .int .i64 r.2]) ∧ Kd.R (Kd.int .i64) 3 w' w.heap.size (fun _ => True) v r.1 ∧ Below w.heap.size w w' := by
 unfold sweep_town_layout.f at h
 by_cases hlen : 1 ≤ l0.length ∧ l0.length ≤ 9
 ·rw [if_pos hlen] at h
  obtain ⟨hn1, hn9⟩ := hlen
  obtain ⟨R, hR, h⟩ := Option.bind_eq_some_iff.mp h
  obtain ⟨out, hout, h⟩ := Option.bind_eq_some_iff.mp h
  obtain rfl := Option.some.inj h
  have HR := Aside0.mk hr0
  have HTAB := Aside0.mk hR
  have HOUT := Aside0.mk hout
  clear hr0 hR hout h
  obtain ⟨N, hN⟩ : ∃ N, 2 ^ l0.length = N := ⟨_, rfl⟩
  have hN2 : N ≤ 512 := by
   rw [← hN]
   exact Nat.pow_le_pow_right (by omega) hn9
  have hw : IntKind.i64.wrap (2 ^ l0.length) = (N : Int) := by
   have e : ((2 : Int) ^ l0.length) = ((2 ^ l0.length : Nat) : Int) := by simp
   rw [e, hN, IntKind.wrap_i64]
   omega
  obtain ⟨i0, hi, hz, hz1, hz2⟩ := info_parts info3
  have hmake : ∀ W : World, (Instr.makeSlice 22 (.int .i64 (N : Int)) (.int .i64 (N : Int))).run Tryd.prog W = .ok (.slice (some ⟨W.heap.size, 0, none⟩) N N) (W.alloc (.cells (madeCells #[.int .i64 0] N) 3)) := fun W => by
   have := run_make (P := Tryd.prog) W 22 3 i0 (.int .i64 0) Tryd.underlying22 hi hz .i64 .i64 (N : Int) (N : Int) (by omega) (by omega) (by rw [hz2]; omega) (by omega)
   rw [hz1] at this
   simpa [Value.cells] using this
  clear i0 hi hz hz1 hz2
  refine (callsIn_wide (n := 4)).1 ?_
  refine callsIn_of_wp_marks Tryd.func50 rfl trivial ?_ rfl
  simp only [Tryd.ntmps50, List.size_toArray, List.length_cons, List.length_nil, Nat.reduceAdd, Nat.reduceSub, Array.replicate_succ, Array.replicate_zero, List.push_toArray, List.append_toArray, List.nil_append, List.cons_append]
  have HALL := Aside0.mk (show sweep_town_all.f l0 = some (wrap64 (shl .i64 1 (l0.length : Int) - 1)) from rfl)
  gi_wp2_with (refine ⟨trivial, ?_⟩; refine (callsIn_wide.2 (sweep_town_all.calls _ _ l0 _ _ ?side1 ?side2 HALL.out)).mono ?_; (case side1 => exact Qsc HR.out); (case side2 => exact hc0); rintro e w' ⟨rfl, ⟨nd, rfl⟩⟩)
  have hN1 : 1 ≤ N := by rw [← hN]; exact Nat.one_le_two_pow
  have hal : wrap64 (shl .i64 1 (l0.length : Int) - 1) = ((N - 1 : Nat) : Int) := by
   rw [s_one _ (by omega), hN, w64_small _ (by omega) (by omega)]
   omega
  obtain ⟨al, hale⟩ : ∃ al, wrap64 (shl .i64 1 (l0.length : Int) - 1) = al := ⟨_, rfl⟩
  rw [hale] at hal HALL ⊢
  obtain ⟨al1, hal1⟩ : ∃ al1, wrap64 (al - 1) = al1 := ⟨_, rfl⟩
  rw [hal1]
  have hal2 : al1 = ((N - 1 : Nat) : Int) - 1 := by rw [← hal1, hal, w64_small _ (by omega) (by omega)]
  have HAL := Aside0.mk hal
  have HAL2 := Aside0.mk hal2
  clear hal hal2 hale hal1
  have HTABN : bestTo l0 (N - 1) (List.replicate N 0) = some R := by have := HTAB.out; rw [hN] at this; exact this
  refine wpIn_loop (fun a W => ∃ (u6 u7 u19 u20 u21 u22 u23 u24 u25 u26 u27 u28 u29 u30 u31 u32 u33 u34 u35 u36 u37 u38 u39 u40 u41 u42 u43 u44 u45 u46 u47 u48 u49 u50 u51 u52 u53 u54 u55 : Value) (ds : List Deferred) (sB d : Nat) (R0 : List Int), a = { tmps := #[.slice A0 l0.length c0, .pointer (some ⟨w.heap.size, 0, none⟩), .slice none 0 0, .int .i64 0, .pointer (some ⟨w.heap.size + 1 + 1, 0, none⟩), .pointer (some ⟨sB, 0, none⟩), u6, u7, undef, undef, undef, undef, .slice A0 l0.length c0, .int .i64 (l0.length : Int), .int .i64 (N : Int), .slice (some ⟨w.heap.size + 1, 0, none⟩) N N, .slice A0 l0.length c0, .int .i64 al, .int .i64 al1, u19, u20, u21, u22, u23, u24, u25, u26, u27, u28, u29, u30, u31, u32, u33, u34, u35, u36, u37, u38, u39, u40, u41, u42, u43, u44, u45, u46, u47, u48, u49, u50, u51, u52, u53, u54, u55, undef, undef, undef, undef, undef, undef, undef, undef, undef, undef, undef, undef, undef, undef, undef, undef, undef, undef, undef, undef, undef, undef, undef, undef, undef, undef, undef, undef, undef, undef, undef, undef, undef, undef, undef, undef, undef], defers := ds } ∧ LI w A0 c0 l0 N R W sB d R0 ds)
   (setOf 5) ?_ ?_
  ·iterate 39 apply Exists.intro
   refine ⟨[], w.heap.size + 1 + 1 + 1, N - 1, List.replicate N 0, rfl, ?_⟩
   have ar : ∀ {W : World} {g : Nat} {Rx : List Int} (o : Obj), Row W g Rx → Row (W.alloc o) g Rx := fun o h => h.kept (World.grownBy_alloc _ o none) (by simp)
   have e1 : Row (w.alloc (Obj.cells #[Value.slice A0 l0.length c0] 76) |>.alloc (Obj.cells (madeCells #[Value.int .i64 0] N) 3)) (w.heap.size + 1) (List.replicate N 0) := by
    simpa using Row.made (w.alloc (Obj.cells #[Value.slice A0 l0.length c0] 76)) N
   have e2 : Boxed ((w.alloc (Obj.cells #[Value.slice A0 l0.length c0] 76) |>.alloc (Obj.cells (madeCells #[Value.int .i64 0] N) 3)).alloc (Obj.cells #[Value.slice (some ⟨w.heap.size + 1, 0, none⟩) N N] 22)) (w.heap.size + 1 + 1) 22 (.slice (some ⟨w.heap.size + 1, 0, none⟩) N N) := by
    simpa using Boxed.new (w.alloc (Obj.cells #[Value.slice A0 l0.length c0] 76) |>.alloc (Obj.cells (madeCells #[Value.int .i64 0] N) 3)) 22 (.slice (some ⟨w.heap.size + 1, 0, none⟩) N N)
   refine ⟨below_alloc (pw_below_drewN (below_alloc (below_alloc (below_alloc (Below.refl _ _) _) _) _) _) _, ?_, ?_, by simp, ?_, Nat.le_refl _, ?_, by omega, HTABN, trivial⟩
   ·exact (boxed_drewN (((Boxed.new w 76 (.slice A0 l0.length c0)).alloc _).alloc _) nd).alloc _
   ·exact ar _ ((ar _ e1).drewN nd)
   ·exact (boxed_drewN e2 nd).alloc _
   ·rw [← HAL2.out]
    have := Boxed.new (World.drewN (((w.alloc (Obj.cells #[Value.slice A0 l0.length c0] 76)).alloc (Obj.cells (madeCells #[Value.int .i64 0] N) 3)).alloc (Obj.cells #[Value.slice (some ⟨w.heap.size + 1, 0, none⟩) N N] 22)) nd) 3 (.int .i64 al1)
    simpa using this
  ·rintro a W ⟨u6, u7, u19, u20, u21, u22, u23, u24, u25, u26, u27, u28, u29, u30, u31, u32, u33, u34, u35, u36, u37, u38, u39, u40, u41, u42, u43, u44, u45, u46, u47, u48, u49, u50, u51, u52, u53, u54, u55, ds, sB, d, R0, rfl, hI⟩
   have hbt := hI.t.cell
   have hbr := hI.r.cell
   have hbs := hI.s.cell
   have hbsf := hI.s.frozen
   cases d with
   | zero =>
    have hRR : R0 = R := by have := hI.tab; simp only [bestTo] at this; exact Option.some.inj this
    subst hRR
    have hsl := hI.s.lt
    have hh := hI.hs
    gi_wp2
    obtain ⟨M, hM⟩ : ∃ M, W.heap.size = M := ⟨_, rfl⟩
    rw [hM]
    obtain ⟨Inv, hInv⟩ : ∃ Inv : Act → World → Prop, Inv = (fun a V => ∃ (y10 y11 y56 y57 y58 y59 y60 y61 y62 y63 y64 y65 y66 y67 y68 y69 y70 y71 y72 y73 y74 y75 y76 y77 y78 y79 y80 y81 y82 y83 y84 y85 y86 y87 y88 : Value) (ds : List Deferred) (qB set k : Nat) (pre : List Int) (v : Value), a = { tmps := #[.slice A0 l0.length c0, .pointer (some ⟨w.heap.size, 0, none⟩), .slice none 0 0, .int .i64 0, .pointer (some ⟨w.heap.size + 1 + 1, 0, none⟩), .pointer (some ⟨sB, 0, none⟩), u6, u7, .pointer (some ⟨M, 0, none⟩), .pointer (some ⟨qB, 0, none⟩), y10, y11, .slice A0 l0.length c0, .int .i64 (l0.length : Int), .int .i64 (N : Int), .slice (some ⟨w.heap.size + 1, 0, none⟩) N N, .slice A0 l0.length c0, .int .i64 al, .int .i64 al1, .int .i64 (-1), .bool false, u21, u22, u23, u24, u25, u26, u27, u28, u29, u30, u31, u32, u33, u34, u35, u36, u37, u38, u39, u40, u41, u42, u43, u44, u45, u46, u47, u48, u49, u50, u51, u52, u53, u54, u55, y56, y57, y58, y59, y60, y61, y62, y63, y64, y65, y66, y67, y68, y69, y70, y71, y72, y73, y74, y75, y76, y77, y78, y79, y80, y81, y82, y83, y84, y85, y86, y87, y88, undef, undef, undef, undef], defers := ds } ∧ LJ w A0 c0 l0 N M R0 out V qB set k pre v ds) := ⟨_, rfl⟩
    obtain ⟨Me, hMe⟩ : ∃ Me : Act → World → Nat, Me = (fun _ V => match V.cell? ⟨M, 0, none⟩ with | some (.slice _ n _) => 11 - n | _ => 0) := ⟨_, rfl⟩
    have HInv := Aside0.mk hInv
    have HMe := Aside0.mk hMe
    clear hInv hMe
    refine wpIn_loop Inv Me ?_ ?_
    ·rw [HInv.out]
     iterate 35 apply Exists.intro
     refine ⟨ds, M + 1, 0, 11, [], .slice none 0 0, rfl, ?_⟩
     rw [← hM]
     refine ⟨below_alloc (below_alloc hI.below _) _, (hI.t.alloc _).alloc _, (hI.row.kept (World.grownBy_alloc _ _ none) (by simp)).kept (World.grownBy_alloc _ _ none) (by simp), (hI.r.alloc _).alloc _, by omega, by omega, ?_, (Boxed.new W 22 (.slice none 0 0)).alloc _, ?_, ?_, by omega, HOUT.out, rfl, ?_⟩
     ·simpa using Boxed.new (W.alloc (Obj.cells #[Value.slice none 0 0] 22)) 3 (.int .i64 0)
     ·exact World.ownsRow_nil _ _ _ _
     ·intro b hb
      simp [Value.ownBlock] at hb
     ·exact (hI.marks.low (fun D hD => (Below.heap_alloc _ _ _ (by simp; omega)).trans (Below.heap_alloc _ _ _ hD))).mono (by simp; omega)
    ·intro a V hIa
     rw [HInv.out] at hIa
     obtain ⟨y10, y11, y56, y57, y58, y59, y60, y61, y62, y63, y64, y65, y66, y67, y68, y69, y70, y71, y72, y73, y74, y75, y76, y77, y78, y79, y80, y81, y82, y83, y84, y85, y86, y87, y88, ds, qB, set, k, pre, v, rfl, hJ⟩ := hIa
     have hbt := hJ.t.cell
     have hbr := hJ.r.cell
     have hbq := hJ.q.cell
     have hbo := hJ.o.cell
     have hmx : Tryd.prog.follows .mixedOrders = true := by kernel_rfl
     have hgo := hJ.go
     cases k with
     | zero => cases hgo
     | succ k =>
      simp only [layTo] at hgo
      rw [hN] at hgo
      by_cases hset : set = N - 1
      ·rw [if_pos hset] at hgo
       obtain rfl := Option.some.inj hgo
       have hsb : ((set : Int) != al) = false := by rw [HAL.out, hset]; simp
       have hr0 := hJ.row.cell 0 (by rw [hI.len]; omega)
       have hiN : ((0 : Int) < (N : Int)) = True := eq_true (by omega)
       gi_wp2
       refine wpIn_mono (Q := NoPanic _) ?_ NoPanic.imp
       gi_region_with_o (refine ⟨trivial, ?_⟩; refine (callsIn_wide.2 (sweep_town_all.calls _ _ l0 _ _ ?side1 ?side2 HALL.out)).mono ?_; (case side1 => exact Qsc (Kd.C_below HR.out hJ.below)); (case side2 => exact hc0); rintro e w' ⟨rfl, ⟨nd1, rfl⟩⟩)
       all_goals refine NoPanic.normal ?_
       all_goals gi_wp2
       all_goals refine wpIn_mono (Q := NoPanic _) ?_ NoPanic.imp
       all_goals gi_region_with_o (fail)
       all_goals refine NoPanic.normal ?_
       all_goals gi_wp2
       all_goals
        refine marks_leave (B := w.heap.size) ds V.heap.size _ (by have := hJ.below.size; simpa using this) (show Marks w.heap.size V.heap.size ds (V.drewN _) from Marks.low (W := V) (fun _ _ => rfl) hJ.marks) (fun V2 hb hc => ?_)
        refine ⟨_, results_tmp2 rfl _ _ _, v, rfl, ?_, ?_⟩
        ·exact Kd.R_of_own (owns_cells (W := V) hJ.own hc (by have := hJ.hM; omega)) (fun _ _ => trivial)
        ·exact (pw_below_drewN hJ.below _).trans hb
      ·rw [if_neg hset] at hgo
       have hsb : ((set : Int) != al) = true := by rw [HAL.out]; simp; omega
       obtain ⟨o, hgo1, hgo2⟩ := Option.bind_eq_some_iff.mp hgo
       gi_wp2
       refine wpIn_mono (Q := NoPanic _) ?_ NoPanic.imp
       gi_region_with_o (refine ⟨trivial, ?_⟩; refine (callsIn_wide.2 (sweep_town_all.calls _ _ l0 _ _ ?side1 ?side2 HALL.out)).mono ?_; (case side1 => exact Qsc (Kd.C_below HR.out hJ.below)); (case side2 => exact hc0); rintro e w' ⟨rfl, ⟨nd1, rfl⟩⟩)
       all_goals refine NoPanic.normal ?_
       all_goals gi_wp2
       all_goals refine wpIn_mono (Q := NoPanic _) ?_ NoPanic.imp
       all_goals gi_region_with_o (first | (refine ⟨trivial, ?_⟩; refine (callsIn_wide.2 (sweep_town_all.calls _ _ l0 _ _ ?side1 ?side2 HALL.out)).mono ?_; (case side1 => exact Qsc (Kd.C_below HR.out hJ.below)); (case side2 => exact hc0); rintro e w' ⟨rfl, ⟨nd2, rfl⟩⟩) | (refine ⟨trivial, ?_⟩; refine (callsIn_wide.2 (sweep_nodes.calls _ _)).mono ?_; rintro e w' ⟨rfl, rfl⟩))
       all_goals refine NoPanic.normal ?_
       all_goals gi_wp2
       all_goals rw [show Go.bits .andNot .i64 al (set : Int) = ((diff (N - 1) set : Nat) : Int) by rw [HAL.out]; exact b_andNot _ _ (by omega) (by have := hJ.setN; omega)]
       all_goals have hdiff : diff (N - 1) set < 2 ^ 62 := Nat.lt_of_le_of_lt (diff_le _ _) (by omega)
       all_goals
        refine range_nodes (by omega) (c := V.heap.size) rfl w hGL (by have := hJ.below.size; omega) (diff (N - 1) set) hdiff ?_ (KI w A0 c0 l0 N M V.heap.size R0 qB set pre v ds o) (fun x V2 => ∃ v1 set2 v2, KX w A0 c0 l0 N M V.heap.size R0 qB pre ds o x V2 v1 set2 v2) (fun z V2 h => h.below) ?_ ?_ ?_ (fun x => { tmps := #[.slice A0 l0.length c0, .pointer (some ⟨w.heap.size, 0, none⟩), .slice none 0 0, .int .i64 0, .pointer (some ⟨w.heap.size + 1 + 1, 0, none⟩), .pointer (some ⟨sB, 0, none⟩), u6, u7, .pointer (some ⟨M, 0, none⟩), .pointer (some ⟨qB, 0, none⟩), .int .i64 x, y11, .slice A0 l0.length c0, .int .i64 (l0.length : Int), .int .i64 (N : Int), .slice (some ⟨w.heap.size + 1, 0, none⟩) N N, .slice A0 l0.length c0, .int .i64 al, .int .i64 al1, .int .i64 (-1), .bool false, u21, u22, u23, u24, u25, u26, u27, u28, u29, u30, u31, u32, u33, u34, u35, u36, u37, u38, u39, u40, u41, u42, u43, u44, u45, u46, u47, u48, u49, u50, u51, u52, u53, u54, u55, .int .i64 (set : Int), .slice A0 l0.length c0, .int .i64 al, .bool true, .slice A0 l0.length c0, .int .i64 al, .int .i64 (set : Int), .int .i64 ((diff (N - 1) set : Nat) : Int), .func (.func 91) #[] #[.pointer (some ⟨V.heap.size, 0, none⟩)], .int .i64 x, y66, y67, y68, y69, y70, y71, y72, y73, y74, y75, y76, y77, y78, y79, y80, y81, y82, y83, y84, y85, y86, y87, y88, undef, undef, undef, undef], defers := [] }) ?_ ?_ ?_ ?_
        ·simpa using Boxed.new (V.drewN _) 3 (.int .i64 ((diff (N - 1) set : Nat) : Int))
        ·have hvb := own_lt hJ.own
         rintro z V2 V3 row ⟨⟨k2, hg0⟩, h1, h2, h3, h4, h5, h6, h7, h8, h9⟩ hg hbk
         have ne : ∀ b, b < V.heap.size → some b ≠ row := fun b hb e => by
          rcases hbk b e.symm with h | ⟨h, _⟩
          ·omega
          ·simp at h; omega
         refine ⟨⟨k2, hg0⟩, h1.kept hg (ne _ hJ.row.lt), h2.kept hg (ne _ hJ.q.lt), h3.kept hg (ne _ hJ.r.lt), h4.kept hg (ne _ hJ.t.lt), h5.kept hg (ne _ hJ.o.lt), own_kept h6 hg (fun b hb => ne b (hvb b hb)), h7.grown hg h7.size (fun j e => ?_), h8.low (fun D hD => hg.block D (by omega) (ne D hD)), Nat.lt_of_lt_of_le h9 hg.size⟩
         have := hJ.below.size
         rcases hbk j e with h | ⟨h, _⟩
         ·omega
         ·simp at h; omega
        ·rintro x V2 V3 row ⟨v1, set2, v2, hx, ho, h1, h2, h3, h4, h5, h6, h7, h8, h9, h10, h11⟩ hg hbk
         have ne : ∀ b, b < V.heap.size → some b ≠ row := fun b hb e => by
          rcases hbk b e.symm with h | ⟨h, _⟩
          ·omega
          ·simp at h; omega
         refine ⟨v1, set2, v2, hx, ho, h1.kept hg (ne _ hJ.row.lt), h2.kept hg (ne _ hJ.q.lt), h3.kept hg (ne _ hJ.r.lt), h4.kept hg (ne _ hJ.t.lt), h5.kept hg (ne _ hJ.o.lt), own_kept h6 hg (fun b hb e => ?_), h7.grown hg h7.size (fun j e => ?_), h8.low (fun D hD => hg.block D (by omega) (ne D hD)), Nat.lt_of_lt_of_le h9 hg.size, h10, h11⟩
         ·rcases hbk b e.symm with h | ⟨_, o2, ho2, hc2⟩
          ·exact h10 b hb h
          ·rw [own_cell h6 b hb o2 ho2] at hc2
           cases hc2
         ·have := hJ.below.size
          rcases hbk j e with h | ⟨h, _⟩
          ·omega
          ·simp at h; omega
        ·refine ⟨⟨64, hgo1⟩, (hJ.row.drewN _).kept (World.grownBy_alloc _ _ none) (by simp), (boxed_drewN hJ.q _).alloc _, (boxed_drewN hJ.r _).alloc _, (boxed_drewN hJ.t _).alloc _, (boxed_drewN hJ.o _).alloc _, (show (V.drewN _).ownsRow M 3 1 v pre.length (pre.map (Value.int .i64)) from hJ.own).alloc _, below_alloc (pw_below_drewN hJ.below _) _, (show Marks w.heap.size V.heap.size ds (V.drewN _) from Marks.low (W := V) (fun _ _ => rfl) hJ.marks).low (fun D hD => (Below.heap_alloc _ _ _ (by simpa using hD))), by simp⟩
        ·intro l x V2 K hK
         gi_wp2
         exact hK
        ·rintro l z V2 ⟨⟨k2, hg0⟩, hrow, hq, hr, ht, ho, hown, hB, hm, hsz⟩ hz hz2
         cases k2 with
         | zero => cases hg0
         | succ k2 =>
          simp only [goOn] at hg0
          rw [if_neg (by omega)] at hg0
          by_cases hlt : nxt set z < R0.length
          ·rw [if_pos hlt] at hg0
           obtain ⟨c1, hc1, hg0⟩ := Option.bind_eq_some_iff.mp hg0
           obtain ⟨b2, hb2, hc1⟩ := Option.bind_eq_some_iff.mp hc1
           have hqc := hq.cell
           have hoc := ho.cell
           have hsN := hJ.setN
           have hnb := nxt_bits set z (by omega) hz hz2
           have hnx : nxt set z < N := by rw [← hI.len]; exact hlt
           obtain ⟨y, hv⟩ : ∃ y, Lib.ctz 64 z = y := ⟨_, rfl⟩
           obtain ⟨x, hx⟩ : ∃ x, nxt set z = x := ⟨_, rfl⟩
           rw [hx] at hnb hnx hb2 hg0 hlt
           rw [hv] at hnb hg0 ⊢
           have HNB := Aside0.mk hnb
           clear hnb hv hx hz hz2
           have HN := Aside0.mk hN
           clear hmake hw hN
           clear hdiff
           gi_wp2
           refine region_round (by omega) (by kernel_rfl) (by kernel_rfl) (by rintro ⟨a, W, h⟩; exact h) ?_
           refine layout_r17 (by intro c a a2 W h; exact h) qB set y V2.drew [] (by exact hqc) ?_
           gi_wp2
           rw [show Go.bits .or .i64 (set : Int) (wrap64 (2 ^ min y 64)) = (x : Int) by have := HNB.out; simpa only [i64_w] using this]
           refine region_round (by omega) (by kernel_rfl) (by kernel_rfl) (by rintro ⟨a, W, h⟩; exact h) ?_
           refine layout_r18 (by intro c a a2 W h; exact h) A0 c0 l0 R0 w.heap.size (w.heap.size + 1 + 1) (w.heap.size + 1) x N N b2 c1 _ [] (GL_below hGL (below_drew1 (below_drew1 hB))) (Kd.C_below HR.out (below_drew1 (below_drew1 hB))) hc0 hr.cell ht.cell (hrow.cell 0 (by omega)) (hrow.cell x hlt) hnx hb2 hc1 ?_
           intro V3 hV3
           have hd3 : Below V2.heap.size V2 V3 := below_step (below_drew1 (below_drew1 (Below.refl _ _))) hV3
           have hB3 : Below w.heap.size w V3 := below_step hB hd3
           have hq3 : Boxed V3 qB 3 (.int .i64 (set : Int)) := (hd3.block _ hq.lt).trans hq
           have hr3 : Boxed V3 (w.heap.size + 1 + 1) 22 (.slice (some ⟨w.heap.size + 1, 0, none⟩) N N) := (hd3.block _ hr.lt).trans hr
           have ht3 : Boxed V3 w.heap.size 76 (.slice A0 l0.length c0) := (hd3.block _ ht.lt).trans ht
           have ho3 : Boxed V3 M 22 v := (hd3.block _ ho.lt).trans ho
           have hrow3 := hrow.below hd3
           have hk3 : KeepsOthers V2 V3 := ⟨hd3.size, fun k o hk _ => (hd3.block k (Array.getElem?_eq_some_iff.1 hk).1).trans hk⟩
           by_cases hle : mx (rd R0 (x : Int)) c1 ≤ rd R0 0
           ·rw [if_pos hle] at hg0
            have hdl : decide (mx (rd R0 (x : Int)) c1 ≤ rd R0 0) = true := decide_eq_true hle
            have HG0 := Aside0.mk hg0
            have HLE := Aside0.mk hle
            rw [hdl]
            clear hdl hle hg0 hc1 hb2
            have hown3 := own_below hown hd3
            obtain ⟨i0, hi, hz0, hz1, hz2⟩ := info_parts info3
            have hpl := hJ.fuel
            have hoc3 := ho3.cell
            have hof3 := ho3.frozen
            have hMq := hJ.hq
            have hap : ∀ b, v.ownBlock = some b → b ≠ qB := hJ.apart
            have hvb : ∀ b, v.ownBlock = some b → b < V.heap.size := own_lt hJ.own
            have hneq : some qB ≠ v.ownBlock := fun e => hap qB e.symm rfl
            clear hqc hoc
            gi_wp2_with (gi_at_builtin; go_loud (refine wpListIn_append_own_at _ rfl _ _ 22 rfl M 3 i0 (.int .i64 0) 1 8 Tryd.underlying22 hi hz0 hz1 hz2 rfl (by decide) _ _ _ rfl (hown3.alloc _) ⟨V3.heap.size, 0, none⟩ 1 1 [.int .i64 (y : Int)] rfl rfl (cell_one_new _ _ _) (by simp [Value.oneCell']) (by unfold maxLen; omega) (by omega) (by simp; have := ho3.lt; omega) ?_; intro v' w1 hown' hgrow _ hat; obtain ⟨g', cap', rfl⟩ := ownsRow_succ hown'; obtain ⟨hv1, hv2, hr2, hk2, hb2⟩ := ho3.appended (by decide) hown3 (by have := ho3.lt; omega) (Nat.le_refl _) hown' hgrow; have hc1 := hv1.cell; have hf1 := hv1.frozen; have hq4 : Boxed (w1.setCell ⟨M, 0, none⟩ (.slice (some ⟨g', 0, none⟩) (pre.length + 1) cap')) qB 3 (.int .i64 (set : Int)) := ((hq3.alloc _).kept hgrow hneq).other (by omega) _; have hq5 : Boxed w1 qB 3 (.int .i64 (set : Int)) := (hq3.alloc _).kept hgrow hneq; have hqf4 := hq4.frozen; have hqf5 := hq5.frozen; have hqc5 := hq5.cell; have hne5 : ¬ (qB = M) := (by omega); have hne6 : ¬ (M = qB) := (by omega)))
            have hH := (hd3.block _ hsz)
            have hs3 : V.heap.size < V3.heap.size := Nat.lt_of_lt_of_le hsz hd3.size
            have hap' : g' ≠ V.heap.size ∧ g' ≠ qB ∧ g' ≠ M := by
             rcases hat with e | e
             ·have e1 : v.ownBlock = some g' := e.symm
              have e2 := hvb g' e1
              have e3 := hap g' e1
              refine ⟨by omega, e3, fun e4 => ?_⟩
              subst e4
              exact (ho3.not_row (by decide) hown3) e1.symm
             ·have e1 : g' = V3.heap.size + 1 := by simpa [Value.ownBlock] using e
              have := ho3.lt
              have := hq3.lt
              exact ⟨by omega, by omega, by omega⟩
            have hgr1 : (w1.setCell ⟨M, 0, none⟩ (.slice (some ⟨g', 0, none⟩) (pre.length + 1) cap')).grownBy ((w1.setCell ⟨M, 0, none⟩ (.slice (some ⟨g', 0, none⟩) (pre.length + 1) cap')).setCell ⟨qB, 0, none⟩ (.int .i64 (x : Int))) (some qB) := grownBy_set _ ⟨qB, 0, none⟩ _
            have hk5 : KeepsOthers V2 ((w1.setCell ⟨M, 0, none⟩ (.slice (some ⟨g', 0, none⟩) (pre.length + 1) cap')).setCell ⟨qB, 0, none⟩ (.int .i64 (x : Int))) := (hk3.trans hk2).trans (KeepsOthers.setCell _ _ _)
            have hold : ∀ b, b < V.heap.size → b ≠ M → b ≠ qB → some b ≠ v.ownBlock → ((w1.setCell ⟨M, 0, none⟩ (.slice (some ⟨g', 0, none⟩) (pre.length + 1) cap')).setCell ⟨qB, 0, none⟩ (.int .i64 (x : Int))).heap[b]? = V3.heap[b]? := fun b h1 h2 h3 h4 => by
             refine (Below.heap_setCell _ ⟨qB, 0, none⟩ _ b h3).trans ((Below.heap_setCell _ ⟨M, 0, none⟩ _ b h2).trans ((hgrow.block b (by simp; omega) h4).trans (Below.heap_alloc _ _ _ (by omega))))
            have hvM : ∀ b, v.ownBlock = some b → M ≤ b := own_base hown3
            have hJM := hJ.hM
            have lo : ∀ b, b < M → some b ≠ v.ownBlock := fun b hb e => by have := hvM b e.symm; omega
            have hMl := hJ.o.lt
            refine ⟨hk5, (y : Int), x, .slice (some ⟨g', 0, none⟩) (pre.length + 1) cap', rfl, (Option.some.inj HG0.out).symm, ?_, hq4.set _, ?_, ?_, hv2.other hne6 _, ?_, ?_, hm.others hk5, Nat.lt_of_lt_of_le hsz hk5.size, fun b hb e => ?_, hnx⟩
            ·exact (hold _ (by omega) (by omega) (by omega) (lo _ (by omega))).trans hrow3
            ·exact (hold _ (by omega) (by omega) (by omega) (lo _ (by omega))).trans hr3
            ·exact (hold _ (by omega) (by omega) (by omega) (lo _ (by omega))).trans ht3
            ·rw [List.map_append]
             exact own_kept hr2 hgr1 (fun b hb e => by cases e; exact hap'.2.1 (by simpa [Value.ownBlock] using hb))
            ·exact (hB3.trans (hb2.mono (by omega))).setCell (p := ⟨qB, 0, none⟩) (by simp; omega) _
            ·subst e
             exact hap'.1 (by simpa [Value.ownBlock] using hb)
           ·rw [if_neg hle] at hg0
            have hdl : decide (mx (rd R0 (x : Int)) c1 ≤ rd R0 0) = false := decide_eq_false hle
            have HG0 := Aside0.mk hg0
            have HLE := Aside0.mk hle
            rw [hdl]
            clear hdl hle hg0 hc1 hb2
            gi_wp2
            exact ⟨hk3, hd3.block _ hsz, ⟨k2, HG0.out⟩, hrow3, hq3, hr3, ht3, ho3, own_below hown hd3, hB3, hm.others hk3, Nat.lt_of_lt_of_le hsz hd3.size⟩
          ·rw [if_neg hlt] at hg0
           cases hg0
        ·rintro D V2 hD ⟨⟨k2, hg0⟩, _⟩ hK
         exfalso
         cases k2 with
         | zero => cases hg0
         | succ k2 =>
          simp only [goOn, if_pos] at hg0
          obtain rfl := Option.some.inj hg0
          cases hgo2
        ·rintro D x V2 hD ⟨v1, set2, v2, hX⟩ hK
         obtain rfl := hX.isExit
         obtain rfl := hX.got
         have hqc := hX.q.cell
         simp at hD
         have hgo3 : layTo l0 R0 k set2 (pre ++ [v1]) = some out := hgo2
         have hMl := hX.o.lt
         have hfu := hJ.fuel
         have hJM := hJ.hM
         obtain ⟨g', cap', rfl⟩ := ownsRow_succ hX.own
         gi_wp2
         refine ⟨?_, ?_⟩
         ·rw [HInv.out]
          iterate 35 apply Exists.intro
          refine ⟨_, V2.heap.size, set2, k, pre ++ [v1], _, rfl, below_alloc hX.below _, hX.t.alloc _, hX.row.kept (World.grownBy_alloc _ _ none) (by simp), hX.r.alloc _, hJ.hM, hMl, Boxed.new V2 3 (.int .i64 (set2 : Int)), hX.o.alloc _, ?_, fun b hb e => ?_, hX.setN, hgo3, by simp; omega, ?_⟩
          ·rw [List.length_append]
           exact hX.own.alloc _
          ·subst e
           exact Nat.lt_irrefl _ (own_lt hX.own _ hb)
          ·have hDV := (Array.getElem?_eq_some_iff.1 hK).1
           have := hJ.below.size
           exact ⟨D, rfl, by omega, by simp; omega, (Below.heap_alloc _ _ _ hDV).trans hK, (hX.marks.low (fun E hE => Below.heap_alloc _ _ _ (by have := hX.top; omega))).mono (by omega)⟩
         ·have e1 := (hX.o.alloc (Obj.cells #[Value.int .i64 (set2 : Int)] 3)).cell
          rw [HMe.out]
          dsimp only
          rw [e1, hbo]
          rcases hJ.own.2 with ⟨rfl, _⟩ | ⟨g, cap, cur, rfl, _⟩
          ·simp
           omega
          ·simp
           omega
   | succ d =>
    have hdN := hI.dN
    rw [show (((d + 1 : Nat) : Int) - 1) = (d : Int) by omega] at hbs
    have hd0 : (0 ≤ (d : Int)) = True := eq_true (by omega)
    have hd1 : ((d : Int) < (N : Int)) = True := eq_true (by omega)
    have hrc := hI.row.cell d (by rw [hI.len]; omega)
    have hrf := hI.row.frozen d
    have hdl : d < R0.length := by rw [hI.len]; omega
    have hh := hI.hs
    gi_wp2
    have b1 : Below w.heap.size w (W.setCell ⟨w.heap.size + 1, d, none⟩ (.int .i64 (l0.length : Int))) := hI.below.setCell (p := ⟨w.heap.size + 1, d, none⟩) (by simp) _
    have t1 := (hI.t.kept (grownBy_set W ⟨w.heap.size + 1, d, none⟩ (.int .i64 (l0.length : Int))) (by simp)).cell
    have s1 := (hI.s.kept (grownBy_set W ⟨w.heap.size + 1, d, none⟩ (.int .i64 (l0.length : Int))) (by simp; omega))
    have r1 := (hI.r.kept (grownBy_set W ⟨w.heap.size + 1, d, none⟩ (.int .i64 (l0.length : Int))) (by simp))
    have T1 := (hI.t.kept (grownBy_set W ⟨w.heap.size + 1, d, none⟩ (.int .i64 (l0.length : Int))) (by simp))
    have w1 := hI.row.set d (l0.length : Int)
    have m1 := hI.marks.others (KeepsOthers.setCell W ⟨w.heap.size + 1, d, none⟩ (.int .i64 (l0.length : Int)))
    rw [show (((d + 1 : Nat) : Int) - 1) = (d : Int) by omega] at s1
    have z1 : W.heap.size = (W.setCell ⟨w.heap.size + 1, d, none⟩ (.int .i64 (l0.length : Int))).heap.size := by simp
    rw [z1] at m1
    generalize W.setCell ⟨w.heap.size + 1, d, none⟩ (.int .i64 (l0.length : Int)) = W1 at *
    have s1c := s1.cell
    have hmx : Tryd.prog.follows .mixedOrders = true := by kernel_rfl
    refine wpIn_mono (Q := NoPanic _) ?_ NoPanic.imp
    gi_region_with_o (first | (refine ⟨trivial, ?_⟩; refine (callsIn_wide.2 (sweep_town_all.calls _ _ l0 _ _ ?side1 ?side2 HALL.out)).mono ?_; (case side1 => exact Qsc (Kd.C_below HR.out b1)); (case side2 => exact hc0); rintro e w' ⟨rfl, ⟨nd1, rfl⟩⟩) | (refine ⟨trivial, ?_⟩; refine (callsIn_wide.2 (sweep_nodes.calls _ _)).mono ?_; rintro e w' ⟨rfl, rfl⟩))
    all_goals refine NoPanic.normal ?_
    all_goals gi_wp2
    all_goals rw [show Go.bits .andNot .i64 al (d : Int) = ((diff (N - 1) d : Nat) : Int) by rw [HAL.out]; exact b_andNot _ _ (by omega) (by omega)]
    all_goals have HTD := hI.tab
    all_goals simp only [bestTo] at HTD
    all_goals obtain ⟨R2, HT1, HT2⟩ := Option.bind_eq_some_iff.mp HTD
    all_goals rw [hN] at HT1
    all_goals have hdiff : diff (N - 1) d < 2 ^ 62 := Nat.lt_of_le_of_lt (diff_le _ _) (by omega)
    all_goals
     refine range_nodes (by omega) (c := W1.heap.size) rfl w hGL (by have := b1.size; omega) (diff (N - 1) d) hdiff ?_ (fun z V => ∃ (k : Nat) (Rz : List Int), bestIn l0 d k z Rz = some R2 ∧ Row V (w.heap.size + 1) Rz ∧ Rz.length = N ∧ Boxed V sB 3 (.int .i64 (d : Int)) ∧ Boxed V (w.heap.size + 1 + 1) 22 (.slice (some ⟨w.heap.size + 1, 0, none⟩) N N) ∧ Boxed V w.heap.size 76 (.slice A0 l0.length c0) ∧ Below w.heap.size w V ∧ Marks w.heap.size W1.heap.size ds V ∧ W1.heap.size < V.heap.size) (fun _ _ => False) (fun z V h => by obtain ⟨_, _, _, _, _, _, _, _, h, _, _⟩ := h; exact h) ?_ (fun _ _ _ _ h _ _ => h) ?_ (fun x => { tmps := #[.slice A0 l0.length c0, .pointer (some ⟨w.heap.size, 0, none⟩), .slice none 0 0, .int .i64 0, .pointer (some ⟨w.heap.size + 1 + 1, 0, none⟩), .pointer (some ⟨sB, 0, none⟩), .int .i64 x, u7, undef, undef, undef, undef, .slice A0 l0.length c0, .int .i64 (l0.length : Int), .int .i64 (N : Int), .slice (some ⟨w.heap.size + 1, 0, none⟩) N N, .slice A0 l0.length c0, .int .i64 al, .int .i64 al1, .int .i64 (d : Int), .bool true, u21, u22, .slice (some ⟨w.heap.size + 1, 0, none⟩) N N, .int .i64 (d : Int), .slice A0 l0.length c0, .int .i64 (l0.length : Int), .pointer (some ⟨w.heap.size + 1, d, none⟩), .slice A0 l0.length c0, .int .i64 al, .int .i64 (d : Int), .int .i64 ((diff (N - 1) d : Nat) : Int), .func (.func 91) #[] #[.pointer (some ⟨W1.heap.size, 0, none⟩)], .int .i64 x, u34, u35, u36, u37, u38, u39, u40, u41, u42, u43, u44, u45, u46, u47, u48, u49, u50, u51, u52, u53, u54, u55, undef, undef, undef, undef, undef, undef, undef, undef, undef, undef, undef, undef, undef, undef, undef, undef, undef, undef, undef, undef, undef, undef, undef, undef, undef, undef, undef, undef, undef, undef, undef, undef, undef, undef, undef, undef, undef], defers := [] }) ?_ ?_ ?_ (fun _ _ _ _ h _ => h.elim)
     ·simpa using Boxed.new (W1.drewN (1 + nd1)) 3 (.int .i64 ((diff (N - 1) d : Nat) : Int))
     ·rintro z V V2 row ⟨k, Rz, hb, hrow, hlen, hs, hr, ht, hB, hm, hsz⟩ hg hbk
      have ne : ∀ b, b < W1.heap.size → some b ≠ row := fun b hb e => by
       rcases hbk b e.symm with h | ⟨h, _⟩
       ·omega
       ·simp at h; omega
      refine ⟨k, Rz, hb, hrow.kept hg (ne _ w1.lt), hlen, hs.kept hg (ne _ s1.lt), hr.kept hg (ne _ r1.lt), ht.kept hg (ne _ T1.lt), hB.grown hg hB.size (fun j e => ?_), hm.low (fun D hD => hg.block D (by omega) (ne D hD)), Nat.lt_of_lt_of_le hsz hg.size⟩
      have := b1.size
      rcases hbk j e with h | ⟨h, _⟩
      ·omega
      ·simp at h; omega
     ·refine ⟨64, R0.set d (l0.length : Int), HT1, (Row.drewN w1 _).kept (World.grownBy_alloc _ _ none) (by simp), by rw [List.length_set, hI.len], (boxed_drewN s1 _).alloc _, (boxed_drewN r1 _).alloc _, (boxed_drewN T1 _).alloc _, below_alloc (pw_below_drewN b1 _) _, (show Marks w.heap.size W1.heap.size ds (W1.drewN _) from Marks.low (W := W1) (fun _ _ => rfl) m1).low (fun D hD => (Below.heap_alloc _ _ _ (by simpa using hD))), by simp⟩
     ·intro l x V K hK
      gi_wp2
      exact hK
     ·rintro l z V ⟨k, Rz, hb, hrow, hlen, hs, hr, ht, hB, hm, hsz⟩ hz hz2
      cases k with
      | zero => cases hb
      | succ k =>
       simp only [bestIn] at hb
       rw [if_neg (by omega)] at hb
       by_cases hlt : d < Rz.length ∧ nxt d z < Rz.length
       ·rw [if_pos hlt] at hb
        obtain ⟨c1, hc1, hb⟩ := Option.bind_eq_some_iff.mp hb
        obtain ⟨b2, hb2, hc1⟩ := Option.bind_eq_some_iff.mp hc1
        have hsc := hs.cell
        have hnb := nxt_bits d z (by omega) hz hz2
        have HZ := Aside0.mk hz
        have HZ2 := Aside0.mk hz2
        have hnx : nxt d z < N := by rw [← hlen]; exact hlt.2
        obtain ⟨v, hv⟩ : ∃ v, Lib.ctz 64 z = v := ⟨_, rfl⟩
        obtain ⟨x, hx⟩ : ∃ x, nxt d z = x := ⟨_, rfl⟩
        rw [hx] at hnb hnx hb2 hb hlt
        rw [hv] at hnb ⊢
        have HNB := Aside0.mk hnb
        clear hnb hv hx hz hz2
        have HN := Aside0.mk hN
        clear hmake hw hN
        clear z1
        clear hdiff
        gi_wp2
        refine region_round (by omega) (by kernel_rfl) (by kernel_rfl) (by rintro ⟨a, W, h⟩; exact h) ?_
        refine layout_r8 (by intro c a a2 W h; exact h) sB d v V.drew [] (by exact hsc) ?_
        gi_wp2
        rw [show Go.bits .or .i64 (d : Int) (wrap64 (2 ^ min v 64)) = (x : Int) by have := HNB.out; simpa only [i64_w] using this]
        refine region_round (by omega) (by kernel_rfl) (by kernel_rfl) (by rintro ⟨a, W, h⟩; exact h) ?_
        refine layout_r9 (by intro c a a2 W h; exact h) A0 c0 l0 Rz w.heap.size (w.heap.size + 1 + 1) sB (w.heap.size + 1) d x N N b2 c1 _ [] (GL_below hGL (below_drew1 (below_drew1 hB))) (Kd.C_below HR.out (below_drew1 (below_drew1 hB))) hc0 hr.cell hs.cell ht.cell (hrow.cell d hlt.1) (hrow.cell x hlt.2) (hrow.frozen d) (by omega) hnx hb2 hc1 ?_
        intro V2 hV2
        gi_wp2
        have hd2 : Below V.heap.size V V2 := below_step (below_drew1 (below_drew1 (Below.refl _ _))) hV2
        have hs2 := hs.lt
        refine ⟨?_, ?_, k, _, hb, (hrow.below hd2).set d _, by rw [List.length_set]; exact hlen, ?_, ?_, ?_, ?_, ?_, ?_⟩
        ·exact KeepsOthers.trans ⟨hd2.size, fun k o hk _ => (hd2.block k (Array.getElem?_eq_some_iff.1 hk).1).trans hk⟩ (KeepsOthers.setCell _ _ _)
        ·exact (Below.heap_setCell V2 ⟨w.heap.size + 1, d, none⟩ _ _ (by have := w1.lt; simp; omega)).trans (hd2.block _ hsz)
        ·exact (show Boxed V2 sB 3 (.int .i64 (d : Int)) from (hd2.block _ hs.lt).trans hs).kept (grownBy_set V2 _ _) (by simp; omega)
        ·exact (show Boxed V2 (w.heap.size + 1 + 1) 22 (.slice (some ⟨w.heap.size + 1, 0, none⟩) N N) from (hd2.block _ hr.lt).trans hr).kept (grownBy_set V2 _ _) (by simp)
        ·exact (show Boxed V2 w.heap.size 76 (.slice A0 l0.length c0) from (hd2.block _ ht.lt).trans ht).kept (grownBy_set V2 _ _) (by simp)
        ·exact (below_step hB hd2).setCell (p := ⟨w.heap.size + 1, d, none⟩) (by simp) _
        ·exact hm.others (KeepsOthers.trans ⟨hd2.size, fun k o hk _ => (hd2.block k (Array.getElem?_eq_some_iff.1 hk).1).trans hk⟩ (KeepsOthers.setCell _ _ _))
        ·have := hd2.size
         simp
         omega
       ·rw [if_neg hlt] at hb
        cases hb
     ·rintro D V hD ⟨k, Rz, hb, hrow, hlen, hs, hr, ht, hB, hm, hsz⟩ hK
      have hz : Rz = R2 := by
       cases k with
       | zero => cases hb
       | succ k =>
        simp only [bestIn, if_pos] at hb
        exact Option.some.inj hb
      subst hz
      have hsc := hs.cell
      simp at hD
      have hsl := s1.lt
      have hxl := w1.lt
      gi_wp2
      refine ⟨?_, ?_⟩
      ·iterate 39 apply Exists.intro
       refine ⟨_, V.heap.size, d, Rz, rfl, below_alloc hB _, ht.alloc _, hrow.kept (World.grownBy_alloc _ _ none) (by simp), hlen, hr.alloc _, by omega, Boxed.new V 3 (.int .i64 ((d : Int) - 1)), by omega, HT2, ?_⟩
       have hDV := (Array.getElem?_eq_some_iff.1 hK).1
       exact ⟨D, rfl, by omega, by simp; omega, (Below.heap_alloc _ _ _ hDV).trans hK, (hm.low (fun E hE => Below.heap_alloc _ _ _ (by omega))).mono (by omega)⟩
      ·have e1 := (Boxed.new V 3 (.int .i64 ((d : Int) - 1))).cell
       simp only [setOf, Array.getD_eq_getD_getElem?, List.getElem?_toArray, List.getElem?_cons_succ, List.getElem?_cons_zero, Option.getD_some]
       rw [e1, hbs]
       simp
 ·rw [if_neg hlen] at h
  cases h
theorem sweep_town_layout.calls (A0 : Option Addr) (c0 : Nat) (l0 : List Int) (r1 : List Int) (r2 : Int) (w : World) (hGL : GL w) (hr0 : Kd.C (Kd.int .i64) w A0 l0.length l0) (hc0 : l0.length ≤ c0) (h : sweep_town_layout.f l0 = some (r1, r2)) :
  Calls Tryd.prog 50 #[.slice A0 l0.length c0] w fun e w' => ∃ v, e = .returned (.tuple #[v, .int .i64 r2]) ∧ Kd.R (Kd.int .i64) 3 w' w.heap.size (fun _ => True) v r1 ∧ Below w.heap.size w w' :=
 sweep_town_layout.calls0 A0 c0 l0 (r1, r2) w hGL hr0 hc0 h
end Go.Proofs.YtijfddobandcdaaDoor.X
end
section
namespace Go.Proofs.YtijfddobandcdaaDoor.X
open Go.RowKit YtijfddobandcdaaDoorW.PrintWords YtijfddobandcdaaDoorW.PrintLast YtijfddobandcdaaDoorW.PrintMore
attribute [local go_sem] max2_int min2_int max_two min_two max_three min_three max_four min_four
/-! ### sweep_read: function 49 -/
mutual
def sweep_read.j0 : Nat → List Int → Int → Bool → Option (List Int × Bool)
 | 0, _, _, _ => none
 | k + 1, x0, x4, x15 => if x15 = true then (some (([] : List Int), false)) else (sweep_read.l0 k x0 x4 x0 (x0.length : Int) 0)
def sweep_read.l0 : Nat → List Int → Int → List Int → Int → Int → Option (List Int × Bool)
 | 0, _, _, _, _, _ => none
 | k + 1, x0, x4, x16, x17, x18 => if x18 < x17 then (if 0 ≤ x18 then (if x18 < (x16.length : Int) then (if (rd x16 x18) < 0 then (sweep_read.j2 k x0 x4 x18 (rd x16 x18) x16 x17 x18 true) else (if 0 ≤ x4 then (if (rd x16 x18) ≥ (shl .i64 1 x4) then (sweep_read.j2 k x0 x4 x18 (rd x16 x18) x16 x17 x18 true) else (sweep_read.j2 k x0 x4 x18 (rd x16 x18) x16 x17 x18 ((Go.bits .and .i64 (shr .i64 (rd x16 x18) x18) 1) == 1))) else (none))) else (none)) else (none)) else (some (x0, true))
def sweep_read.j2 : Nat → List Int → Int → Int → Int → List Int → Int → Int → Bool → Option (List Int × Bool)
 | 0, _, _, _, _, _, _, _, _ => none
 | k + 1, x0, x4, x5, x6, x16, x17, x18, x37 => if x37 = true then (some (([] : List Int), false)) else (sweep_read.l1 k x0 x4 x5 x6 x16 x17 x18 x4 0)
def sweep_read.l1 : Nat → List Int → Int → Int → Int → List Int → Int → Int → Int → Int → Option (List Int × Bool)
 | 0, _, _, _, _, _, _, _, _, _ => none
 | k + 1, x0, x4, x5, x6, x16, x17, x18, x38, x39 => if x39 < x38 then (if 0 ≤ x39 then (if x39 < (x0.length : Int) then (if 0 ≤ x5 then (if (Go.bits .and .i64 (shr .i64 x6 x39) 1) = (Go.bits .and .i64 (shr .i64 (rd x0 x39) x5) 1) then (sweep_read.l1 k x0 x4 x5 x6 x16 x17 x18 x38 (wrap64 (x39 + 1))) else (some (([] : List Int), false))) else (none)) else (none)) else (none)) else (sweep_read.l0 k x0 x4 x16 x17 (wrap64 (x18 + 1)))
end
def sweep_read.f (k : Nat) (l0 : List Int) : Option (List Int × Bool) := if (l0.length : Int) < 1 then (sweep_read.j0 k l0 (l0.length : Int) true) else (sweep_read.j0 k l0 (l0.length : Int) (decide ((l0.length : Int) > 7)))
theorem sweep_read.mono_l : ∀ k, (∀ y0 y1 y2, LeO (sweep_read.j0 k y0 y1 y2) (sweep_read.j0 (k + 1) y0 y1 y2)) ∧ (∀ y0 y1 y2 y3 y4, LeO (sweep_read.l0 k y0 y1 y2 y3 y4) (sweep_read.l0 (k + 1) y0 y1 y2 y3 y4)) ∧ (∀ y0 y1 y2 y3 y4 y5 y6 y7, LeO (sweep_read.j2 k y0 y1 y2 y3 y4 y5 y6 y7) (sweep_read.j2 (k + 1) y0 y1 y2 y3 y4 y5 y6 y7)) ∧ (∀ y0 y1 y2 y3 y4 y5 y6 y7 y8, LeO (sweep_read.l1 k y0 y1 y2 y3 y4 y5 y6 y7 y8) (sweep_read.l1 (k + 1) y0 y1 y2 y3 y4 y5 y6 y7 y8))
 | 0 => ⟨fun _ _ _ r h => by simp [sweep_read.j0] at h, fun _ _ _ _ _ r h => by simp [sweep_read.l0] at h, fun _ _ _ _ _ _ _ _ r h => by simp [sweep_read.j2] at h, fun _ _ _ _ _ _ _ _ _ r h => by simp [sweep_read.l1] at h⟩
 | k + 1 => by
  obtain ⟨ih0, ih1, ih2, ih3⟩ := sweep_read.mono_l k
  refine ⟨?_, ?_, ?_, ?_⟩
  ·intro y0 y1 y2
   unfold sweep_read.j0
   repeat' first
   | (with_reducible exact ih0 _ _ _)
   | (with_reducible exact ih1 _ _ _ _ _)
   | (with_reducible exact ih2 _ _ _ _ _ _ _ _)
   | (with_reducible exact ih3 _ _ _ _ _ _ _ _ _)
   | (with_reducible exact LeO.refl _)
   | (with_reducible exact LeO.none _)
   | (with_reducible refine LeO.ite ?_ ?_)
   | (with_reducible refine LeO.bind ?_ (fun _ => ?_))
   | exact ih0 _ _ _
   | exact ih1 _ _ _ _ _
   | exact ih2 _ _ _ _ _ _ _ _
   | exact ih3 _ _ _ _ _ _ _ _ _
   | exact LeO.none _
   | refine LeO.ite ?_ ?_
   | refine LeO.bind ?_ (fun _ => ?_)
  ·intro y0 y1 y2 y3 y4
   unfold sweep_read.l0
   repeat' first
   | (with_reducible exact ih0 _ _ _)
   | (with_reducible exact ih1 _ _ _ _ _)
   | (with_reducible exact ih2 _ _ _ _ _ _ _ _)
   | (with_reducible exact ih3 _ _ _ _ _ _ _ _ _)
   | (with_reducible exact LeO.refl _)
   | (with_reducible exact LeO.none _)
   | (with_reducible refine LeO.ite ?_ ?_)
   | (with_reducible refine LeO.bind ?_ (fun _ => ?_))
   | exact ih0 _ _ _
   | exact ih1 _ _ _ _ _
   | exact ih2 _ _ _ _ _ _ _ _
   | exact ih3 _ _ _ _ _ _ _ _ _
   | exact LeO.none _
   | refine LeO.ite ?_ ?_
   | refine LeO.bind ?_ (fun _ => ?_)
  ·intro y0 y1 y2 y3 y4 y5 y6 y7
   unfold sweep_read.j2
   repeat' first
   | (with_reducible exact ih0 _ _ _)
   | (with_reducible exact ih1 _ _ _ _ _)
   | (with_reducible exact ih2 _ _ _ _ _ _ _ _)
   | (with_reducible exact ih3 _ _ _ _ _ _ _ _ _)
   | (with_reducible exact LeO.refl _)
   | (with_reducible exact LeO.none _)
   | (with_reducible refine LeO.ite ?_ ?_)
   | (with_reducible refine LeO.bind ?_ (fun _ => ?_))
   | exact ih0 _ _ _
   | exact ih1 _ _ _ _ _
   | exact ih2 _ _ _ _ _ _ _ _
   | exact ih3 _ _ _ _ _ _ _ _ _
   | exact LeO.none _
   | refine LeO.ite ?_ ?_
   | refine LeO.bind ?_ (fun _ => ?_)
  ·intro y0 y1 y2 y3 y4 y5 y6 y7 y8
   unfold sweep_read.l1
   repeat' first
   | (with_reducible exact ih0 _ _ _)
   | (with_reducible exact ih1 _ _ _ _ _)
   | (with_reducible exact ih2 _ _ _ _ _ _ _ _)
   | (with_reducible exact ih3 _ _ _ _ _ _ _ _ _)
   | (with_reducible exact LeO.refl _)
   | (with_reducible exact LeO.none _)
   | (with_reducible refine LeO.ite ?_ ?_)
   | (with_reducible refine LeO.bind ?_ (fun _ => ?_))
   | exact ih0 _ _ _
   | exact ih1 _ _ _ _ _
   | exact ih2 _ _ _ _ _ _ _ _
   | exact ih3 _ _ _ _ _ _ _ _ _
   | exact LeO.none _
   | refine LeO.ite ?_ ?_
   | refine LeO.bind ?_ (fun _ => ?_)
theorem sweep_read.mono : ∀ a0 k, LeO (sweep_read.f k a0) (sweep_read.f (k + 1) a0) := by
 intro a0 k
 obtain ⟨ih0, ih1, ih2, ih3⟩ := sweep_read.mono_l k
 unfold sweep_read.f
 repeat' first
   | (with_reducible exact ih0 _ _ _)
   | (with_reducible exact ih1 _ _ _ _ _)
   | (with_reducible exact ih2 _ _ _ _ _ _ _ _)
   | (with_reducible exact ih3 _ _ _ _ _ _ _ _ _)
   | (with_reducible exact LeO.refl _)
   | (with_reducible exact LeO.none _)
   | (with_reducible refine LeO.ite ?_ ?_)
   | (with_reducible refine LeO.bind ?_ (fun _ => ?_))
   | exact ih0 _ _ _
   | exact ih1 _ _ _ _ _
   | exact ih2 _ _ _ _ _ _ _ _
   | exact ih3 _ _ _ _ _ _ _ _ _
   | exact LeO.none _
   | refine LeO.ite ?_ ?_
   | refine LeO.bind ?_ (fun _ => ?_)
set_option maxHeartbeats 8000000 in
set_option maxRecDepth 100000 in
theorem sweep_read.calls (k : Nat) (P0_ : Nat → Prop) (A0 : Option Addr) (c0 : Nat) (l0 : List Int) (r1 : List Int) (r2 : Bool) (w : World) (hs0 : Kd.V (Kd.int .i64) 3 w w.heap.size (fun k_ => P0_ k_) (.slice A0 l0.length c0) l0) (h : sweep_read.f k l0 = some (r1, r2)) :
  Calls Tryd.prog 49 #[.slice A0 l0.length c0] w fun e w' => ∃ v0_ : Value, e = .returned (.tuple #[v0_, .bool r2]) ∧ Kd.V (Kd.int .i64) 3 w' w.heap.size (fun k_ => (P0_ k_ ∨ w.heap.size ≤ k_)) v0_ r1 ∧ Below w.heap.size w w' := by
 have HO0 := Aside0.mk (show Kd.V (Kd.int .i64) 3 w w.heap.size (fun k_ => (P0_ k_ ∨ w.heap.size ≤ k_)) (.slice A0 l0.length c0) l0 from Kd.V_mono hs0 (fun k_ hk => .inl hk))
 have HB := Aside0.mk (Below.refl w.heap.size w)
 have H : (if (l0.length : Int) < 1 then (sweep_read.j0 k l0 (l0.length : Int) true) else (sweep_read.j0 k l0 (l0.length : Int) (decide ((l0.length : Int) > 7)))) = some (r1, r2) := h
 clear h
 have HC2 := Aside0.mk H
 clear H
 go_enter Tryd.func49, Tryd.ntmps49
 go_upto_region 2 with (fail)
 repeat (go_quiet (fail); go_upto_region 2 with (fail))
 go_cut [15] (fun v15 wc => ∃ (kq : Nat) (x15_1 : Bool), v15 = .bool x15_1 ∧ Aside0 (sweep_read.j0 kq l0 (l0.length : Int) x15_1 = some (r1, r2)) ∧ Aside0 (kq ≤ k) ∧ Aside0 (Kd.V (Kd.int .i64) 3 wc w.heap.size (fun k_ => (P0_ k_ ∨ w.heap.size ≤ k_)) (.slice A0 l0.length c0) l0) ∧ Aside0 (Below w.heap.size w wc))
 case first =>
  have H := HC2.out
  clear HC2
  by_cases c3 : (l0.length : Int) < 1
  ·rw [if_pos c3] at H
   have c3b0 : decide ((l0.length : Int) < 1) = true := decide_eq_true c3
   have c3b1 : decide (l0.length < 1) = true := decide_eq_true (by omega)
   clear c3
   (first | rw [c3b0] | (simp only [i64_w, i32_w]; rw [c3b0]) | skip)
   have H' := Aside0.mk H
   clear H
   go_wp2
   repeat (go_quiet (fail); try go_wp2)
   go_meet
   case rel => exact ⟨_, (true), (by first | rfl | (simp; done) | (simp [*]; done)), H', ⟨by first | omega | exact Nat.le_refl _⟩, ⟨by (with_reducible repeat (first | apply Kd.V_alloc | apply Kd.V_drewN | apply Kd.V_drew)); exact HO0.out⟩, ⟨by repeat (first | (with_reducible first | exact HB.out | apply below_alloc | apply pw_below_drewN | apply below_drew1) | exact HB.out)⟩⟩
  ·rw [if_neg c3] at H
   have c3b0 : decide ((l0.length : Int) < 1) = false := decide_eq_false c3
   have c3b1 : decide (l0.length < 1) = false := decide_eq_false (by omega)
   clear c3
   (first | rw [c3b0] | (simp only [i64_w, i32_w]; rw [c3b0]) | skip)
   have H' := Aside0.mk H
   clear H
   go_wp2
   repeat (go_quiet (fail); try go_wp2)
   go_meet
   case rel => exact ⟨_, (decide ((l0.length : Int) > 7)), (by first | rfl | (simp; done) | (simp [*]; done)), H', ⟨by first | omega | exact Nat.le_refl _⟩, ⟨by (with_reducible repeat (first | apply Kd.V_alloc | apply Kd.V_drewN | apply Kd.V_drew)); exact HO0.out⟩, ⟨by repeat (first | (with_reducible first | exact HB.out | apply below_alloc | apply pw_below_drewN | apply below_drew1) | exact HB.out)⟩⟩
 case rest =>
  clear HC2
  try clear p2
  try clear c3
  try clear c3b0
  try clear c3b1
  obtain ⟨kq, x15_1, rfl, HA, HJ1, HO_0, HB⟩ := hcut
  cases kq with
  | zero => exact absurd HA.out (by simp [sweep_read.j0])
  | succ kj1 =>
   have H := HA.out
   clear HA
   simp only [sweep_read.j0] at H
   by_cases c4 : x15_1 = true
   ·subst c4
    have H1 : (some (([] : List Int), false)) = some (r1, r2) := by rw [if_pos rfl] at H; exact H
    clear H
    have H := H1
    clear H1
    simp only [Option.some.injEq, Prod.mk.injEq] at H
    obtain ⟨rfl, rfl⟩ := H
    go_wp2
    repeat (go_quiet (fail); try go_wp2)
    go_ret2
    exact ⟨_, by first | rfl | (simp [errW_none, errW_some] <;> rfl) | (simp [*, errW_none, errW_some] <;> rfl), Kd.V_nil _ _ _ _ _, by repeat (first | (with_reducible first | exact HB.out | apply below_alloc | apply pw_below_drewN | apply below_drew1) | exact HB.out)⟩
   ·replace c4 := Bool.eq_false_iff.mpr c4
    subst c4
    have H1 : (sweep_read.l0 kj1 l0 (l0.length : Int) l0 (l0.length : Int) 0) = some (r1, r2) := by rw [if_neg (show ¬ (false = true) by decide)] at H; exact H
    clear H
    have H := H1
    clear H1
    have H' := Aside0.mk H
    clear H
    go_wp2
    repeat (go_quiet (fail); try go_wp2)
    go_loopg [18] kj1 (fun kq v18 w' => ∃ (x18_2 : Int), v18 = .int .i64 x18_2 ∧ Aside0 (sweep_read.l0 kq l0 (l0.length : Int) l0 (l0.length : Int) x18_2 = some (r1, r2)) ∧ Aside0 (kq ≤ kj1) ∧ Aside0 (Kd.V (Kd.int .i64) 3 w' w.heap.size (fun k_ => (P0_ k_ ∨ w.heap.size ≤ k_)) (.slice A0 l0.length c0) l0) ∧ Aside0 (Kd.V (Kd.int .i64) 3 w' w.heap.size (fun k_ => (P0_ k_ ∨ w.heap.size ≤ k_)) (.slice A0 l0.length c0) l0) ∧ Aside0 (Below w.heap.size w w'))
    case atStart => exact ⟨(0), (by first | rfl | (simp; done) | (simp [*]; done)), H', ⟨Nat.le_refl _⟩, ⟨by (with_reducible repeat (first | apply Kd.V_alloc | apply Kd.V_drewN | apply Kd.V_drew)); exact HO_0.out⟩, ⟨by (with_reducible repeat (first | apply Kd.V_alloc | apply Kd.V_drewN | apply Kd.V_drew)); exact HO_0.out⟩, ⟨by repeat (first | (with_reducible first | exact HB.out | apply below_alloc | apply pw_below_drewN | apply below_drew1) | exact HB.out)⟩⟩
    case round =>
     clear H'
     try clear p2
     try clear c3
     try clear c3b0
     try clear c3b1
     try clear c4
     try clear p2
     obtain ⟨x18_2, rfl, HA, HK2, HO_0, HO_16, HB⟩ := hrel
     cases gk with
     | zero => exact absurd HA.out (by simp [sweep_read.l0])
     | succ k2 =>
      have H := HA.out
      clear HA
      simp only [sweep_read.l0] at H
      by_cases c5 : x18_2 < (l0.length : Int)
      ·rw [if_pos c5] at H
       have c5b0 : decide (x18_2 < (l0.length : Int)) = true := decide_eq_true c5
       clear c5
       by_cases c6 : 0 ≤ x18_2
       ·rw [if_pos c6] at H
        have c6b0 : decide (0 ≤ x18_2) = true := decide_eq_true c6
        clear c6
        by_cases c7 : x18_2 < (l0.length : Int)
        ·rw [if_pos c7] at H
         have c7b0 : decide (x18_2 < (l0.length : Int)) = true := decide_eq_true c7
         clear c7
         have HC8 := Aside0.mk H
         clear H
         have p101 : 0 ≤ (x18_2 : Int) := of_decide_eq_true (by first | (with_reducible assumption) | assumption)
         have q101 : x18_2 < (l0.length : Int) := of_decide_eq_true (by first | (with_reducible assumption) | assumption)
         obtain ⟨ad101, e101, hx101_0⟩ := Kd.at_int (Kd.V_reads' HO_16.out).2.2 x18_2 p101 q101
         cases e101
         replace p101 := eq_true p101
         replace q101 := eq_true q101
         go_upto_region 7 with (fail)
         repeat (go_quiet (fail); go_upto_region 7 with (fail))
         go_cut [37] (fun v37 wc => ∃ (kq : Nat) (x37_7 : Bool), v37 = .bool x37_7 ∧ Aside0 (sweep_read.j2 kq l0 (l0.length : Int) x18_2 (rd l0 x18_2) l0 (l0.length : Int) x18_2 x37_7 = some (r1, r2)) ∧ Aside0 (kq ≤ k2) ∧ Aside0 (Kd.V (Kd.int .i64) 3 wc w.heap.size (fun k_ => (P0_ k_ ∨ w.heap.size ≤ k_)) (.slice (some ad101) l0.length c0) l0) ∧ Aside0 (Kd.V (Kd.int .i64) 3 wc w.heap.size (fun k_ => (P0_ k_ ∨ w.heap.size ≤ k_)) (.slice (some ad101) l0.length c0) l0) ∧ Aside0 (Below w.heap.size w wc))
         case first =>
          have H := HC8.out
          clear HC8
          by_cases c9 : (rd l0 x18_2) < 0
          ·rw [if_pos c9] at H
           have c9b0 : decide ((rd l0 x18_2) < 0) = true := decide_eq_true c9
           clear c9
           (first | rw [c9b0] | (simp only [i64_w, i32_w]; rw [c9b0]) | skip)
           have H' := Aside0.mk H
           clear H
           go_wp2
           repeat (go_quiet (fail); try go_wp2)
           go_meet
           case rel => exact ⟨_, (true), (by first | rfl | (simp; done) | (simp [*]; done)), H', ⟨by have := HJ1.out; have := HK2.out; first | omega | exact Nat.le_refl _⟩, ⟨by (with_reducible repeat (first | apply Kd.V_alloc | apply Kd.V_drewN | apply Kd.V_drew)); exact HO_0.out⟩, ⟨by (with_reducible repeat (first | apply Kd.V_alloc | apply Kd.V_drewN | apply Kd.V_drew)); exact HO_16.out⟩, ⟨by repeat (first | (with_reducible first | exact HB.out | apply below_alloc | apply pw_below_drewN | apply below_drew1) | exact HB.out)⟩⟩
          ·rw [if_neg c9] at H
           have c9b0 : decide ((rd l0 x18_2) < 0) = false := decide_eq_false c9
           clear c9
           (first | rw [c9b0] | (simp only [i64_w, i32_w]; rw [c9b0]) | skip)
           by_cases c10 : 0 ≤ (l0.length : Int)
           ·rw [if_pos c10] at H
            have c10b0 := eq_true c10
            have c10b1 : decide (0 ≤ (l0.length : Int)) = true := decide_eq_true c10
            clear c10
            obtain ⟨ji11, hji11⟩ : ∃ j_ : Int, (shl .i64 1 (l0.length : Int)) = j_ := ⟨_, rfl⟩
            replace H : (if (rd l0 x18_2) ≥ (ji11) then (sweep_read.j2 k2 l0 (l0.length : Int) x18_2 (rd l0 x18_2) l0 (l0.length : Int) x18_2 true) else (sweep_read.j2 k2 l0 (l0.length : Int) x18_2 (rd l0 x18_2) l0 (l0.length : Int) x18_2 ((Go.bits .and .i64 (shr .i64 (rd l0 x18_2) x18_2) 1) == 1))) = some (r1, r2) := by first | (rw [hji11] at H; exact H) | (simp only [hji11] at H ⊢; exact H)
            have hji11_ : (IntKind.i64.wrap (1 * 2 ^ min (l0.length : Int).toNat 64)) = ji11 := hji11
            have hji11z : (l0.length : Int) ≤ 64 → (IntKind.i64.wrap (1 * 2 ^ (l0.length : Int).toNat)) = ji11 := shl_small hji11
            have hji11p : (IntKind.i64.wrap (1 * 2 ^ min l0.length 64)) = ji11 := hji11_
            have hji11q : (l0.length : Int) ≤ 64 → (IntKind.i64.wrap (1 * 2 ^ l0.length)) = ji11 := hji11z
            have hji11r : (IntKind.i64.wrap (2 ^ min l0.length 64)) = ji11 := by have h_ := hji11p; rw [Int.one_mul] at h_; exact h_
            have hji11s : (l0.length : Int) ≤ 64 → (IntKind.i64.wrap (2 ^ l0.length)) = ji11 := fun hle_ => by have h_ := hji11q hle_; rw [Int.one_mul] at h_; exact h_
            have hji11u : (IntKind.i64.wrap (2 ^ min (l0.length : Int).toNat 64)) = ji11 := by have h_ := hji11_; rw [Int.one_mul] at h_; exact h_
            have hji11v : (l0.length : Int) ≤ 64 → (IntKind.i64.wrap (2 ^ (l0.length : Int).toNat)) = ji11 := fun hle_ => by have h_ := hji11z hle_; rw [Int.one_mul] at h_; exact h_
            have hji11y : (wrap64 (1 * 2 ^ min (l0.length : Int).toNat 64)) = ji11 := (i64_w _).symm.trans hji11_
            have hji11x : (l0.length : Int) ≤ 64 → (wrap64 (1 * 2 ^ (l0.length : Int).toNat)) = ji11 := fun h_ => (i64_w _).symm.trans (hji11z h_)
            by_cases c12 : (rd l0 x18_2) ≥ (ji11)
            ·rw [if_pos c12] at H
             have c12b0 : decide ((ji11) ≤ (rd l0 x18_2)) = true := decide_eq_true c12
             clear c12
             have H' := Aside0.mk H
             clear H
             go_wp2
             repeat (go_quiet (fail); try go_wp2)
             go_meet
             case rel => exact ⟨_, (true), (by first | rfl | (simp; done) | (simp [*]; done)), H', ⟨by have := HJ1.out; have := HK2.out; first | omega | exact Nat.le_refl _⟩, ⟨by (with_reducible repeat (first | apply Kd.V_alloc | apply Kd.V_drewN | apply Kd.V_drew)); exact HO_0.out⟩, ⟨by (with_reducible repeat (first | apply Kd.V_alloc | apply Kd.V_drewN | apply Kd.V_drew)); exact HO_16.out⟩, ⟨by repeat (first | (with_reducible first | exact HB.out | apply below_alloc | apply pw_below_drewN | apply below_drew1) | exact HB.out)⟩⟩
            ·rw [if_neg c12] at H
             have c12b0 : decide ((ji11) ≤ (rd l0 x18_2)) = false := decide_eq_false c12
             clear c12
             have c13b0 := eq_true (of_decide_eq_true (by first | (with_reducible assumption) | assumption) : 0 ≤ x18_2)
             obtain ⟨ji14, hji14⟩ : ∃ j_ : Int, (shr .i64 (rd l0 x18_2) x18_2) = j_ := ⟨_, rfl⟩
             replace H : (sweep_read.j2 k2 l0 (l0.length : Int) x18_2 (rd l0 x18_2) l0 (l0.length : Int) x18_2 ((Go.bits .and .i64 (ji14) 1) == 1)) = some (r1, r2) := by first | (rw [hji14] at H; exact H) | (simp only [hji14] at H ⊢; exact H)
             have hji14_ : ((rd l0 x18_2) / 2 ^ min x18_2.toNat 64) = ji14 := hji14
             have hji14z : x18_2 ≤ 64 → ((rd l0 x18_2) / 2 ^ x18_2.toNat) = ji14 := shr_small hji14
             have H' := Aside0.mk H
             clear H
             go_wp2
             repeat (go_quiet (fail); try go_wp2)
             go_meet
             case rel => exact ⟨_, (((Go.bits .and .i64 (ji14) 1) == 1)), (by first | rfl | (simp; done) | (simp only [← hji14] <;> (first | rfl | simp)) | (simp [*]; done)), H', ⟨by have := HJ1.out; have := HK2.out; first | omega | exact Nat.le_refl _⟩, ⟨by (with_reducible repeat (first | apply Kd.V_alloc | apply Kd.V_drewN | apply Kd.V_drew)); exact HO_0.out⟩, ⟨by (with_reducible repeat (first | apply Kd.V_alloc | apply Kd.V_drewN | apply Kd.V_drew)); exact HO_16.out⟩, ⟨by repeat (first | (with_reducible first | exact HB.out | apply below_alloc | apply pw_below_drewN | apply below_drew1) | exact HB.out)⟩⟩
           ·rw [if_neg c10] at H
            exact absurd H (by simp)
         case rest =>
          clear HC8
          try clear c1
          try clear p1
          try clear q1
          try clear hx1
          try clear p2
          try clear c3
          try clear c3b0
          try clear c3b1
          try clear c4
          try clear c5
          try clear c5b0
          try clear c6
          try clear c6b0
          try clear p6
          try clear c7
          try clear c7b0
          try clear c9
          try clear c9b0
          try clear c10
          try clear c10b0
          try clear c10b1
          try clear p10
          try clear q10
          try clear hx10
          try clear c12
          try clear c12b0
          try clear c13
          try clear c13b0
          try clear hx101_0
          try clear p101
          try clear p2
          try clear q101
          obtain ⟨kq, x37_7, rfl, HA, HJ7, HO_0, HO_16, HB⟩ := hcut
          cases kq with
          | zero => exact absurd HA.out (by simp [sweep_read.j2])
          | succ kj7 =>
           have H := HA.out
           clear HA
           simp only [sweep_read.j2] at H
           by_cases c15 : x37_7 = true
           ·subst c15
            have H1 : (some (([] : List Int), false)) = some (r1, r2) := by rw [if_pos rfl] at H; exact H
            clear H
            have H := H1
            clear H1
            simp only [Option.some.injEq, Prod.mk.injEq] at H
            obtain ⟨rfl, rfl⟩ := H
            go_wp2
            repeat (go_quiet (fail); try go_wp2)
            go_ret2
            exact ⟨_, by first | rfl | (simp [errW_none, errW_some] <;> rfl) | (simp [*, errW_none, errW_some] <;> rfl), Kd.V_nil _ _ _ _ _, by repeat (first | (with_reducible first | exact HB.out | apply below_alloc | apply pw_below_drewN | apply below_drew1) | exact HB.out)⟩
           ·replace c15 := Bool.eq_false_iff.mpr c15
            subst c15
            have H1 : (sweep_read.l1 kj7 l0 (l0.length : Int) x18_2 (rd l0 x18_2) l0 (l0.length : Int) x18_2 (l0.length : Int) 0) = some (r1, r2) := by rw [if_neg (show ¬ (false = true) by decide)] at H; exact H
            clear H
            have H := H1
            clear H1
            have H' := Aside0.mk H
            clear H
            go_wp2
            repeat (go_quiet (fail); try go_wp2)
            go_loopg [39] kj7 (fun kq v39 w' => ∃ (x39_4 : Int), v39 = .int .i64 x39_4 ∧ Aside0 (sweep_read.l1 kq l0 (l0.length : Int) x18_2 (rd l0 x18_2) l0 (l0.length : Int) x18_2 (l0.length : Int) x39_4 = some (r1, r2)) ∧ Aside0 (kq ≤ kj7) ∧ Aside0 (Kd.V (Kd.int .i64) 3 w' w.heap.size (fun k_ => (P0_ k_ ∨ w.heap.size ≤ k_)) (.slice (some ad101) l0.length c0) l0) ∧ Aside0 (Kd.V (Kd.int .i64) 3 w' w.heap.size (fun k_ => (P0_ k_ ∨ w.heap.size ≤ k_)) (.slice (some ad101) l0.length c0) l0) ∧ Aside0 (Below w.heap.size w w'))
            case atStart => exact ⟨(0), (by first | rfl | (simp; done) | (simp [*]; done)), H', ⟨Nat.le_refl _⟩, ⟨by (with_reducible repeat (first | apply Kd.V_alloc | apply Kd.V_drewN | apply Kd.V_drew)); exact HO_0.out⟩, ⟨by (with_reducible repeat (first | apply Kd.V_alloc | apply Kd.V_drewN | apply Kd.V_drew)); exact HO_16.out⟩, ⟨by repeat (first | (with_reducible first | exact HB.out | apply below_alloc | apply pw_below_drewN | apply below_drew1) | exact HB.out)⟩⟩
            case round =>
             clear H'
             try clear c1
             try clear p1
             try clear q1
             try clear hx1
             try clear p2
             try clear c3
             try clear c3b0
             try clear c3b1
             try clear c4
             try clear c5
             try clear c5b0
             try clear c6
             try clear c6b0
             try clear p6
             try clear c7
             try clear c7b0
             try clear c9
             try clear c9b0
             try clear c10
             try clear c10b0
             try clear c10b1
             try clear p10
             try clear q10
             try clear hx10
             try clear c12
             try clear c12b0
             try clear c13
             try clear c13b0
             try clear c15
             try clear hx101_0
             try clear p1
             try clear p10
             try clear p101
             try clear p2
             try clear p6
             try clear q1
             try clear q10
             try clear q101
             obtain ⟨x39_4, rfl, HA, HK4, HO_0, HO_16, HB⟩ := hrel
             cases gk with
             | zero => exact absurd HA.out (by simp [sweep_read.l1])
             | succ k4 =>
              have H := HA.out
              clear HA
              simp only [sweep_read.l1] at H
              by_cases c16 : x39_4 < (l0.length : Int)
              ·rw [if_pos c16] at H
               have c16b0 : decide (x39_4 < (l0.length : Int)) = true := decide_eq_true c16
               clear c16
               by_cases c17 : 0 ≤ x39_4
               ·rw [if_pos c17] at H
                have c17b0 := eq_true c17
                have c17b1 : decide (0 ≤ x39_4) = true := decide_eq_true c17
                clear c17
                obtain ⟨ji18, hji18⟩ : ∃ j_ : Int, (shr .i64 (rd l0 x18_2) x39_4) = j_ := ⟨_, rfl⟩
                replace H : (if x39_4 < (l0.length : Int) then (if 0 ≤ x18_2 then (if (Go.bits .and .i64 (ji18) 1) = (Go.bits .and .i64 (shr .i64 (rd l0 x39_4) x18_2) 1) then (sweep_read.l1 k4 l0 (l0.length : Int) x18_2 (rd l0 x18_2) l0 (l0.length : Int) x18_2 (l0.length : Int) (wrap64 (x39_4 + 1))) else (some (([] : List Int), false))) else (none)) else (none)) = some (r1, r2) := by first | (rw [hji18] at H; exact H) | (simp only [hji18] at H ⊢; exact H)
                have hji18_ : ((rd l0 x18_2) / 2 ^ min x39_4.toNat 64) = ji18 := hji18
                have hji18z : x39_4 ≤ 64 → ((rd l0 x18_2) / 2 ^ x39_4.toNat) = ji18 := shr_small hji18
                by_cases c19 : x39_4 < (l0.length : Int)
                ·rw [if_pos c19] at H
                 have c19b0 : decide (x39_4 < (l0.length : Int)) = true := decide_eq_true c19
                 clear c19
                 by_cases c20 : 0 ≤ x18_2
                 ·rw [if_pos c20] at H
                  have c20b0 := eq_true c20
                  have c20b1 : decide (0 ≤ x18_2) = true := decide_eq_true c20
                  clear c20
                  obtain ⟨ji21, hji21⟩ : ∃ j_ : Int, (shr .i64 (rd l0 x39_4) x18_2) = j_ := ⟨_, rfl⟩
                  replace H : (if (Go.bits .and .i64 (ji18) 1) = (Go.bits .and .i64 (ji21) 1) then (sweep_read.l1 k4 l0 (l0.length : Int) x18_2 (rd l0 x18_2) l0 (l0.length : Int) x18_2 (l0.length : Int) (wrap64 (x39_4 + 1))) else (some (([] : List Int), false))) = some (r1, r2) := by first | (rw [hji21] at H; exact H) | (simp only [hji21] at H ⊢; exact H)
                  have hji21_ : ((rd l0 x39_4) / 2 ^ min x18_2.toNat 64) = ji21 := hji21
                  have hji21z : x18_2 ≤ 64 → ((rd l0 x39_4) / 2 ^ x18_2.toNat) = ji21 := shr_small hji21
                  by_cases c22 : (Go.bits .and .i64 (ji18) 1) = (Go.bits .and .i64 (ji21) 1)
                  ·rw [if_pos c22] at H
                   have c22b0 : ((Go.bits .and .i64 (ji18) 1) == (Go.bits .and .i64 (ji21) 1)) = true := beq_iff_eq.mpr c22
                   have c22b1 : ((Go.bits .and .i64 (ji18) 1) != (Go.bits .and .i64 (ji21) 1)) = false := bne_eq_false_iff_eq.mpr c22
                   clear c22
                   have H' := Aside0.mk H
                   clear H
                   have p102 : 0 ≤ (x39_4 : Int) := of_decide_eq_true (by first | (with_reducible assumption) | assumption)
                   have q102 : x39_4 < (l0.length : Int) := of_decide_eq_true (by first | (with_reducible assumption) | assumption)
                   obtain ⟨ad102, e102, hx102_0⟩ := Kd.at_int (Kd.V_reads' HO_0.out).2.2 x39_4 p102 q102
                   obtain rfl : ad101 = ad102 := (by injection e102)
                   replace p102 := eq_true p102
                   replace q102 := eq_true q102
                   go_wp2
                   repeat (go_quiet (fail); try go_wp2)
                   go_roundg k4
                   case measure => have := HJ1.out; have := HK2.out; have := HJ7.out; have := HK4.out; omega
                   case rel => exact ⟨(wrap64 (x39_4 + 1)), (by first | rfl | (simp; done) | (simp [*]; done)), H', ⟨by have := HJ1.out; have := HK2.out; have := HJ7.out; have := HK4.out; omega⟩, ⟨by (with_reducible repeat (first | apply Kd.V_alloc | apply Kd.V_drewN | apply Kd.V_drew)); exact HO_0.out⟩, ⟨by (with_reducible repeat (first | apply Kd.V_alloc | apply Kd.V_drewN | apply Kd.V_drew)); exact HO_16.out⟩, ⟨by repeat (first | (with_reducible first | exact HB.out | apply below_alloc | apply pw_below_drewN | apply below_drew1) | exact HB.out)⟩⟩
                  ·rw [if_neg c22] at H
                   have c22b0 : ((Go.bits .and .i64 (ji18) 1) == (Go.bits .and .i64 (ji21) 1)) = false := beq_eq_false_iff_ne.mpr c22
                   have c22b1 : ((Go.bits .and .i64 (ji18) 1) != (Go.bits .and .i64 (ji21) 1)) = true := bne_iff_ne.mpr c22
                   simp only [Option.some.injEq, Prod.mk.injEq] at H
                   obtain ⟨rfl, rfl⟩ := H
                   have p102 : 0 ≤ (x39_4 : Int) := of_decide_eq_true (by first | (with_reducible assumption) | assumption)
                   have q102 : x39_4 < (l0.length : Int) := of_decide_eq_true (by first | (with_reducible assumption) | assumption)
                   obtain ⟨ad102, e102, hx102_0⟩ := Kd.at_int (Kd.V_reads' HO_0.out).2.2 x39_4 p102 q102
                   obtain rfl : ad101 = ad102 := (by injection e102)
                   replace p102 := eq_true p102
                   replace q102 := eq_true q102
                   go_wp2
                   repeat (go_quiet (fail); try go_wp2)
                   go_ret2
                   exact ⟨_, by first | rfl | (simp [errW_none, errW_some] <;> rfl) | (simp only [← hji18, ← hji21]; first | rfl | (simp [errW_none, errW_some] <;> rfl)) | (simp [*, errW_none, errW_some] <;> rfl), Kd.V_nil _ _ _ _ _, by repeat (first | (with_reducible first | exact HB.out | apply below_alloc | apply pw_below_drewN | apply below_drew1) | exact HB.out)⟩
                 ·rw [if_neg c20] at H
                  exact absurd H (by simp)
                ·rw [if_neg c19] at H
                 exact absurd H (by simp)
               ·rw [if_neg c17] at H
                exact absurd H (by simp)
              ·rw [if_neg c16] at H
               have c16b0 : decide (x39_4 < (l0.length : Int)) = false := decide_eq_false c16
               clear c16
               have H' := Aside0.mk H
               clear H
               go_wp2
               repeat (go_quiet (fail); try go_wp2)
               go_roundg k4
               case measure => have := HJ1.out; have := HK2.out; have := HJ7.out; have := HK4.out; omega
               case rel => exact ⟨(wrap64 (x18_2 + 1)), (by first | rfl | (simp; done) | (simp [*]; done)), H', ⟨by have := HJ1.out; have := HK2.out; have := HJ7.out; have := HK4.out; omega⟩, ⟨by (with_reducible repeat (first | apply Kd.V_alloc | apply Kd.V_drewN | apply Kd.V_drew)); exact HO_0.out⟩, ⟨by (with_reducible repeat (first | apply Kd.V_alloc | apply Kd.V_drewN | apply Kd.V_drew)); exact HO_16.out⟩, ⟨by repeat (first | (with_reducible first | exact HB.out | apply below_alloc | apply pw_below_drewN | apply below_drew1) | exact HB.out)⟩⟩
        ·rw [if_neg c7] at H
         exact absurd H (by simp)
       ·rw [if_neg c6] at H
        exact absurd H (by simp)
      ·rw [if_neg c5] at H
       have c5b0 : decide (x18_2 < (l0.length : Int)) = false := decide_eq_false c5
       clear c5
       simp only [Option.some.injEq, Prod.mk.injEq] at H
       obtain ⟨rfl, rfl⟩ := H
       go_wp2
       repeat (go_quiet (fail); try go_wp2)
       go_ret2
       exact ⟨_, by first | rfl | (simp [errW_none, errW_some] <;> rfl) | (simp [*, errW_none, errW_some] <;> rfl), by (with_reducible repeat (first | apply Kd.V_alloc | apply Kd.V_drewN | apply Kd.V_drew)); exact HO_0.out, by repeat (first | (with_reducible first | exact HB.out | apply below_alloc | apply pw_below_drewN | apply below_drew1) | exact HB.out)⟩
end Go.Proofs.YtijfddobandcdaaDoor.X
end
section
namespace Go.Proofs.YtijfddobandcdaaDoor.X
open Go.RowKit YtijfddobandcdaaDoorW.PrintWords YtijfddobandcdaaDoorW.PrintLast YtijfddobandcdaaDoorW.PrintMore
attribute [local go_sem] max2_int min2_int max_two min_two max_three min_three max_four min_four
/-! ### sweep_Layout: function 22 -/
def sweep_Layout.f (k : Nat) (l0 : List Int) : Option (List Int × Int × Int) := (sweep_read.f k l0).bind fun bt105 => (if bt105.2 = true then ((sweep_town_layout.f bt105.1).bind fun bt109 => (some (bt109.1, bt109.2, 0))) else (some (([] : List Int), 0, 2)))
theorem sweep_Layout.mono : ∀ a0 k, LeO (sweep_Layout.f k a0) (sweep_Layout.f (k + 1) a0) := by
 intro a0 k
 unfold sweep_Layout.f
 repeat' first
   | (with_reducible exact sweep_read.mono _ _)
   | (with_reducible exact LeO.refl _)
   | (with_reducible exact LeO.none _)
   | (with_reducible refine LeO.ite ?_ ?_)
   | (with_reducible refine LeO.bind ?_ (fun _ => ?_))
   | exact sweep_read.mono _ _
   | exact LeO.none _
   | refine LeO.ite ?_ ?_
   | refine LeO.bind ?_ (fun _ => ?_)
set_option maxHeartbeats 8000000 in
set_option maxRecDepth 100000 in
theorem sweep_Layout.calls (k : Nat) (A0 : Option Addr) (c0 : Nat) (l0 : List Int) (r1 : List Int) (r2 : Int) (r3 : Int) (w : World) (hGL : GL w) (hr0 : Kd.C (Kd.int .i64) w A0 l0.length l0) (hc0 : l0.length ≤ c0) (h : sweep_Layout.f k l0 = some (r1, r2, r3)) :
  Calls Tryd.prog 22 #[.slice A0 l0.length c0] w fun e w' => ∃ v0_ : Value, e = .returned (.tuple #[v0_, .int .i64 r2, .int .i64 r3]) ∧ Kd.R (Kd.int .i64) 3 w' w.heap.size (fun _ => True) v0_ r1 ∧ Below w.heap.size w w' := by
 have HGL := Aside0.mk hGL
 clear hGL
 have HR0 := Aside0.mk hr0
 have HC0 := Aside0.mk hc0
 clear hr0 hc0
 have HB := Aside0.mk (Below.refl w.heap.size w)
 have H : ((sweep_read.f k l0).bind fun bt105 => (if bt105.2 = true then ((sweep_town_layout.f bt105.1).bind fun bt109 => (some (bt109.1, bt109.2, 0))) else (some (([] : List Int), 0, 2)))) = some (r1, r2, r3) := h
 clear h
 replace H := Option.bind_eq_some_iff.mp H
 obtain ⟨⟨t105, t108⟩, A20, H⟩ := H
 replace H : (if t108 = true then ((sweep_town_layout.f t105).bind fun bt109 => (some (bt109.1, bt109.2, 0))) else (some (([] : List Int), 0, 2))) = some (r1, r2, r3) := H
 have A2 := Aside0.mk A20
 clear A20
 by_cases c3 : t108 = true
 ·subst c3
  have H1 : ((sweep_town_layout.f t105).bind fun bt109 => (some (bt109.1, bt109.2, 0))) = some (r1, r2, r3) := by rw [if_pos rfl] at H; exact H
  clear H
  have H := H1
  clear H1
  replace H := Option.bind_eq_some_iff.mp H
  obtain ⟨⟨t109, t110⟩, A40, H⟩ := H
  replace H : (some (t109, t110, 0)) = some (r1, r2, r3) := H
  have A4 := Aside0.mk A40
  clear A40
  simp only [Option.some.injEq, Prod.mk.injEq] at H
  obtain ⟨rfl, rfl, rfl⟩ := H
  go_enter Tryd.func22, Tryd.ntmps22
  go_wp2_with (first | ((with_reducible refine gate_callee (f := 49) rfl ?_); refine goesL_ (some 11) rfl rfl Tryd.func49 (by kernel_rfl) rfl #[.slice A0 l0.length c0] rfl (Qls) ?_; (with_reducible refine (sweep_read.calls k (fun k_ => k_ < w.heap.size) _ _ l0 t105 true _ ?side1 A2.out).mono ?_); (case side1 => exact Kd.V_mk HC0.out (Kd.F_below (Kd.C_F (Kd.heap_int .i64) HR0.out) (Qaw))); rintro e w5 ⟨v106, rfl, ho0, hb⟩; refine ⟨_, rfl, ?_⟩; have n0_ := Aside0.mk (Kd.V_lower (Kd.V_mono (ok' := fun k_ => True) ho0 (fun k_ hk_ => trivial)) (below_size (Qaw))); have n1_ := Aside0.mk (below_step (Qaw) hb); clear HB; have HO107 := n0_; have HB := n1_; clear n0_ n1_; (try clear hb); (try clear hb2); (try clear hk); (try clear hi); (try clear ho0); obtain ⟨Ao6, co6, eo6⟩ := Kd.V_slice HO107.out; subst eo6) | ((with_reducible refine gate_callee (f := 50) rfl ?_); refine goesL_ (some 18) rfl rfl Tryd.func50 (by kernel_rfl) rfl #[.slice Ao6 t105.length co6] rfl (Qls) ?_; (with_reducible refine (sweep_town_layout.calls (hGL := (Qlg)) _ _ t105 t109 t110 _ ?side1 ?side2 A4.out).mono ?_); (case side1 => exact Qsc (Kd.V_reads' HO107.out).2.2); (case side2 => exact (Kd.V_reads' HO107.out).2.1); rintro e w7 ⟨v111, rfl, ho0, hb⟩; refine ⟨_, rfl, ?_⟩; have n0_ := Aside0.mk (Kd.V_elder' (by (with_reducible repeat (first | apply Kd.V_alloc | apply Kd.V_drewN | apply Kd.V_drew)); exact HO107.out) (Kd.R_base ho0) hb); have n1_ := Aside0.mk (Kd.R_lower ho0 (below_size (Qaw))); have n2_ := Aside0.mk (below_step (Qaw) hb); clear HO107; clear HB; have HO107 := n0_; have HO112 := n1_; have HB := n2_; clear n0_ n1_ n2_; (try clear hb); (try clear hb2); (try clear hk); (try clear hi); (try clear ho0)))
  go_ret3
  exact ⟨_, by first | rfl | (simp [errW_none, errW_some] <;> rfl) | (simp [*, errW_none, errW_some] <;> rfl), by (with_reducible repeat (first | apply Kd.R_alloc | apply Kd.R_drewN | apply Kd.R_drew)); exact HO112.out, by repeat (first | (with_reducible first | exact HB.out | apply below_alloc | apply pw_below_drewN | apply below_drew1) | exact HB.out)⟩
 ·replace c3 := Bool.eq_false_iff.mpr c3
  subst c3
  have H1 : (some (([] : List Int), 0, 2)) = some (r1, r2, r3) := by rw [if_neg (show ¬ (false = true) by decide)] at H; exact H
  clear H
  have H := H1
  clear H1
  simp only [Option.some.injEq, Prod.mk.injEq] at H
  obtain ⟨rfl, rfl, rfl⟩ := H
  go_enter Tryd.func22, Tryd.ntmps22
  go_wp2_with (first | ((with_reducible refine gate_callee (f := 49) rfl ?_); refine goesL_ (some 11) rfl rfl Tryd.func49 (by kernel_rfl) rfl #[.slice A0 l0.length c0] rfl (Qls) ?_; (with_reducible refine (sweep_read.calls k (fun k_ => k_ < w.heap.size) _ _ l0 t105 false _ ?side1 A2.out).mono ?_); (case side1 => exact Kd.V_mk HC0.out (Kd.F_below (Kd.C_F (Kd.heap_int .i64) HR0.out) (Qaw))); rintro e w8 ⟨v106, rfl, ho0, hb⟩; refine ⟨_, rfl, ?_⟩; have n0_ := Aside0.mk (Kd.V_lower (Kd.V_mono (ok' := fun k_ => True) ho0 (fun k_ hk_ => trivial)) (below_size (Qaw))); have n1_ := Aside0.mk (below_step (Qaw) hb); clear HB; have HO107 := n0_; have HB := n1_; clear n0_ n1_; (try clear hb); (try clear hb2); (try clear hk); (try clear hi); (try clear ho0)))
  go_ret3
  exact ⟨_, by first | rfl | (simp [errW_none, errW_some] <;> rfl) | (simp [*, errW_none, errW_some] <;> rfl), by first | exact Kd.R_nil _ _ _ _ _ | exact Kd.N_nil _ _ _ _ _ | exact Kd.V_nil _ _ _ _ _ | exact Kd.Q_nil _ _ _ _ _ | exact Kd.S_nil _ _ _ _ _, by repeat (first | (with_reducible first | exact HB.out | apply below_alloc | apply pw_below_drewN | apply below_drew1) | exact HB.out)⟩
end Go.Proofs.YtijfddobandcdaaDoor.X
end
section
namespace Go.Proofs.YtijfddobandcdaaDoor.X
open Go.RowKit YtijfddobandcdaaDoorW.PrintWords YtijfddobandcdaaDoorW.PrintLast YtijfddobandcdaaDoorW.PrintMore
attribute [local go_sem] max2_int min2_int max_two min_two max_three min_three max_four min_four
/-! ### sweep_Least: function 17 -/
def sweep_Least.f (k : Nat) (l0 : List Int) : Option (Int × Int) := (sweep_Layout.f k l0).bind fun bt113 => (if bt113.2.2 = 0 then (some (wrap64 (bt113.2.1 + 1), 0)) else (some (0, bt113.2.2)))
theorem sweep_Least.mono : ∀ a0 k, LeO (sweep_Least.f k a0) (sweep_Least.f (k + 1) a0) := by
 intro a0 k
 unfold sweep_Least.f
 repeat' first
   | (with_reducible exact sweep_Layout.mono _ _)
   | (with_reducible exact LeO.refl _)
   | (with_reducible exact LeO.none _)
   | (with_reducible refine LeO.ite ?_ ?_)
   | (with_reducible refine LeO.bind ?_ (fun _ => ?_))
   | exact sweep_Layout.mono _ _
   | exact LeO.none _
   | refine LeO.ite ?_ ?_
   | refine LeO.bind ?_ (fun _ => ?_)
set_option maxHeartbeats 8000000 in
set_option maxRecDepth 100000 in
theorem sweep_Least.calls (k : Nat) (A0 : Option Addr) (c0 : Nat) (l0 : List Int) (r1 : Int) (r2 : Int) (w : World) (hGL : GL w) (hr0 : Kd.C (Kd.int .i64) w A0 l0.length l0) (hc0 : l0.length ≤ c0) (h : sweep_Least.f k l0 = some (r1, r2)) :
  Calls Tryd.prog 17 #[.slice A0 l0.length c0] w fun e w' => e = .returned (.tuple #[.int .i64 r1, .int .i64 r2]) ∧ Below w.heap.size w w' := by
 have HGL := Aside0.mk hGL
 clear hGL
 have HR0 := Aside0.mk hr0
 have HC0 := Aside0.mk hc0
 clear hr0 hc0
 have HB := Aside0.mk (Below.refl w.heap.size w)
 have H : ((sweep_Layout.f k l0).bind fun bt113 => (if bt113.2.2 = 0 then (some (wrap64 (bt113.2.1 + 1), 0)) else (some (0, bt113.2.2)))) = some (r1, r2) := h
 clear h
 replace H := Option.bind_eq_some_iff.mp H
 obtain ⟨⟨t113, t114, t115⟩, A20, H⟩ := H
 replace H : (if t115 = 0 then (some (wrap64 (t114 + 1), 0)) else (some (0, t115))) = some (r1, r2) := H
 have A2 := Aside0.mk A20
 clear A20
 by_cases c3 : t115 = 0
 ·rw [if_pos c3] at H
  have c3b0 : (t115 == 0) = true := beq_iff_eq.mpr c3
  have c3b1 : (t115 != 0) = false := bne_eq_false_iff_eq.mpr c3
  clear c3
  simp only [Option.some.injEq, Prod.mk.injEq] at H
  obtain ⟨rfl, rfl⟩ := H
  go_enter Tryd.func17, Tryd.ntmps17
  go_wp2_with (first | ((with_reducible refine gate_callee (f := 22) rfl ?_); refine goesL_ (some 9) rfl rfl Tryd.func22 (by kernel_rfl) rfl #[.slice A0 l0.length c0] rfl (Qls) ?_; (with_reducible refine (sweep_Layout.calls (hGL := (Qlg)) k _ _ l0 t113 t114 t115 _ ?side1 ?side2 A2.out).mono ?_); (case side1 => exact Qsc HR0.out); (case side2 => exact HC0.out); rintro e w4 ⟨v116, rfl, ho0, hb⟩; refine ⟨_, rfl, ?_⟩; have n0_ := Aside0.mk (Kd.R_lower ho0 (below_size (Qaw))); have n1_ := Aside0.mk (below_step (Qaw) hb); clear HB; have HO117 := n0_; have HB := n1_; clear n0_ n1_; (try clear hb); (try clear hb2); (try clear hk); (try clear hi); (try clear ho0)))
  go_ret2
  exact ⟨by first | rfl | (simp [errW_none, errW_some] <;> rfl) | (simp [*, errW_none, errW_some] <;> rfl), by repeat (first | (with_reducible first | exact HB.out | apply below_alloc | apply pw_below_drewN | apply below_drew1) | exact HB.out)⟩
 ·rw [if_neg c3] at H
  have c3b0 : (t115 == 0) = false := beq_eq_false_iff_ne.mpr c3
  have c3b1 : (t115 != 0) = true := bne_iff_ne.mpr c3
  simp only [Option.some.injEq, Prod.mk.injEq] at H
  obtain ⟨rfl, rfl⟩ := H
  go_enter Tryd.func17, Tryd.ntmps17
  go_wp2_with (first | ((with_reducible refine gate_callee (f := 22) rfl ?_); refine goesL_ (some 9) rfl rfl Tryd.func22 (by kernel_rfl) rfl #[.slice A0 l0.length c0] rfl (Qls) ?_; (with_reducible refine (sweep_Layout.calls (hGL := (Qlg)) k _ _ l0 t113 t114 t115 _ ?side1 ?side2 A2.out).mono ?_); (case side1 => exact Qsc HR0.out); (case side2 => exact HC0.out); rintro e w5 ⟨v116, rfl, ho0, hb⟩; refine ⟨_, rfl, ?_⟩; have n0_ := Aside0.mk (Kd.R_lower ho0 (below_size (Qaw))); have n1_ := Aside0.mk (below_step (Qaw) hb); clear HB; have HO117 := n0_; have HB := n1_; clear n0_ n1_; (try clear hb); (try clear hb2); (try clear hk); (try clear hi); (try clear ho0)))
  go_ret2
  exact ⟨by first | rfl | (simp [errW_none, errW_some] <;> rfl) | (simp [*, errW_none, errW_some] <;> rfl), by repeat (first | (with_reducible first | exact HB.out | apply below_alloc | apply pw_below_drewN | apply below_drew1) | exact HB.out)⟩
end Go.Proofs.YtijfddobandcdaaDoor.X
end
section
namespace Go.Proofs.YtijfddobandcdaaDoor.X
open Go.RowKit YtijfddobandcdaaDoorW.PrintWords YtijfddobandcdaaDoorW.PrintLast YtijfddobandcdaaDoorW.PrintMore
attribute [local go_sem] max2_int min2_int max_two min_two max_three min_three max_four min_four
/-! ### lampblacklaw03_awake: function 20 -/
def lampblacklaw03_awake.f (k : Nat)  : Option (Bool) := (sweep_Least.f k (([2, 1] : List Int))).bind fun bt134 => (if bt134.1 = 2 then (some (bt134.2 == 0)) else (some false))
theorem lampblacklaw03_awake.mono : ∀ k, LeO (lampblacklaw03_awake.f k ) (lampblacklaw03_awake.f (k + 1) ) := by
 intro  k
 unfold lampblacklaw03_awake.f
 repeat' first
   | (with_reducible exact sweep_Least.mono _ _)
   | (with_reducible exact LeO.refl _)
   | (with_reducible exact LeO.none _)
   | (with_reducible refine LeO.ite ?_ ?_)
   | (with_reducible refine LeO.bind ?_ (fun _ => ?_))
   | exact sweep_Least.mono _ _
   | exact LeO.none _
   | refine LeO.ite ?_ ?_
   | refine LeO.bind ?_ (fun _ => ?_)
set_option maxHeartbeats 8000000 in
set_option maxRecDepth 100000 in
theorem lampblacklaw03_awake.calls (k : Nat)  (r : Bool) (w : World) (hGL : GL w) (h : lampblacklaw03_awake.f k  = some r) :
  Calls Tryd.prog 20 #[] w fun e w' => e = .returned (.bool r) ∧ Below w.heap.size w w' := by
 have HGL := Aside0.mk hGL
 clear hGL
 have HB := Aside0.mk (Below.refl w.heap.size w)
 have H : ((sweep_Least.f k (([2, 1] : List Int))).bind fun bt134 => (if bt134.1 = 2 then (some (bt134.2 == 0)) else (some false))) = some r := h
 clear h
 obtain ⟨y131, hy131⟩ : ∃ y_ : List Int, y_ = (([2, 1] : List Int)) := ⟨_, rfl⟩
 replace H : ((sweep_Least.f k y131).bind fun bt134 => (if bt134.1 = 2 then (some (bt134.2 == 0)) else (some false))) = some r := by first | (rw [hy131]; with_reducible exact H) | (have H2_ := (Option.bind_some _ _).symm.trans H; rw [hy131]; with_reducible exact H2_) | (have H2_ := (Option.bind_some _ _).symm.trans H; with_reducible exact H2_) | with_reducible exact H | (rw [hy131]; exact H) | exact H
 have Ny131 := Aside0.mk hy131
 clear hy131
 replace H := Option.bind_eq_some_iff.mp H
 obtain ⟨⟨t134, t135⟩, A10, H⟩ := H
 replace H : (if t134 = 2 then (some (t135 == 0)) else (some false)) = some r := H
 have A1 := Aside0.mk A10
 clear A10
 by_cases c2 : t134 = 2
 ·rw [if_pos c2] at H
  have c2b0 : (t134 == 2) = true := beq_iff_eq.mpr c2
  have c2b1 : (t134 != 2) = false := bne_eq_false_iff_eq.mpr c2
  clear c2
  obtain rfl := Option.some.inj H
  go_enter Tryd.func20, Tryd.ntmps20
  go_wp2_with (first | ((with_reducible refine gate_dst (N := 4) rfl ?_); refine Kd.R_lit (Kd.int .i64) _ 3 ?hg (N := 4) ?hd (xs := ([2, 1] : List Int)) (inner := [.int .i64 2, .int .i64 1]) (ok := fun _ => True) (okp := fun _ => True) ?hr ?hp (fun _ hk => hk) trivial (Below.refl _ _) (Nat.le_refl _) (by simp) ?_; (case hd => rfl); (case hg => rfl); (case hr => first | (go_simp; done) | (go_simp; rfl)); (case hp => exact (Reps.one (show Kd.M (Kd.int .i64) _ _ _ 2 [.int .i64 2] from rfl) (Reps.one (show Kd.M (Kd.int .i64) _ _ _ 1 [.int .i64 1] from rfl) (Reps.none _ _)))); intro v132 w3 ho4 hb hg_ hnew_; clear hg_ hnew_; (first | rw [← Ny131.out] at ho4 | (simp only [Int.reduceToNat] at ho4; rw [← Ny131.out] at ho4)); have n0_ := Aside0.mk (Kd.R_lower ho4 (below_size (Qaw))); have n1_ := Aside0.mk (below_step (Qaw) hb); clear HB; have HO133 := n0_; have HB := n1_; clear n0_ n1_; clear hb ho4; obtain ⟨Ao5, co5, eo5⟩ := Kd.R_slice HO133.out; subst eo5) | ((with_reducible refine gate_callee (f := 17) rfl ?_); refine goesL_ (some 5) rfl rfl Tryd.func17 (by kernel_rfl) rfl #[.slice Ao5 y131.length co5] rfl (Qls) ?_; (with_reducible refine (sweep_Least.calls (hGL := (Qlg)) k _ _ y131 t134 t135 _ ?side1 ?side2 A1.out).mono ?_); (case side1 => exact Qsc (Kd.R_reads' HO133.out).2.2); (case side2 => exact (Kd.R_reads' HO133.out).2.1); rintro e w6 ⟨rfl, hb⟩; refine ⟨_, rfl, ?_⟩; have n0_ := Aside0.mk (Kd.R_below (Qro HO133.out) hb); have n1_ := Aside0.mk (below_step (Qaw) hb); clear HO133; clear HB; have HO133 := n0_; have HB := n1_; clear n0_ n1_; (try clear hb); (try clear hb2); (try clear hk); (try clear hi)))
  go_ret
  exact ⟨by first | rfl | (simp [errW_none, errW_some] <;> rfl) | (simp [*, errW_none, errW_some] <;> rfl), by repeat (first | (with_reducible first | exact HB.out | apply below_alloc | apply pw_below_drewN | apply below_drew1) | exact HB.out)⟩
 ·rw [if_neg c2] at H
  have c2b0 : (t134 == 2) = false := beq_eq_false_iff_ne.mpr c2
  have c2b1 : (t134 != 2) = true := bne_iff_ne.mpr c2
  obtain rfl := Option.some.inj H
  go_enter Tryd.func20, Tryd.ntmps20
  go_wp2_with (first | ((with_reducible refine gate_dst (N := 4) rfl ?_); refine Kd.R_lit (Kd.int .i64) _ 3 ?hg (N := 4) ?hd (xs := ([2, 1] : List Int)) (inner := [.int .i64 2, .int .i64 1]) (ok := fun _ => True) (okp := fun _ => True) ?hr ?hp (fun _ hk => hk) trivial (Below.refl _ _) (Nat.le_refl _) (by simp) ?_; (case hd => rfl); (case hg => rfl); (case hr => first | (go_simp; done) | (go_simp; rfl)); (case hp => exact (Reps.one (show Kd.M (Kd.int .i64) _ _ _ 2 [.int .i64 2] from rfl) (Reps.one (show Kd.M (Kd.int .i64) _ _ _ 1 [.int .i64 1] from rfl) (Reps.none _ _)))); intro v132 w7 ho8 hb hg_ hnew_; clear hg_ hnew_; (first | rw [← Ny131.out] at ho8 | (simp only [Int.reduceToNat] at ho8; rw [← Ny131.out] at ho8)); have n0_ := Aside0.mk (Kd.R_lower ho8 (below_size (Qaw))); have n1_ := Aside0.mk (below_step (Qaw) hb); clear HB; have HO133 := n0_; have HB := n1_; clear n0_ n1_; clear hb ho8; obtain ⟨Ao9, co9, eo9⟩ := Kd.R_slice HO133.out; subst eo9) | ((with_reducible refine gate_callee (f := 17) rfl ?_); refine goesL_ (some 5) rfl rfl Tryd.func17 (by kernel_rfl) rfl #[.slice Ao9 y131.length co9] rfl (Qls) ?_; (with_reducible refine (sweep_Least.calls (hGL := (Qlg)) k _ _ y131 t134 t135 _ ?side1 ?side2 A1.out).mono ?_); (case side1 => exact Qsc (Kd.R_reads' HO133.out).2.2); (case side2 => exact (Kd.R_reads' HO133.out).2.1); rintro e w10 ⟨rfl, hb⟩; refine ⟨_, rfl, ?_⟩; have n0_ := Aside0.mk (Kd.R_below (Qro HO133.out) hb); have n1_ := Aside0.mk (below_step (Qaw) hb); clear HO133; clear HB; have HO133 := n0_; have HB := n1_; clear n0_ n1_; (try clear hb); (try clear hb2); (try clear hk); (try clear hi)))
  go_ret
  exact ⟨by first | rfl | (simp [errW_none, errW_some] <;> rfl) | (simp [*, errW_none, errW_some] <;> rfl), by repeat (first | (with_reducible first | exact HB.out | apply below_alloc | apply pw_below_drewN | apply below_drew1) | exact HB.out)⟩
end Go.Proofs.YtijfddobandcdaaDoor.X
end
section
namespace Go.Proofs.YtijfddobandcdaaDoor.X
open Go.RowKit YtijfddobandcdaaDoorW.PrintWords YtijfddobandcdaaDoorW.PrintLast YtijfddobandcdaaDoorW.PrintMore
attribute [local go_sem] max2_int min2_int max_two min_two max_three min_three max_four min_four
/-! ### slices_Clone_Graph: function 47 -/
def slices_Clone_Graph.f (l0 : List Int) : Option (List Int) := (some (([] : List Int) : List Int)).bind fun y118 => (if y118.length + l0.length < 17592186044416 then (some (y118 ++ l0)) else (none))
set_option maxHeartbeats 8000000 in
set_option maxRecDepth 100000 in
theorem slices_Clone_Graph.calls_some (a0 : Addr) (c0 : Nat) (l0 : List Int) (r : List Int) (w : World) (hr0 : Kd.C (Kd.int .i64) w (some a0) l0.length l0) (hc0 : l0.length ≤ c0) (h : slices_Clone_Graph.f l0 = some r) :
  Calls Tryd.prog 47 #[.slice (some a0) l0.length c0] w fun e w' => ∃ v0_ : Value, e = .returned (v0_) ∧ Kd.R (Kd.int .i64) 3 w' w.heap.size (fun _ => True) v0_ r ∧ Below w.heap.size w w' := by
 have HR0 := Aside0.mk hr0
 have HC0 := Aside0.mk hc0
 clear hr0 hc0
 have HB := Aside0.mk (Below.refl w.heap.size w)
 have H : ((some (([] : List Int) : List Int)).bind fun y118 => (if y118.length + l0.length < 17592186044416 then (some (y118 ++ l0)) else (none))) = some r := h
 clear h
 obtain ⟨y118, hy118⟩ : ∃ y_ : List Int, y_ = (([] : List Int)) := ⟨_, rfl⟩
 replace H : (if y118.length + l0.length < 17592186044416 then (some (y118 ++ l0)) else (none)) = some r := by first | (rw [hy118]; with_reducible exact H) | (have H2_ := (Option.bind_some _ _).symm.trans H; rw [hy118]; with_reducible exact H2_) | (have H2_ := (Option.bind_some _ _).symm.trans H; with_reducible exact H2_) | with_reducible exact H | (rw [hy118]; exact H) | exact H
 have Ny118 := Aside0.mk hy118
 clear hy118
 by_cases c2 : y118.length + l0.length < 17592186044416
 ·rw [if_pos c2] at H
  have LMc2 := Aside0.mk c2
  clear c2
  obtain ⟨y121, hy121⟩ : ∃ y_ : List Int, y_ = (y118 ++ l0) := ⟨_, rfl⟩
  replace H : (some y121) = some r := by first | (rw [hy121]; with_reducible exact H) | (have H2_ := (Option.bind_some _ _).symm.trans H; rw [hy121]; with_reducible exact H2_) | (have H2_ := (Option.bind_some _ _).symm.trans H; with_reducible exact H2_) | with_reducible exact H | (rw [hy121]; exact H) | exact H
  have Ny121 := Aside0.mk hy121
  clear hy121
  obtain rfl := Option.some.inj H
  have heq_ := fun (w : World) => Lib.run_eql_slice_nil (P := Tryd.prog) w 23 3 (some a0) l0.length c0 0 0 Tryd.underlying23
  go_enter Tryd.func47, Tryd.ntmps47
  go_wp2_with (first | ((with_reducible refine gate_dst (N := 5) rfl ?_); refine Kd.R_lit (Kd.int .i64) _ 3 ?hg (N := 5) ?hd (xs := ([] : List Int)) (inner := []) (ok := fun _ => True) (okp := fun _ => True) ?hr ?hp (fun _ hk => hk) trivial (Below.refl _ _) (Nat.le_refl _) (by simp) ?_; (case hd => rfl); (case hg => rfl); (case hr => first | (go_simp; done) | (go_simp; rfl)); (case hp => exact (Reps.none _ _)); intro v119 w3 ho4 hb hg_ hnew_; clear hg_ hnew_; (first | rw [← Ny118.out] at ho4 | (simp only [Int.reduceToNat] at ho4; rw [← Ny118.out] at ho4)); have n0_ := Aside0.mk (Kd.R_lower ho4 (below_size (Qaw))); have n1_ := Aside0.mk (below_step (Qaw) hb); clear HB; have HO120 := n0_; have HB := n1_; clear n0_ n1_; clear hb ho4) | ((with_reducible refine gate_builtin (b := .append) (xs := #[.tmp 5, .tmp 6]) rfl ?_); at_builtin; refine Kd.R_append_rows (Kd.int .i64) (w0 := w) w.heap.size rfl (.tmp 5) (.tmp 6) 23 3 (.int .i64 0) 8 rfl Tryd.underlying23 info3 rfl (by decide) (by omega) v119 y118 l0 _ _ _ (fun _ => True) (fun _ => False) rfl rfl ?aO ?aR (fun _ _ h => h) (fun _ h => h.elim) ?aF ?aB ?aS ?aL ?_; (case aR => exact Qsc (Kd.C_below HR0.out HB.out)); (case aB => exact (Qaw)); (case aF => exact (fun _ _ => trivial)); (case aO => exact (Qro HO120.out)); (case aS => exact (below_size (Qaw))); (case aL => have := LMc2.out; omega); intro v122 w5 ho hb hg hat; rw [← Ny121.out] at ho; have n0_ := Aside0.mk (hb); have n1_ := Aside0.mk (ho); clear HB; clear HO120; have HB := n0_; have HO123 := n1_; clear n0_ n1_; clear ho hb hg hat))
  go_ret
  exact ⟨_, by first | rfl | (simp [errW_none, errW_some] <;> rfl) | (simp [*, errW_none, errW_some] <;> rfl), by (with_reducible repeat (first | apply Kd.R_alloc | apply Kd.R_drewN | apply Kd.R_drew)); exact HO123.out, by repeat (first | (with_reducible first | exact HB.out | apply below_alloc | apply pw_below_drewN | apply below_drew1) | exact HB.out)⟩
 ·rw [if_neg c2] at H
  exact absurd H (by simp)
theorem slices_Clone_Graph.calls (A0 : Option Addr) (c0 : Nat) (l0 : List Int) (r : List Int) (w : World) (hr0 : Kd.C (Kd.int .i64) w A0 l0.length l0) (hc0 : l0.length ≤ c0) (h : slices_Clone_Graph.f l0 = some r) :
  Calls Tryd.prog 47 #[.slice A0 l0.length c0] w fun e w' => ∃ v0_ : Value, e = .returned (v0_) ∧ Kd.R (Kd.int .i64) 3 w' w.heap.size (fun _ => True) v0_ r ∧ Below w.heap.size w w' := by
 cases A0 with
 | some a0 => exact slices_Clone_Graph.calls_some a0 c0 l0 r w hr0 hc0 h
 | none =>
  have hl : l0 = [] := by
   rcases Nat.eq_zero_or_pos l0.length with h0 | h0
   ·exact List.length_eq_zero_iff.mp h0
   ·obtain ⟨ad, he, _⟩ := hr0.2.2 h0
    cases he
  subst hl
  obtain rfl : [] = r := by simpa [slices_Clone_Graph.f] using h
  clear h hr0 hc0
  have heq_ := fun (w : World) => Lib.run_eql_slice_nil (P := Tryd.prog) w 23 3 none 0 c0 0 0 Tryd.underlying23
  go_enter Tryd.func47, Tryd.ntmps47
  go_wp2
  go_ret
  exact ⟨_, rfl, Kd.R_nil _ _ _ _ _, Below.refl _ _⟩
end Go.Proofs.YtijfddobandcdaaDoor.X
end
section
namespace Go.Proofs.YtijfddobandcdaaDoor.X
open Go.RowKit YtijfddobandcdaaDoorW.PrintWords YtijfddobandcdaaDoorW.PrintLast YtijfddobandcdaaDoorW.PrintMore
attribute [local go_sem] max2_int min2_int max_two min_two max_three min_three max_four min_four
/-! ### lampblacklaw03_Few: function 18 -/
def lampblacklaw03_Few.f (l0 : List Int) : Option (List Int) := if 0 ≤ (mn (l0.length : Int) 11) then (if (mn (l0.length : Int) 11) ≤ (l0.length : Int) then ((slices_Clone_Graph.f (l0.take ((mn (l0.length : Int) 11) : Int).toNat)).bind fun t125 => (some t125)) else (none)) else (none)
set_option maxHeartbeats 8000000 in
set_option maxRecDepth 100000 in
theorem lampblacklaw03_Few.calls (A0 : Option Addr) (c0 : Nat) (l0 : List Int) (r : List Int) (w : World) (hr0 : Kd.C (Kd.int .i64) w A0 l0.length l0) (hc0 : l0.length ≤ c0) (h : lampblacklaw03_Few.f l0 = some r) :
  Calls Tryd.prog 18 #[.slice A0 l0.length c0] w fun e w' => ∃ v0_ : Value, e = .returned (v0_) ∧ Kd.R (Kd.int .i64) 3 w' w.heap.size (fun _ => True) v0_ r ∧ Below w.heap.size w w' := by
 have HR0 := Aside0.mk hr0
 have HC0 := Aside0.mk hc0
 clear hr0 hc0
 have HB := Aside0.mk (Below.refl w.heap.size w)
 have H : (if 0 ≤ (mn (l0.length : Int) 11) then (if (mn (l0.length : Int) 11) ≤ (l0.length : Int) then ((slices_Clone_Graph.f (l0.take ((mn (l0.length : Int) 11) : Int).toNat)).bind fun t125 => (some t125)) else (none)) else (none)) = some r := h
 clear h
 obtain ⟨ji2, hji2⟩ : ∃ j_ : Int, (mn (l0.length : Int) 11) = j_ := ⟨_, rfl⟩
 replace H : (if 0 ≤ (ji2) then (if (ji2) ≤ (l0.length : Int) then ((slices_Clone_Graph.f (l0.take ((ji2) : Int).toNat)).bind fun t125 => (some t125)) else (none)) else (none)) = some r := by first | (rw [hji2] at H; exact H) | (simp only [hji2] at H ⊢; exact H)
 (try (have hji2h : ji2 ≤ 11 := by (rw [← hji2]; unfold mn; (repeat' split) <;> omega)))
 (try (have hji2g : ji2 ≤ 64 := by omega))
 (try (have hji2l : 0 ≤ ji2 := by (rw [← hji2]; unfold mn; (repeat' split) <;> omega)))
 (try (have hji2m : 0 ≤ ji2 := by omega))
 have hji2_ : (if 11 < (l0.length : Int) then 11 else (l0.length : Int)) = ji2 := hji2
 by_cases c3 : 0 ≤ (ji2)
 ·rw [if_pos c3] at H
  have c3b0 := eq_true c3
  have c3b1 : decide (0 ≤ (ji2)) = true := decide_eq_true c3
  clear c3
  by_cases c4 : (ji2) ≤ (l0.length : Int)
  ·rw [if_pos c4] at H
   have c4b0 := eq_true c4
   have c4b1 : decide ((ji2) ≤ (l0.length : Int)) = true := decide_eq_true c4
   clear c4
   replace H := Option.bind_eq_some_iff.mp H
   obtain ⟨t125, A50, H⟩ := H
   replace H : (some t125) = some r := H
   have A5 := Aside0.mk A50
   clear A50
   obtain rfl := Option.some.inj H
   obtain ⟨i06, hi06, _, hsz6, _⟩ := info_parts info3
   obtain ⟨hcut6, hA6, hC6⟩ := print_take_of (P := Tryd.prog) (Value.int .i64) 0 23 3 .i64 Tryd.underlying23 hi06 hsz6 A0 c0 l0 (ji2) (of_decide_eq_true (by first | (with_reducible assumption) | assumption)) (of_decide_eq_true (by first | (with_reducible assumption) | assumption)) HC0.out
   have HR124 := Aside0.mk (Kd.C_of_reads (h1 := fun _ => rfl) (hA6 _ (Kd.reads_of_C HR0.out)))
   have HC124 := Aside0.mk hC6
   clear hA6 hC6 hi06 hsz6
   go_enter Tryd.func18, Tryd.ntmps18
   go_wp2_with (first | ((with_reducible refine gate_callee (f := 47) rfl ?_); refine goesL_ (some 8) rfl rfl Tryd.func47 (by kernel_rfl) rfl #[.slice A0 (l0.take ((ji2) : Int).toNat).length c0] rfl (by (try simp only [List.map_toArray, List.map_cons, List.map_nil]); first | done | (rw [show (l0.take ((ji2) : Int).toNat).length = (ji2).toNat from (by rw [List.length_take]; have h_ : ((ji2) : Int) ≤ (l0.length : Int) := of_decide_eq_true (by first | (with_reducible assumption) | assumption); omega)] <;> rfl) | (simp only [hji2]; rfl) | rfl | (simp only [List.length_drop, List.length_take]; rfl)) ?_; (with_reducible refine (slices_Clone_Graph.calls _ _ (l0.take ((ji2) : Int).toNat) t125 _ ?side1 ?side2 A5.out).mono ?_); (case side1 => exact Qsc HR124.out); (case side2 => exact HC124.out); rintro e w7 ⟨v126, rfl, ho0, hb⟩; refine ⟨_, rfl, ?_⟩; have n0_ := Aside0.mk (Kd.R_lower ho0 (below_size (Qaw))); have n1_ := Aside0.mk (below_step (Qaw) hb); clear HB; have HO127 := n0_; have HB := n1_; clear n0_ n1_; (try clear hb); (try clear hb2); (try clear hk); (try clear hi); (try clear ho0)))
   go_ret
   exact ⟨_, by first | rfl | (simp [errW_none, errW_some] <;> rfl) | (simp only [← hji2]; first | rfl | (simp [errW_none, errW_some] <;> rfl)) | (simp [*, errW_none, errW_some] <;> rfl), by (with_reducible repeat (first | apply Kd.R_alloc | apply Kd.R_drewN | apply Kd.R_drew)); exact HO127.out, by repeat (first | (with_reducible first | exact HB.out | apply below_alloc | apply pw_below_drewN | apply below_drew1) | exact HB.out)⟩
  ·rw [if_neg c4] at H
   exact absurd H (by simp)
 ·rw [if_neg c3] at H
  exact absurd H (by simp)
end Go.Proofs.YtijfddobandcdaaDoor.X
end
section
namespace Go.Proofs.YtijfddobandcdaaDoor.X
open Go.RowKit YtijfddobandcdaaDoorW.PrintWords YtijfddobandcdaaDoorW.PrintLast YtijfddobandcdaaDoorW.PrintMore
attribute [local go_sem] max2_int min2_int max_two min_two max_three min_three max_four min_four
/-! ### slices_Clone_int_int: function 57 -/
def slices_Clone_int_int.f (l0 : List Int) : Option (List Int) := (some (([] : List Int) : List Int)).bind fun y187 => (if y187.length + l0.length < 17592186044416 then (some (y187 ++ l0)) else (none))
set_option maxHeartbeats 8000000 in
set_option maxRecDepth 100000 in
theorem slices_Clone_int_int.calls_some (a0 : Addr) (c0 : Nat) (l0 : List Int) (r : List Int) (w : World) (hr0 : Kd.C (Kd.int .i64) w (some a0) l0.length l0) (hc0 : l0.length ≤ c0) (h : slices_Clone_int_int.f l0 = some r) :
  Calls Tryd.prog 57 #[.slice (some a0) l0.length c0] w fun e w' => ∃ v0_ : Value, e = .returned (v0_) ∧ Kd.R (Kd.int .i64) 3 w' w.heap.size (fun _ => True) v0_ r ∧ Below w.heap.size w w' := by
 have HR0 := Aside0.mk hr0
 have HC0 := Aside0.mk hc0
 clear hr0 hc0
 have HB := Aside0.mk (Below.refl w.heap.size w)
 have H : ((some (([] : List Int) : List Int)).bind fun y187 => (if y187.length + l0.length < 17592186044416 then (some (y187 ++ l0)) else (none))) = some r := h
 clear h
 obtain ⟨y187, hy187⟩ : ∃ y_ : List Int, y_ = (([] : List Int)) := ⟨_, rfl⟩
 replace H : (if y187.length + l0.length < 17592186044416 then (some (y187 ++ l0)) else (none)) = some r := by first | (rw [hy187]; with_reducible exact H) | (have H2_ := (Option.bind_some _ _).symm.trans H; rw [hy187]; with_reducible exact H2_) | (have H2_ := (Option.bind_some _ _).symm.trans H; with_reducible exact H2_) | with_reducible exact H | (rw [hy187]; exact H) | exact H
 have Ny187 := Aside0.mk hy187
 clear hy187
 by_cases c2 : y187.length + l0.length < 17592186044416
 ·rw [if_pos c2] at H
  have LMc2 := Aside0.mk c2
  clear c2
  obtain ⟨y190, hy190⟩ : ∃ y_ : List Int, y_ = (y187 ++ l0) := ⟨_, rfl⟩
  replace H : (some y190) = some r := by first | (rw [hy190]; with_reducible exact H) | (have H2_ := (Option.bind_some _ _).symm.trans H; rw [hy190]; with_reducible exact H2_) | (have H2_ := (Option.bind_some _ _).symm.trans H; with_reducible exact H2_) | with_reducible exact H | (rw [hy190]; exact H) | exact H
  have Ny190 := Aside0.mk hy190
  clear hy190
  obtain rfl := Option.some.inj H
  have heq_ := fun (w : World) => Lib.run_eql_slice_nil (P := Tryd.prog) w 22 3 (some a0) l0.length c0 0 0 Tryd.underlying22
  go_enter Tryd.func57, Tryd.ntmps57
  go_wp2_with (first | ((with_reducible refine gate_dst (N := 5) rfl ?_); refine Kd.R_lit (Kd.int .i64) _ 3 ?hg (N := 5) ?hd (xs := ([] : List Int)) (inner := []) (ok := fun _ => True) (okp := fun _ => True) ?hr ?hp (fun _ hk => hk) trivial (Below.refl _ _) (Nat.le_refl _) (by simp) ?_; (case hd => rfl); (case hg => rfl); (case hr => first | (go_simp; done) | (go_simp; rfl)); (case hp => exact (Reps.none _ _)); intro v188 w3 ho4 hb hg_ hnew_; clear hg_ hnew_; (first | rw [← Ny187.out] at ho4 | (simp only [Int.reduceToNat] at ho4; rw [← Ny187.out] at ho4)); have n0_ := Aside0.mk (Kd.R_lower ho4 (below_size (Qaw))); have n1_ := Aside0.mk (below_step (Qaw) hb); clear HB; have HO189 := n0_; have HB := n1_; clear n0_ n1_; clear hb ho4) | ((with_reducible refine gate_builtin (b := .append) (xs := #[.tmp 5, .tmp 6]) rfl ?_); at_builtin; refine Kd.R_append_rows (Kd.int .i64) (w0 := w) w.heap.size rfl (.tmp 5) (.tmp 6) 22 3 (.int .i64 0) 8 rfl Tryd.underlying22 info3 rfl (by decide) (by omega) v188 y187 l0 _ _ _ (fun _ => True) (fun _ => False) rfl rfl ?aO ?aR (fun _ _ h => h) (fun _ h => h.elim) ?aF ?aB ?aS ?aL ?_; (case aR => exact Qsc (Kd.C_below HR0.out HB.out)); (case aB => exact (Qaw)); (case aF => exact (fun _ _ => trivial)); (case aO => exact (Qro HO189.out)); (case aS => exact (below_size (Qaw))); (case aL => have := LMc2.out; omega); intro v191 w5 ho hb hg hat; rw [← Ny190.out] at ho; have n0_ := Aside0.mk (hb); have n1_ := Aside0.mk (ho); clear HB; clear HO189; have HB := n0_; have HO192 := n1_; clear n0_ n1_; clear ho hb hg hat))
  go_ret
  exact ⟨_, by first | rfl | (simp [errW_none, errW_some] <;> rfl) | (simp [*, errW_none, errW_some] <;> rfl), by (with_reducible repeat (first | apply Kd.R_alloc | apply Kd.R_drewN | apply Kd.R_drew)); exact HO192.out, by repeat (first | (with_reducible first | exact HB.out | apply below_alloc | apply pw_below_drewN | apply below_drew1) | exact HB.out)⟩
 ·rw [if_neg c2] at H
  exact absurd H (by simp)
theorem slices_Clone_int_int.calls (A0 : Option Addr) (c0 : Nat) (l0 : List Int) (r : List Int) (w : World) (hr0 : Kd.C (Kd.int .i64) w A0 l0.length l0) (hc0 : l0.length ≤ c0) (h : slices_Clone_int_int.f l0 = some r) :
  Calls Tryd.prog 57 #[.slice A0 l0.length c0] w fun e w' => ∃ v0_ : Value, e = .returned (v0_) ∧ Kd.R (Kd.int .i64) 3 w' w.heap.size (fun _ => True) v0_ r ∧ Below w.heap.size w w' := by
 cases A0 with
 | some a0 => exact slices_Clone_int_int.calls_some a0 c0 l0 r w hr0 hc0 h
 | none =>
  have hl : l0 = [] := by
   rcases Nat.eq_zero_or_pos l0.length with h0 | h0
   ·exact List.length_eq_zero_iff.mp h0
   ·obtain ⟨ad, he, _⟩ := hr0.2.2 h0
    cases he
  subst hl
  obtain rfl : [] = r := by simpa [slices_Clone_int_int.f] using h
  clear h hr0 hc0
  have heq_ := fun (w : World) => Lib.run_eql_slice_nil (P := Tryd.prog) w 22 3 none 0 c0 0 0 Tryd.underlying22
  go_enter Tryd.func57, Tryd.ntmps57
  go_wp2
  go_ret
  exact ⟨_, rfl, Kd.R_nil _ _ _ _ _, Below.refl _ _⟩
end Go.Proofs.YtijfddobandcdaaDoor.X
end
section
namespace Go.Proofs.YtijfddobandcdaaDoor.X
open Go.RowKit YtijfddobandcdaaDoorW.PrintWords YtijfddobandcdaaDoorW.PrintLast YtijfddobandcdaaDoorW.PrintMore
attribute [local go_sem] max2_int min2_int max_two min_two max_three min_three max_four min_four
/-! ### lampblacklaw03_list: function 27 -/
def lampblacklaw03_list.f (l0 : List Int) : Option (List Int) := if 0 ≤ (mn (l0.length : Int) 140) then (if (mn (l0.length : Int) 140) ≤ (l0.length : Int) then ((slices_Clone_int_int.f (l0.take ((mn (l0.length : Int) 140) : Int).toNat)).bind fun t246 => (some t246)) else (none)) else (none)
set_option maxHeartbeats 8000000 in
set_option maxRecDepth 100000 in
theorem lampblacklaw03_list.calls (A0 : Option Addr) (c0 : Nat) (l0 : List Int) (r : List Int) (w : World) (hr0 : Kd.C (Kd.int .i64) w A0 l0.length l0) (hc0 : l0.length ≤ c0) (h : lampblacklaw03_list.f l0 = some r) :
  Calls Tryd.prog 27 #[.slice A0 l0.length c0] w fun e w' => ∃ v0_ : Value, e = .returned (v0_) ∧ Kd.R (Kd.int .i64) 3 w' w.heap.size (fun _ => True) v0_ r ∧ Below w.heap.size w w' := by
 have HR0 := Aside0.mk hr0
 have HC0 := Aside0.mk hc0
 clear hr0 hc0
 have HB := Aside0.mk (Below.refl w.heap.size w)
 have H : (if 0 ≤ (mn (l0.length : Int) 140) then (if (mn (l0.length : Int) 140) ≤ (l0.length : Int) then ((slices_Clone_int_int.f (l0.take ((mn (l0.length : Int) 140) : Int).toNat)).bind fun t246 => (some t246)) else (none)) else (none)) = some r := h
 clear h
 obtain ⟨ji2, hji2⟩ : ∃ j_ : Int, (mn (l0.length : Int) 140) = j_ := ⟨_, rfl⟩
 replace H : (if 0 ≤ (ji2) then (if (ji2) ≤ (l0.length : Int) then ((slices_Clone_int_int.f (l0.take ((ji2) : Int).toNat)).bind fun t246 => (some t246)) else (none)) else (none)) = some r := by first | (rw [hji2] at H; exact H) | (simp only [hji2] at H ⊢; exact H)
 (try (have hji2h : ji2 ≤ 140 := by (rw [← hji2]; unfold mn; (repeat' split) <;> omega)))
 (try (have hji2g : ji2 ≤ 64 := by omega))
 (try (have hji2l : 0 ≤ ji2 := by (rw [← hji2]; unfold mn; (repeat' split) <;> omega)))
 (try (have hji2m : 0 ≤ ji2 := by omega))
 have hji2_ : (if 140 < (l0.length : Int) then 140 else (l0.length : Int)) = ji2 := hji2
 by_cases c3 : 0 ≤ (ji2)
 ·rw [if_pos c3] at H
  have c3b0 := eq_true c3
  have c3b1 : decide (0 ≤ (ji2)) = true := decide_eq_true c3
  clear c3
  by_cases c4 : (ji2) ≤ (l0.length : Int)
  ·rw [if_pos c4] at H
   have c4b0 := eq_true c4
   have c4b1 : decide ((ji2) ≤ (l0.length : Int)) = true := decide_eq_true c4
   clear c4
   replace H := Option.bind_eq_some_iff.mp H
   obtain ⟨t246, A50, H⟩ := H
   replace H : (some t246) = some r := H
   have A5 := Aside0.mk A50
   clear A50
   obtain rfl := Option.some.inj H
   obtain ⟨i06, hi06, _, hsz6, _⟩ := info_parts info3
   obtain ⟨hcut6, hA6, hC6⟩ := print_take_of (P := Tryd.prog) (Value.int .i64) 0 22 3 .i64 Tryd.underlying22 hi06 hsz6 A0 c0 l0 (ji2) (of_decide_eq_true (by first | (with_reducible assumption) | assumption)) (of_decide_eq_true (by first | (with_reducible assumption) | assumption)) HC0.out
   have HR245 := Aside0.mk (Kd.C_of_reads (h1 := fun _ => rfl) (hA6 _ (Kd.reads_of_C HR0.out)))
   have HC245 := Aside0.mk hC6
   clear hA6 hC6 hi06 hsz6
   go_enter Tryd.func27, Tryd.ntmps27
   go_wp2_with (first | ((with_reducible refine gate_callee (f := 57) rfl ?_); refine goesL_ (some 8) rfl rfl Tryd.func57 (by kernel_rfl) rfl #[.slice A0 (l0.take ((ji2) : Int).toNat).length c0] rfl (by (try simp only [List.map_toArray, List.map_cons, List.map_nil]); first | done | (rw [show (l0.take ((ji2) : Int).toNat).length = (ji2).toNat from (by rw [List.length_take]; have h_ : ((ji2) : Int) ≤ (l0.length : Int) := of_decide_eq_true (by first | (with_reducible assumption) | assumption); omega)] <;> rfl) | (simp only [hji2]; rfl) | rfl | (simp only [List.length_drop, List.length_take]; rfl)) ?_; (with_reducible refine (slices_Clone_int_int.calls _ _ (l0.take ((ji2) : Int).toNat) t246 _ ?side1 ?side2 A5.out).mono ?_); (case side1 => exact Qsc HR245.out); (case side2 => exact HC245.out); rintro e w7 ⟨v247, rfl, ho0, hb⟩; refine ⟨_, rfl, ?_⟩; have n0_ := Aside0.mk (Kd.R_lower ho0 (below_size (Qaw))); have n1_ := Aside0.mk (below_step (Qaw) hb); clear HB; have HO248 := n0_; have HB := n1_; clear n0_ n1_; (try clear hb); (try clear hb2); (try clear hk); (try clear hi); (try clear ho0)))
   go_ret
   exact ⟨_, by first | rfl | (simp [errW_none, errW_some] <;> rfl) | (simp only [← hji2]; first | rfl | (simp [errW_none, errW_some] <;> rfl)) | (simp [*, errW_none, errW_some] <;> rfl), by (with_reducible repeat (first | apply Kd.R_alloc | apply Kd.R_drewN | apply Kd.R_drew)); exact HO248.out, by repeat (first | (with_reducible first | exact HB.out | apply below_alloc | apply pw_below_drewN | apply below_drew1) | exact HB.out)⟩
  ·rw [if_neg c4] at H
   exact absurd H (by simp)
 ·rw [if_neg c3] at H
  exact absurd H (by simp)
end Go.Proofs.YtijfddobandcdaaDoor.X
end
section
namespace Go.Proofs.YtijfddobandcdaaDoor.X
open Go.RowKit YtijfddobandcdaaDoorW.PrintWords YtijfddobandcdaaDoorW.PrintLast YtijfddobandcdaaDoorW.PrintMore
attribute [local go_sem] max2_int min2_int max_two min_two max_three min_three max_four min_four
/-! ### slices_Max_int_int: function 76 -/
def slices_Max_int_int.l0 : Nat → List Int → Int → Int → Option (Int)
 | 0, _, _, _ => none
 | k + 1, x0, x3, x4 => if x4 < (x0.length : Int) then (if 0 ≤ x4 then (slices_Max_int_int.l0 k x0 (mx x3 (rd x0 x4)) (wrap64 (x4 + 1))) else (none)) else (some x3)
def slices_Max_int_int.f (k : Nat) (l0 : List Int) : Option (Int) := if (l0.length : Int) < 1 then (none) else (if 0 < (l0.length : Int) then (slices_Max_int_int.l0 k l0 (rd l0 0) 1) else (none))
set_option maxHeartbeats 8000000 in
set_option maxRecDepth 100000 in
theorem slices_Max_int_int.calls (k : Nat) (A0 : Option Addr) (c0 : Nat) (l0 : List Int) (r : Int) (w : World) (hr0 : Kd.C (Kd.int .i64) w A0 l0.length l0) (hc0 : l0.length ≤ c0) (h : slices_Max_int_int.f k l0 = some r) :
  Calls Tryd.prog 76 #[.slice A0 l0.length c0] w fun e w' => e = .returned (.int .i64 r) ∧ Below w.heap.size w w' := by
 have HR0 := Aside0.mk hr0
 have HC0 := Aside0.mk hc0
 clear hr0 hc0
 have HB := Aside0.mk (Below.refl w.heap.size w)
 have H : (if (l0.length : Int) < 1 then (none) else (if 0 < (l0.length : Int) then (slices_Max_int_int.l0 k l0 (rd l0 0) 1) else (none))) = some r := h
 clear h
 by_cases c2 : (l0.length : Int) < 1
 ·rw [if_pos c2] at H
  exact absurd H (by simp)
 ·rw [if_neg c2] at H
  have c2b0 : decide ((l0.length : Int) < 1) = false := decide_eq_false c2
  have c2b1 : decide (l0.length < 1) = false := decide_eq_false (by omega)
  clear c2
  by_cases c3 : 0 < (l0.length : Int)
  ·rw [if_pos c3] at H
   have c3b0 : decide (0 < (l0.length : Int)) = true := decide_eq_true c3
   have c3b1 : decide (0 < l0.length) = true := decide_eq_true (by omega)
   clear c3
   have H' := Aside0.mk H
   clear H
   have p351 : 0 ≤ (0 : Int) := (by omega)
   have q351 : 0 < (l0.length : Int) := of_decide_eq_true (by first | (with_reducible assumption) | assumption)
   obtain ⟨ad351, e351, hx351_0⟩ := Kd.at_int HR0.out 0 p351 q351
   cases e351
   have qi351 : (0 < l0.length) = True := eq_true (by omega)
   (try rw [show ((0 : Int)).toNat = 0 from rfl] at hx351_0)
   (try rw [Addr.add_zero'] at hx351_0)
   replace p351 := eq_true p351
   replace q351 := eq_true q351
   go_enter Tryd.func76, Tryd.ntmps76
   go_wp2
   go_loopg [3, 4] k (fun kq v3 v4 w' => ∃ (x3_1 : Int) (x4_1 : Int), v3 = .int .i64 x3_1 ∧ v4 = .int .i64 x4_1 ∧ Aside0 (slices_Max_int_int.l0 kq l0 x3_1 x4_1 = some r) ∧ Aside0 (kq ≤ k) ∧ Aside0 (Below w.heap.size w w'))
   case atStart => exact ⟨(rd l0 0), (1), (by first | rfl | (simp; done) | (simp [*]; done)), (by first | rfl | (simp; done) | (simp [*]; done)), H', ⟨Nat.le_refl _⟩, ⟨by repeat (first | (with_reducible first | exact HB.out | apply below_alloc | apply pw_below_drewN | apply below_drew1) | exact HB.out)⟩⟩
   case round =>
    clear H'
    try clear c2
    try clear c2b0
    try clear c2b1
    try clear p2
    try clear c3
    try clear c3b0
    try clear c3b1
    try clear p3
    try clear q3
    try clear hx3
    try clear qi3
    try clear hx351_0
    try clear p351
    try clear q351
    obtain ⟨x3_1, x4_1, rfl, rfl, HA, HK1, HB⟩ := hrel
    cases gk with
    | zero => exact absurd HA.out (by simp [slices_Max_int_int.l0])
    | succ k1 =>
     have H := HA.out
     clear HA
     simp only [slices_Max_int_int.l0] at H
     by_cases c4 : x4_1 < (l0.length : Int)
     ·rw [if_pos c4] at H
      have c4b0 : decide (x4_1 < (l0.length : Int)) = true := decide_eq_true c4
      clear c4
      by_cases c5 : 0 ≤ x4_1
      ·rw [if_pos c5] at H
       have c5b0 : decide (0 ≤ x4_1) = true := decide_eq_true c5
       clear c5
       obtain ⟨ji6, hji6⟩ : ∃ j_ : Int, (mx x3_1 (rd l0 x4_1)) = j_ := ⟨_, rfl⟩
       replace H : (slices_Max_int_int.l0 k1 l0 ji6 (wrap64 (x4_1 + 1))) = some r := by first | (rw [hji6] at H; exact H) | (simp only [hji6] at H ⊢; exact H)
       have hji6_ : (if x3_1 < (rd l0 x4_1) then (rd l0 x4_1) else x3_1) = ji6 := hji6
       have H' := Aside0.mk H
       clear H
       have p352 : 0 ≤ (x4_1 : Int) := of_decide_eq_true (by first | (with_reducible assumption) | assumption)
       have q352 : x4_1 < (l0.length : Int) := of_decide_eq_true (by first | (with_reducible assumption) | assumption)
       obtain ⟨ad352, e352, hx352_0⟩ := Kd.at_int HR0.out x4_1 p352 q352
       obtain rfl : ad351 = ad352 := (by injection e352)
       replace hx352_0 := (HB.out.cell (World.block_lt_of_cell? w _ hx352_0)).trans hx352_0
       replace p352 := eq_true p352
       replace q352 := eq_true q352
       go_wp2
       go_roundg k1
       case measure => have := HK1.out; omega
       case rel => exact ⟨(ji6), (wrap64 (x4_1 + 1)), (by first | rfl | (simp; done) | (simp only [← hji6] <;> (first | rfl | simp)) | (simp [*]; done)), (by first | rfl | (simp; done) | (simp [*]; done)), H', ⟨by have := HK1.out; omega⟩, ⟨by repeat (first | (with_reducible first | exact HB.out | apply below_alloc | apply pw_below_drewN | apply below_drew1) | exact HB.out)⟩⟩
      ·rw [if_neg c5] at H
       exact absurd H (by simp)
     ·rw [if_neg c4] at H
      have c4b0 : decide (x4_1 < (l0.length : Int)) = false := decide_eq_false c4
      clear c4
      obtain rfl := Option.some.inj H
      go_wp2
      go_ret
      exact ⟨by first | rfl | (simp [errW_none, errW_some] <;> rfl) | (simp [*, errW_none, errW_some] <;> rfl), by repeat (first | (with_reducible first | exact HB.out | apply below_alloc | apply pw_below_drewN | apply below_drew1) | exact HB.out)⟩
  ·rw [if_neg c3] at H
   exact absurd H (by simp)
end Go.Proofs.YtijfddobandcdaaDoor.X
end
section
namespace Go.Proofs.YtijfddobandcdaaDoor.X
open Go.RowKit YtijfddobandcdaaDoorW.PrintWords YtijfddobandcdaaDoorW.PrintLast YtijfddobandcdaaDoorW.PrintMore
attribute [local go_sem] max2_int min2_int max_two min_two max_three min_three max_four min_four
/-! ### slices_Min_int_int: function 75 -/
def slices_Min_int_int.l0 : Nat → List Int → Int → Int → Option (Int)
 | 0, _, _, _ => none
 | k + 1, x0, x3, x4 => if x4 < (x0.length : Int) then (if 0 ≤ x4 then (slices_Min_int_int.l0 k x0 (mn x3 (rd x0 x4)) (wrap64 (x4 + 1))) else (none)) else (some x3)
def slices_Min_int_int.f (k : Nat) (l0 : List Int) : Option (Int) := if (l0.length : Int) < 1 then (none) else (if 0 < (l0.length : Int) then (slices_Min_int_int.l0 k l0 (rd l0 0) 1) else (none))
set_option maxHeartbeats 8000000 in
set_option maxRecDepth 100000 in
theorem slices_Min_int_int.calls (k : Nat) (A0 : Option Addr) (c0 : Nat) (l0 : List Int) (r : Int) (w : World) (hr0 : Kd.C (Kd.int .i64) w A0 l0.length l0) (hc0 : l0.length ≤ c0) (h : slices_Min_int_int.f k l0 = some r) :
  Calls Tryd.prog 75 #[.slice A0 l0.length c0] w fun e w' => e = .returned (.int .i64 r) ∧ Below w.heap.size w w' := by
 have HR0 := Aside0.mk hr0
 have HC0 := Aside0.mk hc0
 clear hr0 hc0
 have HB := Aside0.mk (Below.refl w.heap.size w)
 have H : (if (l0.length : Int) < 1 then (none) else (if 0 < (l0.length : Int) then (slices_Min_int_int.l0 k l0 (rd l0 0) 1) else (none))) = some r := h
 clear h
 by_cases c2 : (l0.length : Int) < 1
 ·rw [if_pos c2] at H
  exact absurd H (by simp)
 ·rw [if_neg c2] at H
  have c2b0 : decide ((l0.length : Int) < 1) = false := decide_eq_false c2
  have c2b1 : decide (l0.length < 1) = false := decide_eq_false (by omega)
  clear c2
  by_cases c3 : 0 < (l0.length : Int)
  ·rw [if_pos c3] at H
   have c3b0 : decide (0 < (l0.length : Int)) = true := decide_eq_true c3
   have c3b1 : decide (0 < l0.length) = true := decide_eq_true (by omega)
   clear c3
   have H' := Aside0.mk H
   clear H
   have p349 : 0 ≤ (0 : Int) := (by omega)
   have q349 : 0 < (l0.length : Int) := of_decide_eq_true (by first | (with_reducible assumption) | assumption)
   obtain ⟨ad349, e349, hx349_0⟩ := Kd.at_int HR0.out 0 p349 q349
   cases e349
   have qi349 : (0 < l0.length) = True := eq_true (by omega)
   (try rw [show ((0 : Int)).toNat = 0 from rfl] at hx349_0)
   (try rw [Addr.add_zero'] at hx349_0)
   replace p349 := eq_true p349
   replace q349 := eq_true q349
   go_enter Tryd.func75, Tryd.ntmps75
   go_wp2
   go_loopg [3, 4] k (fun kq v3 v4 w' => ∃ (x3_1 : Int) (x4_1 : Int), v3 = .int .i64 x3_1 ∧ v4 = .int .i64 x4_1 ∧ Aside0 (slices_Min_int_int.l0 kq l0 x3_1 x4_1 = some r) ∧ Aside0 (kq ≤ k) ∧ Aside0 (Below w.heap.size w w'))
   case atStart => exact ⟨(rd l0 0), (1), (by first | rfl | (simp; done) | (simp [*]; done)), (by first | rfl | (simp; done) | (simp [*]; done)), H', ⟨Nat.le_refl _⟩, ⟨by repeat (first | (with_reducible first | exact HB.out | apply below_alloc | apply pw_below_drewN | apply below_drew1) | exact HB.out)⟩⟩
   case round =>
    clear H'
    try clear c2
    try clear c2b0
    try clear c2b1
    try clear p2
    try clear c3
    try clear c3b0
    try clear c3b1
    try clear p3
    try clear q3
    try clear hx3
    try clear qi3
    try clear hx349_0
    try clear p349
    try clear q349
    obtain ⟨x3_1, x4_1, rfl, rfl, HA, HK1, HB⟩ := hrel
    cases gk with
    | zero => exact absurd HA.out (by simp [slices_Min_int_int.l0])
    | succ k1 =>
     have H := HA.out
     clear HA
     simp only [slices_Min_int_int.l0] at H
     by_cases c4 : x4_1 < (l0.length : Int)
     ·rw [if_pos c4] at H
      have c4b0 : decide (x4_1 < (l0.length : Int)) = true := decide_eq_true c4
      clear c4
      by_cases c5 : 0 ≤ x4_1
      ·rw [if_pos c5] at H
       have c5b0 : decide (0 ≤ x4_1) = true := decide_eq_true c5
       clear c5
       obtain ⟨ji6, hji6⟩ : ∃ j_ : Int, (mn x3_1 (rd l0 x4_1)) = j_ := ⟨_, rfl⟩
       replace H : (slices_Min_int_int.l0 k1 l0 ji6 (wrap64 (x4_1 + 1))) = some r := by first | (rw [hji6] at H; exact H) | (simp only [hji6] at H ⊢; exact H)
       have hji6_ : (if (rd l0 x4_1) < x3_1 then (rd l0 x4_1) else x3_1) = ji6 := hji6
       have H' := Aside0.mk H
       clear H
       have p350 : 0 ≤ (x4_1 : Int) := of_decide_eq_true (by first | (with_reducible assumption) | assumption)
       have q350 : x4_1 < (l0.length : Int) := of_decide_eq_true (by first | (with_reducible assumption) | assumption)
       obtain ⟨ad350, e350, hx350_0⟩ := Kd.at_int HR0.out x4_1 p350 q350
       obtain rfl : ad349 = ad350 := (by injection e350)
       replace hx350_0 := (HB.out.cell (World.block_lt_of_cell? w _ hx350_0)).trans hx350_0
       replace p350 := eq_true p350
       replace q350 := eq_true q350
       go_wp2
       go_roundg k1
       case measure => have := HK1.out; omega
       case rel => exact ⟨(ji6), (wrap64 (x4_1 + 1)), (by first | rfl | (simp; done) | (simp only [← hji6] <;> (first | rfl | simp)) | (simp [*]; done)), (by first | rfl | (simp; done) | (simp [*]; done)), H', ⟨by have := HK1.out; omega⟩, ⟨by repeat (first | (with_reducible first | exact HB.out | apply below_alloc | apply pw_below_drewN | apply below_drew1) | exact HB.out)⟩⟩
      ·rw [if_neg c5] at H
       exact absurd H (by simp)
     ·rw [if_neg c4] at H
      have c4b0 : decide (x4_1 < (l0.length : Int)) = false := decide_eq_false c4
      clear c4
      obtain rfl := Option.some.inj H
      go_wp2
      go_ret
      exact ⟨by first | rfl | (simp [errW_none, errW_some] <;> rfl) | (simp [*, errW_none, errW_some] <;> rfl), by repeat (first | (with_reducible first | exact HB.out | apply below_alloc | apply pw_below_drewN | apply below_drew1) | exact HB.out)⟩
  ·rw [if_neg c3] at H
   exact absurd H (by simp)
end Go.Proofs.YtijfddobandcdaaDoor.X
end
section
namespace Go.Proofs.YtijfddobandcdaaDoor.X
open Go.RowKit YtijfddobandcdaaDoorW.PrintWords YtijfddobandcdaaDoorW.PrintLast YtijfddobandcdaaDoorW.PrintMore
attribute [local go_sem] max2_int min2_int max_two min_two max_three min_three max_four min_four
/-! ### sweep_town_isPath: function 62 -/
mutual
def sweep_town_isPath.j0 : Nat → List Int → List Int → Bool → Option (Bool)
 | 0, _, _, _ => none
 | k + 1, x0, x1, x29 => if x29 = true then (some false) else (sweep_town_isPath.l0 k x1 x0 (x0.length : Int) 0)
def sweep_town_isPath.l0 : Nat → List Int → List Int → Int → Int → Option (Bool)
 | 0, _, _, _, _ => none
 | k + 1, x1, x30, x31, x32 => if x32 < x31 then (if 0 ≤ x32 then (if x32 < (x30.length : Int) then (sweep_town_isPath.l1 k x1 x32 (rd x30 x32) 0 x30 x31 x32 x1 (x1.length : Int) 0) else (none)) else (none)) else (some true)
def sweep_town_isPath.l1 : Nat → List Int → Int → Int → Int → List Int → Int → Int → List Int → Int → Int → Option (Bool)
 | 0, _, _, _, _, _, _, _, _, _, _ => none
 | k + 1, x1, x5, x6, x7, x30, x31, x32, x37, x38, x39 => if x39 < x38 then (if 0 ≤ x39 then (if x39 < (x37.length : Int) then (if 0 ≤ x5 then (if (Go.bits .and .i64 (shr .i64 (rd x37 x39) x5) 1) = 1 then (if x39 = 0 then (sweep_town_isPath.j3 k x1 x5 x6 x7 (rd x37 x39) x30 x31 x32 x37 x38 x39 true) else (if 0 ≤ (wrap64 (x39 - 1)) then (if (wrap64 (x39 - 1)) < (x1.length : Int) then (sweep_town_isPath.j3 k x1 x5 x6 x7 (rd x37 x39) x30 x31 x32 x37 x38 x39 ((Go.bits .and .i64 (shr .i64 (rd x1 (wrap64 (x39 - 1))) x5) 1) == 0)) else (none)) else (none))) else (sweep_town_isPath.j3 k x1 x5 x6 x7 (rd x37 x39) x30 x31 x32 x37 x38 x39 false)) else (none)) else (none)) else (none)) else (if x7 = 1 then (if x6 = 0 then (sweep_town_isPath.l0 k x1 x30 x31 (wrap64 (x32 + 1))) else (some false)) else (some false))
def sweep_town_isPath.j3 : Nat → List Int → Int → Int → Int → Int → List Int → Int → Int → List Int → Int → Int → Bool → Option (Bool)
 | 0, _, _, _, _, _, _, _, _, _, _, _, _ => none
 | k + 1, x1, x5, x6, x7, x9, x30, x31, x32, x37, x38, x39, x63 => if x63 = true then (if 0 ≤ x5 then (if (Go.bits .and .i64 (shr .i64 x9 x5) 1) = 1 then (sweep_town_isPath.l1 k x1 x5 (Go.bits .andNot .i64 x6 x9) (wrap64 (x7 + 1)) x30 x31 x32 x37 x38 (wrap64 (x39 + 1))) else (sweep_town_isPath.l1 k x1 x5 x6 (wrap64 (x7 + 1)) x30 x31 x32 x37 x38 (wrap64 (x39 + 1)))) else (none)) else (if 0 ≤ x5 then (if (Go.bits .and .i64 (shr .i64 x9 x5) 1) = 1 then (sweep_town_isPath.l1 k x1 x5 (Go.bits .andNot .i64 x6 x9) x7 x30 x31 x32 x37 x38 (wrap64 (x39 + 1))) else (sweep_town_isPath.l1 k x1 x5 x6 x7 x30 x31 x32 x37 x38 (wrap64 (x39 + 1)))) else (none))
end
def sweep_town_isPath.f (k : Nat) (l0 : List Int) (l1 : List Int) : Option (Bool) := if (l1.length : Int) < 1 then (sweep_town_isPath.j0 k l0 l1 true) else (if (l1.length : Int) > 30 then (sweep_town_isPath.j0 k l0 l1 true) else ((slices_Min_int_int.f k l1).bind fun t353 => (if t353 < 0 then (sweep_town_isPath.j0 k l0 l1 true) else ((slices_Max_int_int.f k l1).bind fun t354 => ((sweep_town_all.f l0).bind fun t355 => (sweep_town_isPath.j0 k l0 l1 (decide (t354 > t355))))))))
set_option maxHeartbeats 8000000 in
set_option maxRecDepth 100000 in
theorem sweep_town_isPath.calls (k : Nat) (A0 : Option Addr) (c0 : Nat) (l0 : List Int) (A1 : Option Addr) (c1 : Nat) (l1 : List Int) (r : Bool) (w : World) (hr0 : Kd.C (Kd.int .i64) w A0 l0.length l0) (hc0 : l0.length ≤ c0) (hr1 : Kd.C (Kd.int .i64) w A1 l1.length l1) (hc1 : l1.length ≤ c1) (h : sweep_town_isPath.f k l0 l1 = some r) :
  Calls Tryd.prog 62 #[.slice A0 l0.length c0, .slice A1 l1.length c1] w fun e w' => e = .returned (.bool r) ∧ Below w.heap.size w w' := by
 have HR0 := Aside0.mk hr0
 have HC0 := Aside0.mk hc0
 clear hr0 hc0
 have HR1 := Aside0.mk hr1
 have HC1 := Aside0.mk hc1
 clear hr1 hc1
 have HB := Aside0.mk (Below.refl w.heap.size w)
 have H : (if (l1.length : Int) < 1 then (sweep_town_isPath.j0 k l0 l1 true) else (if (l1.length : Int) > 30 then (sweep_town_isPath.j0 k l0 l1 true) else ((slices_Min_int_int.f k l1).bind fun t353 => (if t353 < 0 then (sweep_town_isPath.j0 k l0 l1 true) else ((slices_Max_int_int.f k l1).bind fun t354 => ((sweep_town_all.f l0).bind fun t355 => (sweep_town_isPath.j0 k l0 l1 (decide (t354 > t355))))))))) = some r := h
 clear h
 have HC3 := Aside0.mk H
 clear H
 go_enter Tryd.func62, Tryd.ntmps62
 go_upto_region 1 with (fail)
 go_cut [29] (fun v29 wc => ∃ (kq : Nat) (x29_2 : Bool), v29 = .bool x29_2 ∧ Aside0 (sweep_town_isPath.j0 kq l0 l1 x29_2 = some r) ∧ Aside0 (kq ≤ k) ∧ Aside0 (Below w.heap.size w wc))
 case first =>
  have H := HC3.out
  clear HC3
  by_cases c4 : (l1.length : Int) < 1
  ·rw [if_pos c4] at H
   have c4b0 : decide ((l1.length : Int) < 1) = true := decide_eq_true c4
   have c4b1 : decide (l1.length < 1) = true := decide_eq_true (by omega)
   clear c4
   (first | rw [c4b0] | (simp only [i64_w, i32_w]; rw [c4b0]) | skip)
   have H' := Aside0.mk H
   clear H
   go_wp2
   go_meet
   case rel => exact ⟨_, (true), (by first | rfl | (simp; done) | (simp [*]; done)), H', ⟨by first | omega | exact Nat.le_refl _⟩, ⟨by repeat (first | (with_reducible first | exact HB.out | apply below_alloc | apply pw_below_drewN | apply below_drew1) | exact HB.out)⟩⟩
  ·rw [if_neg c4] at H
   have c4b0 : decide ((l1.length : Int) < 1) = false := decide_eq_false c4
   have c4b1 : decide (l1.length < 1) = false := decide_eq_false (by omega)
   clear c4
   (first | rw [c4b0] | (simp only [i64_w, i32_w]; rw [c4b0]) | skip)
   by_cases c5 : (l1.length : Int) > 30
   ·rw [if_pos c5] at H
    have c5b0 : decide (30 < (l1.length : Int)) = true := decide_eq_true c5
    have c5b1 : decide (30 < l1.length) = true := decide_eq_true (by omega)
    clear c5
    have H' := Aside0.mk H
    clear H
    go_wp2
    go_meet
    case rel => exact ⟨_, (true), (by first | rfl | (simp; done) | (simp [*]; done)), H', ⟨by first | omega | exact Nat.le_refl _⟩, ⟨by repeat (first | (with_reducible first | exact HB.out | apply below_alloc | apply pw_below_drewN | apply below_drew1) | exact HB.out)⟩⟩
   ·rw [if_neg c5] at H
    have c5b0 : decide (30 < (l1.length : Int)) = false := decide_eq_false c5
    have c5b1 : decide (30 < l1.length) = false := decide_eq_false (by omega)
    clear c5
    replace H := Option.bind_eq_some_iff.mp H
    obtain ⟨t353, A60, H⟩ := H
    replace H : (if t353 < 0 then (sweep_town_isPath.j0 k l0 l1 true) else ((slices_Max_int_int.f k l1).bind fun t354 => ((sweep_town_all.f l0).bind fun t355 => (sweep_town_isPath.j0 k l0 l1 (decide (t354 > t355)))))) = some r := H
    have A6 := Aside0.mk A60
    clear A60
    by_cases c7 : t353 < 0
    ·rw [if_pos c7] at H
     have c7b0 : decide (t353 < 0) = true := decide_eq_true c7
     clear c7
     have H' := Aside0.mk H
     clear H
     go_wp2_with (first | (go_at_call 75; (with_reducible refine (slices_Min_int_int.calls k _ _ l1 t353 _ ?side1 ?side2 A6.out).mono ?_); (case side1 => exact Qsc (Kd.C_below HR1.out HB.out)); (case side2 => exact HC1.out); rintro e w8 ⟨rfl, hb⟩; have n0_ := Aside0.mk (below_step (Qaw) hb); clear HB; have HB := n0_; clear n0_; (try clear hb); (try clear hb2); (try clear hk); (try clear hi)))
     go_meet
     case rel => exact ⟨_, (true), (by first | rfl | (simp; done) | (simp [*]; done)), H', ⟨by first | omega | exact Nat.le_refl _⟩, ⟨by repeat (first | (with_reducible first | exact HB.out | apply below_alloc | apply pw_below_drewN | apply below_drew1) | exact HB.out)⟩⟩
    ·rw [if_neg c7] at H
     have c7b0 : decide (t353 < 0) = false := decide_eq_false c7
     clear c7
     replace H := Option.bind_eq_some_iff.mp H
     obtain ⟨t354, A90, H⟩ := H
     replace H : ((sweep_town_all.f l0).bind fun t355 => (sweep_town_isPath.j0 k l0 l1 (decide (t354 > t355)))) = some r := H
     have A9 := Aside0.mk A90
     clear A90
     replace H := Option.bind_eq_some_iff.mp H
     obtain ⟨t355, A100, H⟩ := H
     replace H : (sweep_town_isPath.j0 k l0 l1 (decide (t354 > t355))) = some r := H
     have A10 := Aside0.mk A100
     clear A100
     have H' := Aside0.mk H
     clear H
     go_wp2_with (first | (go_at_call 75; (with_reducible refine (slices_Min_int_int.calls k _ _ l1 t353 _ ?side1 ?side2 A6.out).mono ?_); (case side1 => exact Qsc (Kd.C_below HR1.out HB.out)); (case side2 => exact HC1.out); rintro e w11 ⟨rfl, hb⟩; have n0_ := Aside0.mk (below_step (Qaw) hb); clear HB; have HB := n0_; clear n0_; (try clear hb); (try clear hb2); (try clear hk); (try clear hi)) | (go_at_call 76; (with_reducible refine (slices_Max_int_int.calls k _ _ l1 t354 _ ?side1 ?side2 A9.out).mono ?_); (case side1 => exact Qsc (Kd.C_below HR1.out HB.out)); (case side2 => exact HC1.out); rintro e w12 ⟨rfl, hb⟩; have n0_ := Aside0.mk (below_step (Qaw) hb); clear HB; have HB := n0_; clear n0_; (try clear hb); (try clear hb2); (try clear hk); (try clear hi)) | (go_at_call 61; (with_reducible refine (sweep_town_all.calls _ _ l0 t355 _ ?side1 ?side2 A10.out).mono ?_); (case side1 => exact Qsc (Kd.C_below HR0.out HB.out)); (case side2 => exact HC0.out); rintro e w' ⟨rfl, ⟨nd, rfl⟩⟩))
     go_meet
     case rel => exact ⟨_, (decide (t354 > t355)), (by first | rfl | (simp; done) | (simp [*]; done)), H', ⟨by first | omega | exact Nat.le_refl _⟩, ⟨by repeat (first | (with_reducible first | exact HB.out | apply below_alloc | apply pw_below_drewN | apply below_drew1) | exact HB.out)⟩⟩
 case rest =>
  clear HC3
  try clear c1
  try clear p2
  try clear c4
  try clear c4b0
  try clear c4b1
  try clear c5
  try clear c5b0
  try clear c5b1
  try clear c6
  try clear c7
  try clear c7b0
  obtain ⟨kq, x29_2, rfl, HA, HJ2, HB⟩ := hcut
  cases kq with
  | zero => exact absurd HA.out (by simp [sweep_town_isPath.j0])
  | succ kj2 =>
   have H := HA.out
   clear HA
   simp only [sweep_town_isPath.j0] at H
   by_cases c13 : x29_2 = true
   ·subst c13
    have H1 : (some false) = some r := by rw [if_pos rfl] at H; exact H
    clear H
    have H := H1
    clear H1
    obtain rfl := Option.some.inj H
    go_wp2
    go_ret
    exact ⟨by first | rfl | (simp [errW_none, errW_some] <;> rfl) | (simp [*, errW_none, errW_some] <;> rfl), by repeat (first | (with_reducible first | exact HB.out | apply below_alloc | apply pw_below_drewN | apply below_drew1) | exact HB.out)⟩
   ·replace c13 := Bool.eq_false_iff.mpr c13
    subst c13
    have H1 : (sweep_town_isPath.l0 kj2 l1 l0 (l0.length : Int) 0) = some r := by rw [if_neg (show ¬ (false = true) by decide)] at H; exact H
    clear H
    have H := H1
    clear H1
    have H' := Aside0.mk H
    clear H
    go_wp2
    go_loopg [32] kj2 (fun kq v32 w' => ∃ (x32_2 : Int), v32 = .int .i64 x32_2 ∧ Aside0 (sweep_town_isPath.l0 kq l1 l0 (l0.length : Int) x32_2 = some r) ∧ Aside0 (kq ≤ kj2) ∧ Aside0 (Below w.heap.size w w'))
    case atStart => exact ⟨(0), (by first | rfl | (simp; done) | (simp [*]; done)), H', ⟨Nat.le_refl _⟩, ⟨by repeat (first | (with_reducible first | exact HB.out | apply below_alloc | apply pw_below_drewN | apply below_drew1) | exact HB.out)⟩⟩
    case round =>
     clear H'
     try clear c1
     try clear p2
     try clear c4
     try clear c4b0
     try clear c4b1
     try clear c5
     try clear c5b0
     try clear c5b1
     try clear c6
     try clear c7
     try clear c7b0
     try clear c13
     try clear p2
     obtain ⟨x32_2, rfl, HA, HK2, HB⟩ := hrel
     cases gk with
     | zero => exact absurd HA.out (by simp [sweep_town_isPath.l0])
     | succ k2 =>
      have H := HA.out
      clear HA
      simp only [sweep_town_isPath.l0] at H
      by_cases c14 : x32_2 < (l0.length : Int)
      ·rw [if_pos c14] at H
       have c14b0 : decide (x32_2 < (l0.length : Int)) = true := decide_eq_true c14
       clear c14
       by_cases c15 : 0 ≤ x32_2
       ·rw [if_pos c15] at H
        have c15b0 : decide (0 ≤ x32_2) = true := decide_eq_true c15
        clear c15
        by_cases c16 : x32_2 < (l0.length : Int)
        ·rw [if_pos c16] at H
         have c16b0 : decide (x32_2 < (l0.length : Int)) = true := decide_eq_true c16
         clear c16
         have H' := Aside0.mk H
         clear H
         have p356 : 0 ≤ (x32_2 : Int) := of_decide_eq_true (by first | (with_reducible assumption) | assumption)
         have q356 : x32_2 < (l0.length : Int) := of_decide_eq_true (by first | (with_reducible assumption) | assumption)
         obtain ⟨ad356, e356, hx356_0⟩ := Kd.at_int HR0.out x32_2 p356 q356
         cases e356
         replace hx356_0 := (HB.out.cell (World.block_lt_of_cell? w _ hx356_0)).trans hx356_0
         replace p356 := eq_true p356
         replace q356 := eq_true q356
         go_wp2
         go_loopg [6, 7, 39] k2 (fun kq v6 v7 v39 w' => ∃ (x6_3 : Int) (x7_3 : Int) (x39_3 : Int), v6 = .int .i64 x6_3 ∧ v7 = .int .i64 x7_3 ∧ v39 = .int .i64 x39_3 ∧ Aside0 (sweep_town_isPath.l1 kq l1 x32_2 x6_3 x7_3 l0 (l0.length : Int) x32_2 l1 (l1.length : Int) x39_3 = some r) ∧ Aside0 (kq ≤ k2) ∧ Aside0 (Below w.heap.size w w'))
         case atStart => exact ⟨(rd l0 x32_2), (0), (0), (by first | rfl | (simp; done) | (simp [*]; done)), (by first | rfl | (simp; done) | (simp [*]; done)), (by first | rfl | (simp; done) | (simp [*]; done)), H', ⟨Nat.le_refl _⟩, ⟨by repeat (first | (with_reducible first | exact HB.out | apply below_alloc | apply pw_below_drewN | apply below_drew1) | exact HB.out)⟩⟩
         case round =>
          clear H'
          try clear c1
          try clear p2
          try clear p3
          try clear q3
          try clear hx3
          try clear c4
          try clear c4b0
          try clear c4b1
          try clear c5
          try clear c5b0
          try clear c5b1
          try clear c6
          try clear c7
          try clear c7b0
          try clear c13
          try clear c14
          try clear c14b0
          try clear c15
          try clear c15b0
          try clear c16
          try clear c16b0
          try clear hx356_0
          try clear p2
          try clear p356
          try clear q356
          obtain ⟨x6_3, x7_3, x39_3, rfl, rfl, rfl, HA, HK3, HB⟩ := hrel
          cases gk with
          | zero => exact absurd HA.out (by simp [sweep_town_isPath.l1])
          | succ k3 =>
           have H := HA.out
           clear HA
           simp only [sweep_town_isPath.l1] at H
           by_cases c17 : x39_3 < (l1.length : Int)
           ·rw [if_pos c17] at H
            have c17b0 : decide (x39_3 < (l1.length : Int)) = true := decide_eq_true c17
            clear c17
            by_cases c18 : 0 ≤ x39_3
            ·rw [if_pos c18] at H
             have c18b0 : decide (0 ≤ x39_3) = true := decide_eq_true c18
             clear c18
             by_cases c19 : x39_3 < (l1.length : Int)
             ·rw [if_pos c19] at H
              have c19b0 : decide (x39_3 < (l1.length : Int)) = true := decide_eq_true c19
              clear c19
              have HC20 := Aside0.mk H
              clear H
              have p357 : 0 ≤ (x39_3 : Int) := of_decide_eq_true (by first | (with_reducible assumption) | assumption)
              have q357 : x39_3 < (l1.length : Int) := of_decide_eq_true (by first | (with_reducible assumption) | assumption)
              obtain ⟨ad357, e357, hx357_0⟩ := Kd.at_int HR1.out x39_3 p357 q357
              cases e357
              replace hx357_0 := (HB.out.cell (World.block_lt_of_cell? w _ hx357_0)).trans hx357_0
              replace p357 := eq_true p357
              replace q357 := eq_true q357
              go_upto_region 10 with (fail)
              go_cut [63] (fun v63 wc => ∃ (kq : Nat) (x63_19 : Bool), v63 = .bool x63_19 ∧ Aside0 (sweep_town_isPath.j3 kq l1 x32_2 x6_3 x7_3 (rd l1 x39_3) l0 (l0.length : Int) x32_2 l1 (l1.length : Int) x39_3 x63_19 = some r) ∧ Aside0 (kq ≤ k3) ∧ Aside0 (Below w.heap.size w wc))
              case first =>
               have H := HC20.out
               clear HC20
               by_cases c21 : 0 ≤ x32_2
               ·rw [if_pos c21] at H
                have c21b0 := eq_true c21
                have c21b1 : decide (0 ≤ x32_2) = true := decide_eq_true c21
                clear c21
                obtain ⟨ji22, hji22⟩ : ∃ j_ : Int, (shr .i64 (rd l1 x39_3) x32_2) = j_ := ⟨_, rfl⟩
                replace H : (if (Go.bits .and .i64 (ji22) 1) = 1 then (if x39_3 = 0 then (sweep_town_isPath.j3 k3 l1 x32_2 x6_3 x7_3 (rd l1 x39_3) l0 (l0.length : Int) x32_2 l1 (l1.length : Int) x39_3 true) else (if 0 ≤ (wrap64 (x39_3 - 1)) then (if (wrap64 (x39_3 - 1)) < (l1.length : Int) then (sweep_town_isPath.j3 k3 l1 x32_2 x6_3 x7_3 (rd l1 x39_3) l0 (l0.length : Int) x32_2 l1 (l1.length : Int) x39_3 ((Go.bits .and .i64 (shr .i64 (rd l1 (wrap64 (x39_3 - 1))) x32_2) 1) == 0)) else (none)) else (none))) else (sweep_town_isPath.j3 k3 l1 x32_2 x6_3 x7_3 (rd l1 x39_3) l0 (l0.length : Int) x32_2 l1 (l1.length : Int) x39_3 false)) = some r := by first | (rw [hji22] at H; exact H) | (simp only [hji22] at H ⊢; exact H)
                have hji22_ : ((rd l1 x39_3) / 2 ^ min x32_2.toNat 64) = ji22 := hji22
                have hji22z : x32_2 ≤ 64 → ((rd l1 x39_3) / 2 ^ x32_2.toNat) = ji22 := shr_small hji22
                by_cases c23 : (Go.bits .and .i64 (ji22) 1) = 1
                ·rw [if_pos c23] at H
                 have c23b0 : ((Go.bits .and .i64 (ji22) 1) == 1) = true := beq_iff_eq.mpr c23
                 have c23b1 : ((Go.bits .and .i64 (ji22) 1) != 1) = false := bne_eq_false_iff_eq.mpr c23
                 clear c23
                 (first | rw [c23b0] | (simp only [i64_w, i32_w]; rw [c23b0]) | skip)
                 by_cases c24 : x39_3 = 0
                 ·rw [if_pos c24] at H
                  have c24b0 : (x39_3 == 0) = true := beq_iff_eq.mpr c24
                  have c24b1 : (x39_3 != 0) = false := bne_eq_false_iff_eq.mpr c24
                  clear c24
                  have H' := Aside0.mk H
                  clear H
                  go_wp2
                  go_meet
                  case rel => exact ⟨_, (true), (by first | rfl | (simp; done) | (simp [*]; done)), H', ⟨by have := HJ2.out; have := HK2.out; have := HK3.out; first | omega | exact Nat.le_refl _⟩, ⟨by repeat (first | (with_reducible first | exact HB.out | apply below_alloc | apply pw_below_drewN | apply below_drew1) | exact HB.out)⟩⟩
                 ·rw [if_neg c24] at H
                  have c24b0 : (x39_3 == 0) = false := beq_eq_false_iff_ne.mpr c24
                  have c24b1 : (x39_3 != 0) = true := bne_iff_ne.mpr c24
                  obtain ⟨ji25, hji25⟩ : ∃ j_ : Int, (wrap64 (x39_3 - 1)) = j_ := ⟨_, rfl⟩
                  replace H : (if 0 ≤ (ji25) then (if (ji25) < (l1.length : Int) then (sweep_town_isPath.j3 k3 l1 x32_2 x6_3 x7_3 (rd l1 x39_3) l0 (l0.length : Int) x32_2 l1 (l1.length : Int) x39_3 ((Go.bits .and .i64 (shr .i64 (rd l1 (ji25)) x32_2) 1) == 0)) else (none)) else (none)) = some r := by first | (rw [hji25] at H; exact H) | (simp only [hji25] at H ⊢; exact H)
                  have hji25w : (IntKind.i64.wrap (x39_3 - 1)) = ji25 := (i64_w _).trans hji25
                  by_cases c26 : 0 ≤ (ji25)
                  ·rw [if_pos c26] at H
                   have c26b0 : decide (0 ≤ (ji25)) = true := decide_eq_true c26
                   clear c26
                   by_cases c27 : (ji25) < (l1.length : Int)
                   ·rw [if_pos c27] at H
                    have c27b0 : decide ((ji25) < (l1.length : Int)) = true := decide_eq_true c27
                    clear c27
                    have c28b0 := eq_true (of_decide_eq_true (by first | (with_reducible assumption) | assumption) : 0 ≤ x32_2)
                    obtain ⟨ji29, hji29⟩ : ∃ j_ : Int, (shr .i64 (rd l1 (ji25)) x32_2) = j_ := ⟨_, rfl⟩
                    replace H : (sweep_town_isPath.j3 k3 l1 x32_2 x6_3 x7_3 (rd l1 x39_3) l0 (l0.length : Int) x32_2 l1 (l1.length : Int) x39_3 ((Go.bits .and .i64 (ji29) 1) == 0)) = some r := by first | (rw [hji29] at H; exact H) | (simp only [hji29] at H ⊢; exact H)
                    have hji29_ : ((rd l1 (ji25)) / 2 ^ min x32_2.toNat 64) = ji29 := hji29
                    have hji29z : x32_2 ≤ 64 → ((rd l1 (ji25)) / 2 ^ x32_2.toNat) = ji29 := shr_small hji29
                    have H' := Aside0.mk H
                    clear H
                    have p358 : 0 ≤ ((ji25) : Int) := of_decide_eq_true (by first | (with_reducible assumption) | assumption)
                    have q358 : (ji25) < (l1.length : Int) := of_decide_eq_true (by first | (with_reducible assumption) | assumption)
                    obtain ⟨ad358, e358, hx358_0⟩ := Kd.at_int HR1.out (ji25) p358 q358
                    obtain rfl : ad357 = ad358 := (by injection e358)
                    replace hx358_0 := (HB.out.cell (World.block_lt_of_cell? w _ hx358_0)).trans hx358_0
                    replace p358 := eq_true p358
                    replace q358 := eq_true q358
                    go_wp2
                    go_meet
                    case rel => exact ⟨_, (((Go.bits .and .i64 (ji29) 1) == 0)), (by first | rfl | (simp; done) | (simp only [← hji29] <;> (first | rfl | simp)) | (simp [*]; done)), H', ⟨by have := HJ2.out; have := HK2.out; have := HK3.out; first | omega | exact Nat.le_refl _⟩, ⟨by repeat (first | (with_reducible first | exact HB.out | apply below_alloc | apply pw_below_drewN | apply below_drew1) | exact HB.out)⟩⟩
                   ·rw [if_neg c27] at H
                    exact absurd H (by simp)
                  ·rw [if_neg c26] at H
                   exact absurd H (by simp)
                ·rw [if_neg c23] at H
                 have c23b0 : ((Go.bits .and .i64 (ji22) 1) == 1) = false := beq_eq_false_iff_ne.mpr c23
                 have c23b1 : ((Go.bits .and .i64 (ji22) 1) != 1) = true := bne_iff_ne.mpr c23
                 (first | rw [c23b0] | (simp only [i64_w, i32_w]; rw [c23b0]) | skip)
                 have H' := Aside0.mk H
                 clear H
                 go_wp2
                 go_meet
                 case rel => exact ⟨_, (false), (by first | rfl | (simp; done) | (simp [*]; done)), H', ⟨by have := HJ2.out; have := HK2.out; have := HK3.out; first | omega | exact Nat.le_refl _⟩, ⟨by repeat (first | (with_reducible first | exact HB.out | apply below_alloc | apply pw_below_drewN | apply below_drew1) | exact HB.out)⟩⟩
               ·rw [if_neg c21] at H
                exact absurd H (by simp)
              case rest =>
               clear HC20
               try clear c1
               try clear c2
               try clear p2
               try clear p3
               try clear q3
               try clear hx3
               try clear c4
               try clear c4b0
               try clear c4b1
               try clear c5
               try clear c5b0
               try clear c5b1
               try clear c6
               try clear p6
               try clear c7
               try clear c7b0
               try clear c13
               try clear c14
               try clear c14b0
               try clear c15
               try clear c15b0
               try clear c16
               try clear c16b0
               try clear c17
               try clear c17b0
               try clear c18
               try clear c18b0
               try clear c19
               try clear c19b0
               try clear c21
               try clear c21b0
               try clear c21b1
               try clear c23
               try clear c23b0
               try clear c23b1
               try clear c24
               try clear c24b0
               try clear c24b1
               try clear c26
               try clear c26b0
               try clear c27
               try clear c27b0
               try clear c28
               try clear c28b0
               try clear hx356_0
               try clear hx357_0
               try clear hx358_0
               try clear p2
               try clear p3
               try clear p356
               try clear p357
               try clear p358
               try clear q3
               try clear q356
               try clear q357
               try clear q358
               obtain ⟨kq, x63_19, rfl, HA, HJ19, HB⟩ := hcut
               cases kq with
               | zero => exact absurd HA.out (by simp [sweep_town_isPath.j3])
               | succ kj19 =>
                have H := HA.out
                clear HA
                simp only [sweep_town_isPath.j3] at H
                by_cases c30 : x63_19 = true
                ·subst c30
                 have H1 : (if 0 ≤ x32_2 then (if (Go.bits .and .i64 (shr .i64 (rd l1 x39_3) x32_2) 1) = 1 then (sweep_town_isPath.l1 kj19 l1 x32_2 (Go.bits .andNot .i64 x6_3 (rd l1 x39_3)) (wrap64 (x7_3 + 1)) l0 (l0.length : Int) x32_2 l1 (l1.length : Int) (wrap64 (x39_3 + 1))) else (sweep_town_isPath.l1 kj19 l1 x32_2 x6_3 (wrap64 (x7_3 + 1)) l0 (l0.length : Int) x32_2 l1 (l1.length : Int) (wrap64 (x39_3 + 1)))) else (none)) = some r := by rw [if_pos rfl] at H; exact H
                 clear H
                 have H := H1
                 clear H1
                 by_cases c31 : 0 ≤ x32_2
                 ·rw [if_pos c31] at H
                  have c31b0 := eq_true c31
                  have c31b1 : decide (0 ≤ x32_2) = true := decide_eq_true c31
                  clear c31
                  obtain ⟨ji32, hji32⟩ : ∃ j_ : Int, (shr .i64 (rd l1 x39_3) x32_2) = j_ := ⟨_, rfl⟩
                  replace H : (if (Go.bits .and .i64 (ji32) 1) = 1 then (sweep_town_isPath.l1 kj19 l1 x32_2 (Go.bits .andNot .i64 x6_3 (rd l1 x39_3)) (wrap64 (x7_3 + 1)) l0 (l0.length : Int) x32_2 l1 (l1.length : Int) (wrap64 (x39_3 + 1))) else (sweep_town_isPath.l1 kj19 l1 x32_2 x6_3 (wrap64 (x7_3 + 1)) l0 (l0.length : Int) x32_2 l1 (l1.length : Int) (wrap64 (x39_3 + 1)))) = some r := by first | (rw [hji32] at H; exact H) | (simp only [hji32] at H ⊢; exact H)
                  have hji32_ : ((rd l1 x39_3) / 2 ^ min x32_2.toNat 64) = ji32 := hji32
                  have hji32z : x32_2 ≤ 64 → ((rd l1 x39_3) / 2 ^ x32_2.toNat) = ji32 := shr_small hji32
                  by_cases c33 : (Go.bits .and .i64 (ji32) 1) = 1
                  ·rw [if_pos c33] at H
                   have c33b0 : ((Go.bits .and .i64 (ji32) 1) == 1) = true := beq_iff_eq.mpr c33
                   have c33b1 : ((Go.bits .and .i64 (ji32) 1) != 1) = false := bne_eq_false_iff_eq.mpr c33
                   clear c33
                   have H' := Aside0.mk H
                   clear H
                   go_wp2
                   go_roundg kj19
                   case measure => have := HJ2.out; have := HK2.out; have := HK3.out; have := HJ19.out; omega
                   case rel => exact ⟨(Go.bits .andNot .i64 x6_3 (rd l1 x39_3)), (wrap64 (x7_3 + 1)), (wrap64 (x39_3 + 1)), (by first | rfl | (simp; done) | (simp [*]; done)), (by first | rfl | (simp; done) | (simp [*]; done)), (by first | rfl | (simp; done) | (simp [*]; done)), H', ⟨by have := HJ2.out; have := HK2.out; have := HK3.out; have := HJ19.out; omega⟩, ⟨by repeat (first | (with_reducible first | exact HB.out | apply below_alloc | apply pw_below_drewN | apply below_drew1) | exact HB.out)⟩⟩
                  ·rw [if_neg c33] at H
                   have c33b0 : ((Go.bits .and .i64 (ji32) 1) == 1) = false := beq_eq_false_iff_ne.mpr c33
                   have c33b1 : ((Go.bits .and .i64 (ji32) 1) != 1) = true := bne_iff_ne.mpr c33
                   have H' := Aside0.mk H
                   clear H
                   go_wp2
                   go_roundg kj19
                   case measure => have := HJ2.out; have := HK2.out; have := HK3.out; have := HJ19.out; omega
                   case rel => exact ⟨(x6_3), (wrap64 (x7_3 + 1)), (wrap64 (x39_3 + 1)), (by first | rfl | (simp; done) | (simp [*]; done)), (by first | rfl | (simp; done) | (simp [*]; done)), (by first | rfl | (simp; done) | (simp [*]; done)), H', ⟨by have := HJ2.out; have := HK2.out; have := HK3.out; have := HJ19.out; omega⟩, ⟨by repeat (first | (with_reducible first | exact HB.out | apply below_alloc | apply pw_below_drewN | apply below_drew1) | exact HB.out)⟩⟩
                 ·rw [if_neg c31] at H
                  exact absurd H (by simp)
                ·replace c30 := Bool.eq_false_iff.mpr c30
                 subst c30
                 have H1 : (if 0 ≤ x32_2 then (if (Go.bits .and .i64 (shr .i64 (rd l1 x39_3) x32_2) 1) = 1 then (sweep_town_isPath.l1 kj19 l1 x32_2 (Go.bits .andNot .i64 x6_3 (rd l1 x39_3)) x7_3 l0 (l0.length : Int) x32_2 l1 (l1.length : Int) (wrap64 (x39_3 + 1))) else (sweep_town_isPath.l1 kj19 l1 x32_2 x6_3 x7_3 l0 (l0.length : Int) x32_2 l1 (l1.length : Int) (wrap64 (x39_3 + 1)))) else (none)) = some r := by rw [if_neg (show ¬ (false = true) by decide)] at H; exact H
                 clear H
                 have H := H1
                 clear H1
                 by_cases c34 : 0 ≤ x32_2
                 ·rw [if_pos c34] at H
                  have c34b0 := eq_true c34
                  have c34b1 : decide (0 ≤ x32_2) = true := decide_eq_true c34
                  clear c34
                  obtain ⟨ji35, hji35⟩ : ∃ j_ : Int, (shr .i64 (rd l1 x39_3) x32_2) = j_ := ⟨_, rfl⟩
                  replace H : (if (Go.bits .and .i64 (ji35) 1) = 1 then (sweep_town_isPath.l1 kj19 l1 x32_2 (Go.bits .andNot .i64 x6_3 (rd l1 x39_3)) x7_3 l0 (l0.length : Int) x32_2 l1 (l1.length : Int) (wrap64 (x39_3 + 1))) else (sweep_town_isPath.l1 kj19 l1 x32_2 x6_3 x7_3 l0 (l0.length : Int) x32_2 l1 (l1.length : Int) (wrap64 (x39_3 + 1)))) = some r := by first | (rw [hji35] at H; exact H) | (simp only [hji35] at H ⊢; exact H)
                  have hji35_ : ((rd l1 x39_3) / 2 ^ min x32_2.toNat 64) = ji35 := hji35
                  have hji35z : x32_2 ≤ 64 → ((rd l1 x39_3) / 2 ^ x32_2.toNat) = ji35 := shr_small hji35
                  by_cases c36 : (Go.bits .and .i64 (ji35) 1) = 1
                  ·rw [if_pos c36] at H
                   have c36b0 : ((Go.bits .and .i64 (ji35) 1) == 1) = true := beq_iff_eq.mpr c36
                   have c36b1 : ((Go.bits .and .i64 (ji35) 1) != 1) = false := bne_eq_false_iff_eq.mpr c36
                   clear c36
                   have H' := Aside0.mk H
                   clear H
                   go_wp2
                   go_roundg kj19
                   case measure => have := HJ2.out; have := HK2.out; have := HK3.out; have := HJ19.out; omega
                   case rel => exact ⟨(Go.bits .andNot .i64 x6_3 (rd l1 x39_3)), (x7_3), (wrap64 (x39_3 + 1)), (by first | rfl | (simp; done) | (simp [*]; done)), (by first | rfl | (simp; done) | (simp [*]; done)), (by first | rfl | (simp; done) | (simp [*]; done)), H', ⟨by have := HJ2.out; have := HK2.out; have := HK3.out; have := HJ19.out; omega⟩, ⟨by repeat (first | (with_reducible first | exact HB.out | apply below_alloc | apply pw_below_drewN | apply below_drew1) | exact HB.out)⟩⟩
                  ·rw [if_neg c36] at H
                   have c36b0 : ((Go.bits .and .i64 (ji35) 1) == 1) = false := beq_eq_false_iff_ne.mpr c36
                   have c36b1 : ((Go.bits .and .i64 (ji35) 1) != 1) = true := bne_iff_ne.mpr c36
                   have H' := Aside0.mk H
                   clear H
                   go_wp2
                   go_roundg kj19
                   case measure => have := HJ2.out; have := HK2.out; have := HK3.out; have := HJ19.out; omega
                   case rel => exact ⟨(x6_3), (x7_3), (wrap64 (x39_3 + 1)), (by first | rfl | (simp; done) | (simp [*]; done)), (by first | rfl | (simp; done) | (simp [*]; done)), (by first | rfl | (simp; done) | (simp [*]; done)), H', ⟨by have := HJ2.out; have := HK2.out; have := HK3.out; have := HJ19.out; omega⟩, ⟨by repeat (first | (with_reducible first | exact HB.out | apply below_alloc | apply pw_below_drewN | apply below_drew1) | exact HB.out)⟩⟩
                 ·rw [if_neg c34] at H
                  exact absurd H (by simp)
             ·rw [if_neg c19] at H
              exact absurd H (by simp)
            ·rw [if_neg c18] at H
             exact absurd H (by simp)
           ·rw [if_neg c17] at H
            have c17b0 : decide (x39_3 < (l1.length : Int)) = false := decide_eq_false c17
            clear c17
            by_cases c37 : x7_3 = 1
            ·rw [if_pos c37] at H
             have c37b0 : (x7_3 == 1) = true := beq_iff_eq.mpr c37
             have c37b1 : (x7_3 != 1) = false := bne_eq_false_iff_eq.mpr c37
             clear c37
             by_cases c38 : x6_3 = 0
             ·rw [if_pos c38] at H
              have c38b0 : (x6_3 == 0) = true := beq_iff_eq.mpr c38
              have c38b1 : (x6_3 != 0) = false := bne_eq_false_iff_eq.mpr c38
              clear c38
              have H' := Aside0.mk H
              clear H
              go_wp2
              go_roundg k3
              case measure => have := HJ2.out; have := HK2.out; have := HK3.out; omega
              case rel => exact ⟨(wrap64 (x32_2 + 1)), (by first | rfl | (simp; done) | (simp [*]; done)), H', ⟨by have := HJ2.out; have := HK2.out; have := HK3.out; omega⟩, ⟨by repeat (first | (with_reducible first | exact HB.out | apply below_alloc | apply pw_below_drewN | apply below_drew1) | exact HB.out)⟩⟩
             ·rw [if_neg c38] at H
              have c38b0 : (x6_3 == 0) = false := beq_eq_false_iff_ne.mpr c38
              have c38b1 : (x6_3 != 0) = true := bne_iff_ne.mpr c38
              obtain rfl := Option.some.inj H
              go_wp2
              go_ret
              exact ⟨by first | rfl | (simp [errW_none, errW_some] <;> rfl) | (simp [*, errW_none, errW_some] <;> rfl), by repeat (first | (with_reducible first | exact HB.out | apply below_alloc | apply pw_below_drewN | apply below_drew1) | exact HB.out)⟩
            ·rw [if_neg c37] at H
             have c37b0 : (x7_3 == 1) = false := beq_eq_false_iff_ne.mpr c37
             have c37b1 : (x7_3 != 1) = true := bne_iff_ne.mpr c37
             obtain rfl := Option.some.inj H
             go_wp2
             go_ret
             exact ⟨by first | rfl | (simp [errW_none, errW_some] <;> rfl) | (simp [*, errW_none, errW_some] <;> rfl), by repeat (first | (with_reducible first | exact HB.out | apply below_alloc | apply pw_below_drewN | apply below_drew1) | exact HB.out)⟩
        ·rw [if_neg c16] at H
         exact absurd H (by simp)
       ·rw [if_neg c15] at H
        exact absurd H (by simp)
      ·rw [if_neg c14] at H
       have c14b0 : decide (x32_2 < (l0.length : Int)) = false := decide_eq_false c14
       clear c14
       obtain rfl := Option.some.inj H
       go_wp2
       go_ret
       exact ⟨by first | rfl | (simp [errW_none, errW_some] <;> rfl) | (simp [*, errW_none, errW_some] <;> rfl), by repeat (first | (with_reducible first | exact HB.out | apply below_alloc | apply pw_below_drewN | apply below_drew1) | exact HB.out)⟩
end Go.Proofs.YtijfddobandcdaaDoor.X
end
section
namespace Go.Proofs.YtijfddobandcdaaDoor.X
open Go.RowKit YtijfddobandcdaaDoorW.PrintWords YtijfddobandcdaaDoorW.PrintLast YtijfddobandcdaaDoorW.PrintMore
attribute [local go_sem] max2_int min2_int max_two min_two max_three min_three max_four min_four
/-! ### sweep_Check: function 36 -/
def sweep_Check.l0 : Nat → Int → List Int → Int → Int → Option (Int × Bool × Int)
 | 0, _, _, _, _ => none
 | k + 1, x9, x23, x24, x25 => if x25 < x24 then (if 0 ≤ x25 then (if x25 < (x23.length : Int) then ((sweep_count.f (rd x23 x25)).bind fun t365 => (sweep_Check.l0 k (mx x9 t365) x23 x24 (wrap64 (x25 + 1)))) else (none)) else (none)) else (some (wrap64 (x9 - 1), true, 0))
def sweep_Check.f (k : Nat) (l0 : List Int) (l1 : List Int) : Option (Int × Bool × Int) := (sweep_read.f k l0).bind fun bt359 => (if bt359.2 = true then ((sweep_town_isPath.f k bt359.1 l1).bind fun t363 => (if t363 = true then (sweep_Check.l0 k 0 l1 (l1.length : Int) 0) else (some (0, false, 0)))) else (some (0, false, 2)))
set_option maxHeartbeats 8000000 in
set_option maxRecDepth 100000 in
theorem sweep_Check.calls (k : Nat) (A0 : Option Addr) (c0 : Nat) (l0 : List Int) (A1 : Option Addr) (c1 : Nat) (l1 : List Int) (r1 : Int) (r2 : Bool) (r3 : Int) (w : World) (hr0 : Kd.C (Kd.int .i64) w A0 l0.length l0) (hc0 : l0.length ≤ c0) (hr1 : Kd.C (Kd.int .i64) w A1 l1.length l1) (hc1 : l1.length ≤ c1) (h : sweep_Check.f k l0 l1 = some (r1, r2, r3)) :
  Calls Tryd.prog 36 #[.slice A0 l0.length c0, .slice A1 l1.length c1] w fun e w' => e = .returned (.tuple #[.int .i64 r1, .bool r2, .int .i64 r3]) ∧ Below w.heap.size w w' := by
 have HR0 := Aside0.mk hr0
 have HC0 := Aside0.mk hc0
 clear hr0 hc0
 have HR1 := Aside0.mk hr1
 have HC1 := Aside0.mk hc1
 clear hr1 hc1
 have HB := Aside0.mk (Below.refl w.heap.size w)
 have H : ((sweep_read.f k l0).bind fun bt359 => (if bt359.2 = true then ((sweep_town_isPath.f k bt359.1 l1).bind fun t363 => (if t363 = true then (sweep_Check.l0 k 0 l1 (l1.length : Int) 0) else (some (0, false, 0)))) else (some (0, false, 2)))) = some (r1, r2, r3) := h
 clear h
 replace H := Option.bind_eq_some_iff.mp H
 obtain ⟨⟨t359, t362⟩, A30, H⟩ := H
 replace H : (if t362 = true then ((sweep_town_isPath.f k t359 l1).bind fun t363 => (if t363 = true then (sweep_Check.l0 k 0 l1 (l1.length : Int) 0) else (some (0, false, 0)))) else (some (0, false, 2))) = some (r1, r2, r3) := H
 have A3 := Aside0.mk A30
 clear A30
 by_cases c4 : t362 = true
 ·subst c4
  have H1 : ((sweep_town_isPath.f k t359 l1).bind fun t363 => (if t363 = true then (sweep_Check.l0 k 0 l1 (l1.length : Int) 0) else (some (0, false, 0)))) = some (r1, r2, r3) := by rw [if_pos rfl] at H; exact H
  clear H
  have H := H1
  clear H1
  replace H := Option.bind_eq_some_iff.mp H
  obtain ⟨t363, A50, H⟩ := H
  replace H : (if t363 = true then (sweep_Check.l0 k 0 l1 (l1.length : Int) 0) else (some (0, false, 0))) = some (r1, r2, r3) := H
  have A5 := Aside0.mk A50
  clear A50
  by_cases c6 : t363 = true
  ·subst c6
   have H1 : (sweep_Check.l0 k 0 l1 (l1.length : Int) 0) = some (r1, r2, r3) := by rw [if_pos rfl] at H; exact H
   clear H
   have H := H1
   clear H1
   have H' := Aside0.mk H
   clear H
   go_enter Tryd.func36, Tryd.ntmps36
   go_wp2_with (first | ((with_reducible refine gate_callee (f := 49) rfl ?_); refine goesL_ (some 14) rfl rfl Tryd.func49 (by kernel_rfl) rfl #[.slice A0 l0.length c0] rfl (Qls) ?_; (with_reducible refine (sweep_read.calls k (fun k_ => k_ < w.heap.size) _ _ l0 t359 true _ ?side1 A3.out).mono ?_); (case side1 => exact Kd.V_mk HC0.out (Kd.F_below (Kd.C_F (Kd.heap_int .i64) HR0.out) (Qaw))); rintro e w7 ⟨v360, rfl, ho0, hb⟩; refine ⟨_, rfl, ?_⟩; have n0_ := Aside0.mk (Kd.V_lower (Kd.V_mono (ok' := fun k_ => True) ho0 (fun k_ hk_ => trivial)) (below_size (Qaw))); have n1_ := Aside0.mk (below_step (Qaw) hb); clear HB; have HO361 := n0_; have HB := n1_; clear n0_ n1_; (try clear hb); (try clear hb2); (try clear hk); (try clear hi); (try clear ho0); obtain ⟨Ao8, co8, eo8⟩ := Kd.V_slice HO361.out; subst eo8) | ((with_reducible refine gate_callee (f := 62) rfl ?_); refine goesL_ (some 21) rfl rfl Tryd.func62 (by kernel_rfl) rfl #[.slice Ao8 t359.length co8, .slice A1 l1.length c1] rfl (Qls) ?_; (with_reducible refine (sweep_town_isPath.calls k _ _ t359 _ _ l1 true _ ?side1 ?side2 ?side3 ?side4 A5.out).mono ?_); (case side1 => exact Qsc (Kd.V_reads' HO361.out).2.2); (case side2 => exact (Kd.V_reads' HO361.out).2.1); (case side3 => exact Qsc (Kd.C_below HR1.out HB.out)); (case side4 => exact HC1.out); rintro e w9 ⟨rfl, hb⟩; refine ⟨_, rfl, ?_⟩; have n0_ := Aside0.mk (Kd.V_below (by (with_reducible repeat (first | apply Kd.V_alloc | apply Kd.V_drewN | apply Kd.V_drew)); exact HO361.out) hb); have n1_ := Aside0.mk (below_step (Qaw) hb); clear HO361; clear HB; have HO361 := n0_; have HB := n1_; clear n0_ n1_; (try clear hb); (try clear hb2); (try clear hk); (try clear hi)))
   go_loopg [9, 25] k (fun kq v9 v25 w' => ∃ (x9_1 : Int) (x25_1 : Int), v9 = .int .i64 x9_1 ∧ v25 = .int .i64 x25_1 ∧ Aside0 (sweep_Check.l0 kq x9_1 l1 (l1.length : Int) x25_1 = some (r1, r2, r3)) ∧ Aside0 (kq ≤ k) ∧ Aside0 (Below w.heap.size w w'))
   case atStart => exact ⟨(0), (0), (by first | rfl | (simp; done) | (simp [*]; done)), (by first | rfl | (simp; done) | (simp [*]; done)), H', ⟨Nat.le_refl _⟩, ⟨by repeat (first | (with_reducible first | exact HB.out | apply below_alloc | apply pw_below_drewN | apply below_drew1) | exact HB.out)⟩⟩
   case round =>
    clear H'
    try clear c1
    try clear p2
    try clear c3
    try clear c4
    try clear c6
    obtain ⟨x9_1, x25_1, rfl, rfl, HA, HK1, HB⟩ := hrel
    cases gk with
    | zero => exact absurd HA.out (by simp [sweep_Check.l0])
    | succ k1 =>
     have H := HA.out
     clear HA
     simp only [sweep_Check.l0] at H
     by_cases c10 : x25_1 < (l1.length : Int)
     ·rw [if_pos c10] at H
      have c10b0 : decide (x25_1 < (l1.length : Int)) = true := decide_eq_true c10
      clear c10
      by_cases c11 : 0 ≤ x25_1
      ·rw [if_pos c11] at H
       have c11b0 : decide (0 ≤ x25_1) = true := decide_eq_true c11
       clear c11
       by_cases c12 : x25_1 < (l1.length : Int)
       ·rw [if_pos c12] at H
        have c12b0 : decide (x25_1 < (l1.length : Int)) = true := decide_eq_true c12
        clear c12
        replace H := Option.bind_eq_some_iff.mp H
        obtain ⟨t365, A130, H⟩ := H
        replace H : (sweep_Check.l0 k1 (mx x9_1 t365) l1 (l1.length : Int) (wrap64 (x25_1 + 1))) = some (r1, r2, r3) := H
        have A13 := Aside0.mk A130
        clear A130
        obtain ⟨ji14, hji14⟩ : ∃ j_ : Int, (mx x9_1 t365) = j_ := ⟨_, rfl⟩
        replace H : (sweep_Check.l0 k1 ji14 l1 (l1.length : Int) (wrap64 (x25_1 + 1))) = some (r1, r2, r3) := by first | (rw [hji14] at H; exact H) | (simp only [hji14] at H ⊢; exact H)
        (try rw [hji14] at A13)
        have hji14_ : (if x9_1 < t365 then t365 else x9_1) = ji14 := hji14
        have H' := Aside0.mk H
        clear H
        have p364 : 0 ≤ (x25_1 : Int) := of_decide_eq_true (by first | (with_reducible assumption) | assumption)
        have q364 : x25_1 < (l1.length : Int) := of_decide_eq_true (by first | (with_reducible assumption) | assumption)
        obtain ⟨ad364, e364, hx364_0⟩ := Kd.at_int HR1.out x25_1 p364 q364
        cases e364
        replace hx364_0 := (HB.out.cell (World.block_lt_of_cell? w _ hx364_0)).trans hx364_0
        replace p364 := eq_true p364
        replace q364 := eq_true q364
        go_wp2_with (first | ((with_reducible refine gate_callee (f := 63) rfl ?_); refine goesL_ (some 31) rfl rfl Tryd.func63 (by kernel_rfl) rfl #[.int .i64 (rd l1 x25_1)] rfl (Qls) ?_; (with_reducible refine (sweep_count.calls (rd l1 x25_1) t365 _ A13.out).mono ?_); rintro e w' ⟨rfl, ⟨nd, rfl⟩⟩; refine ⟨_, rfl, ?_⟩))
        go_roundg k1
        case measure => have := HK1.out; omega
        case rel => exact ⟨(ji14), (wrap64 (x25_1 + 1)), (by first | rfl | (simp; done) | (simp only [← hji14] <;> (first | rfl | simp)) | (simp [*]; done)), (by first | rfl | (simp; done) | (simp [*]; done)), H', ⟨by have := HK1.out; omega⟩, ⟨by repeat (first | (with_reducible first | exact HB.out | apply below_alloc | apply pw_below_drewN | apply below_drew1) | exact HB.out)⟩⟩
       ·rw [if_neg c12] at H
        exact absurd H (by simp)
      ·rw [if_neg c11] at H
       exact absurd H (by simp)
     ·rw [if_neg c10] at H
      have c10b0 : decide (x25_1 < (l1.length : Int)) = false := decide_eq_false c10
      clear c10
      simp only [Option.some.injEq, Prod.mk.injEq] at H
      obtain ⟨rfl, rfl, rfl⟩ := H
      go_wp2
      go_ret3
      exact ⟨by first | rfl | (simp [errW_none, errW_some] <;> rfl) | (simp [*, errW_none, errW_some] <;> rfl), by repeat (first | (with_reducible first | exact HB.out | apply below_alloc | apply pw_below_drewN | apply below_drew1) | exact HB.out)⟩
  ·replace c6 := Bool.eq_false_iff.mpr c6
   subst c6
   have H1 : (some (0, false, 0)) = some (r1, r2, r3) := by rw [if_neg (show ¬ (false = true) by decide)] at H; exact H
   clear H
   have H := H1
   clear H1
   simp only [Option.some.injEq, Prod.mk.injEq] at H
   obtain ⟨rfl, rfl, rfl⟩ := H
   go_enter Tryd.func36, Tryd.ntmps36
   go_wp2_with (first | ((with_reducible refine gate_callee (f := 49) rfl ?_); refine goesL_ (some 14) rfl rfl Tryd.func49 (by kernel_rfl) rfl #[.slice A0 l0.length c0] rfl (Qls) ?_; (with_reducible refine (sweep_read.calls k (fun k_ => k_ < w.heap.size) _ _ l0 t359 true _ ?side1 A3.out).mono ?_); (case side1 => exact Kd.V_mk HC0.out (Kd.F_below (Kd.C_F (Kd.heap_int .i64) HR0.out) (Qaw))); rintro e w15 ⟨v360, rfl, ho0, hb⟩; refine ⟨_, rfl, ?_⟩; have n0_ := Aside0.mk (Kd.V_lower (Kd.V_mono (ok' := fun k_ => True) ho0 (fun k_ hk_ => trivial)) (below_size (Qaw))); have n1_ := Aside0.mk (below_step (Qaw) hb); clear HB; have HO361 := n0_; have HB := n1_; clear n0_ n1_; (try clear hb); (try clear hb2); (try clear hk); (try clear hi); (try clear ho0); obtain ⟨Ao16, co16, eo16⟩ := Kd.V_slice HO361.out; subst eo16) | ((with_reducible refine gate_callee (f := 62) rfl ?_); refine goesL_ (some 21) rfl rfl Tryd.func62 (by kernel_rfl) rfl #[.slice Ao16 t359.length co16, .slice A1 l1.length c1] rfl (Qls) ?_; (with_reducible refine (sweep_town_isPath.calls k _ _ t359 _ _ l1 false _ ?side1 ?side2 ?side3 ?side4 A5.out).mono ?_); (case side1 => exact Qsc (Kd.V_reads' HO361.out).2.2); (case side2 => exact (Kd.V_reads' HO361.out).2.1); (case side3 => exact Qsc (Kd.C_below HR1.out HB.out)); (case side4 => exact HC1.out); rintro e w17 ⟨rfl, hb⟩; refine ⟨_, rfl, ?_⟩; have n0_ := Aside0.mk (Kd.V_below (by (with_reducible repeat (first | apply Kd.V_alloc | apply Kd.V_drewN | apply Kd.V_drew)); exact HO361.out) hb); have n1_ := Aside0.mk (below_step (Qaw) hb); clear HO361; clear HB; have HO361 := n0_; have HB := n1_; clear n0_ n1_; (try clear hb); (try clear hb2); (try clear hk); (try clear hi)))
   go_ret3
   exact ⟨by first | rfl | (simp [errW_none, errW_some] <;> rfl) | (simp [*, errW_none, errW_some] <;> rfl), by repeat (first | (with_reducible first | exact HB.out | apply below_alloc | apply pw_below_drewN | apply below_drew1) | exact HB.out)⟩
 ·replace c4 := Bool.eq_false_iff.mpr c4
  subst c4
  have H1 : (some (0, false, 2)) = some (r1, r2, r3) := by rw [if_neg (show ¬ (false = true) by decide)] at H; exact H
  clear H
  have H := H1
  clear H1
  simp only [Option.some.injEq, Prod.mk.injEq] at H
  obtain ⟨rfl, rfl, rfl⟩ := H
  go_enter Tryd.func36, Tryd.ntmps36
  go_wp2_with (first | ((with_reducible refine gate_callee (f := 49) rfl ?_); refine goesL_ (some 14) rfl rfl Tryd.func49 (by kernel_rfl) rfl #[.slice A0 l0.length c0] rfl (Qls) ?_; (with_reducible refine (sweep_read.calls k (fun k_ => k_ < w.heap.size) _ _ l0 t359 false _ ?side1 A3.out).mono ?_); (case side1 => exact Kd.V_mk HC0.out (Kd.F_below (Kd.C_F (Kd.heap_int .i64) HR0.out) (Qaw))); rintro e w18 ⟨v360, rfl, ho0, hb⟩; refine ⟨_, rfl, ?_⟩; have n0_ := Aside0.mk (Kd.V_lower (Kd.V_mono (ok' := fun k_ => True) ho0 (fun k_ hk_ => trivial)) (below_size (Qaw))); have n1_ := Aside0.mk (below_step (Qaw) hb); clear HB; have HO361 := n0_; have HB := n1_; clear n0_ n1_; (try clear hb); (try clear hb2); (try clear hk); (try clear hi); (try clear ho0)))
  go_ret3
  exact ⟨by first | rfl | (simp [errW_none, errW_some] <;> rfl) | (simp [*, errW_none, errW_some] <;> rfl), by repeat (first | (with_reducible first | exact HB.out | apply below_alloc | apply pw_below_drewN | apply below_drew1) | exact HB.out)⟩
end Go.Proofs.YtijfddobandcdaaDoor.X
end
section
namespace Go.Proofs.YtijfddobandcdaaDoor.X
open Go.RowKit YtijfddobandcdaaDoorW.PrintWords YtijfddobandcdaaDoorW.PrintLast YtijfddobandcdaaDoorW.PrintMore
attribute [local go_sem] max2_int min2_int max_two min_two max_three min_three max_four min_four
/-! ### lampblackref02_Size: function 53 -/
def lampblackref02_Size.l0 : Nat → Int → Int → Option (Int)
 | 0, _, _ => none
 | k + 1, x0, x3 => if x0 > 0 then (lampblackref02_Size.l0 k (Go.bits .and .i64 x0 (wrap64 (x0 - 1))) (wrap64 (x3 + 1))) else (some x3)
def lampblackref02_Size.f (k : Nat) (a0 : Int) : Option (Int) := lampblackref02_Size.l0 k a0 0
end Go.Proofs.YtijfddobandcdaaDoor.X
end
section
/- Small words for loops over indices, and for what holds from some number of rounds on. -/
namespace Go.Proofs.YtijfddobandcdaaDoor.T
open Go.RowKit YtijfddobandcdaaDoorW.PrintWords YtijfddobandcdaaDoorW.PrintLast YtijfddobandcdaaDoorW.PrintMore
def allFrom (p : Nat → Bool) (n : Nat) : Nat → Nat → Bool
 | 0, _ => true
 | d + 1, i => p i && allFrom p n d (i + 1)
theorem allFrom_iff (p : Nat → Bool) (n : Nat) : ∀ d i, allFrom p n d i = true ↔ ∀ j, i ≤ j → j < i + d → p j = true
 | 0, i => by simp only [allFrom]; exact ⟨fun _ j h1 h2 => by omega, fun _ => trivial⟩
 | d + 1, i => by
  simp only [allFrom, Bool.and_eq_true, allFrom_iff p n d (i + 1)]
  constructor
  ·rintro ⟨h0, h⟩ j h1 h2
   by_cases e : j = i
   ·subst e; exact h0
   ·exact h j (by omega) (by omega)
  ·intro h
   exact ⟨h i (by omega) (by omega), fun j h1 h2 => h j (by omega) (by omega)⟩
def ibit (x : Int) (i : Nat) : Int := Go.bits .and .i64 (shr .i64 x (i : Int)) 1
theorem ibit_nat (a i : Nat) (ha : a < 2 ^ 62) (hi : i < 62) : ibit (a : Int) i = ((a.testBit i).toNat : Int) := bit_at a i ha hi
theorem wrap_succ (i : Nat) (h : i < 2 ^ 61) : wrap64 ((i : Int) + 1) = ((i + 1 : Nat) : Int) := by
 rw [w64_small _ (by omega) (by omega)]; omega
theorem wrap_pred (i : Nat) (h : i < 2 ^ 61) (h0 : 0 < i) : wrap64 ((i : Int) - 1) = ((i - 1 : Nat) : Int) := by
 rw [w64_small _ (by omega) (by omega)]; omega
theorem Ev.bind1 {α β : Type} {g : Option α} {f : Nat → α → Option β} {a : α} {r : β} (h : g = some a) (k : Ev (fun n => f n a) r) : Ev (fun n => g.bind (f n)) r := by subst h; exact k
theorem Ev.some {α : Type} {r r' : α} (h : r = r') : Ev (fun _ => some r) r' := by subst h; exact Ev.now r
theorem Ev.if_pos {α : Type} {c : Prop} [Decidable c] {g f : Nat → Option α} {r : α} (h : c) (k : Ev g r) : Ev (fun n => if c then g n else f n) r := by
 refine Ev.congr (fun n => ?_) k
 rw [_root_.if_pos h]
theorem Ev.if_neg {α : Type} {c : Prop} [Decidable c] {g f : Nat → Option α} {r : α} (h : ¬ c) (k : Ev f r) : Ev (fun n => if c then g n else f n) r := by
 refine Ev.congr (fun n => ?_) k
 rw [_root_.if_neg h]
theorem Ev.ite {α : Type} {c : Prop} [Decidable c] {g f : Nat → Option α} {r : α} (h1 : c → Ev g r) (h2 : ¬ c → Ev f r) : Ev (fun n => if c then g n else f n) r := by
 by_cases h : c
 ·exact Ev.if_pos h (h1 h)
 ·exact Ev.if_neg h (h2 h)
end Go.Proofs.YtijfddobandcdaaDoor.T
end
section
/- Graphs as lists of numbers: what it is to be valid; sets of nodes as numbers. -/
namespace Go.Proofs.YtijfddobandcdaaDoor.T
open Go.RowKit YtijfddobandcdaaDoorW.PrintWords YtijfddobandcdaaDoorW.PrintLast YtijfddobandcdaaDoorW.PrintMore
def rowOk (g : List Int) (i : Nat) : Bool :=
 !decide (rd g (i : Int) < 0) && !decide (rd g (i : Int) ≥ shl .i64 1 (g.length : Int)) && !(ibit (rd g (i : Int)) i == 1) &&
  allFrom (fun j => decide (ibit (rd g (i : Int)) j = ibit (rd g (j : Int)) i)) g.length g.length 0
def chk (m : Nat) (g : List Int) : Bool := decide (1 ≤ g.length) && decide (g.length ≤ m) && allFrom (rowOk g) g.length g.length 0
structure Gr (m : Nat) (G : List Nat) : Prop where
 pos : 1 ≤ G.length
 most : G.length ≤ m
 lt : ∀ i, i < G.length → G.getD i 0 < 2 ^ G.length
 irr : ∀ i, i < G.length → (G.getD i 0).testBit i = false
 symm : ∀ i j, i < G.length → j < G.length → (G.getD i 0).testBit j = (G.getD j 0).testBit i
theorem chk_iff (m : Nat) (hm : m ≤ 13) (g : List Int) : chk m g = true ↔ ∃ G, g = gi G ∧ Gr m G := by
 have p62 : ∀ n : Nat, n ≤ 13 → 2 ^ n < 2 ^ 62 := fun n hn => Nat.pow_lt_pow_right (by omega) (by omega)
 constructor
 ·intro h
  simp only [chk, Bool.and_eq_true, decide_eq_true_eq, allFrom_iff] at h
  obtain ⟨⟨h1, h2⟩, h3⟩ := h
  have hn : g.length ≤ 13 := by omega
  have hrow : ∀ i, i < g.length → (0 ≤ rd g (i : Int) ∧ rd g (i : Int) < ((2 ^ g.length : Nat) : Int)) ∧ ibit (rd g (i : Int)) i ≠ 1 ∧ ∀ j, j < g.length → ibit (rd g (i : Int)) j = ibit (rd g (j : Int)) i := by
   intro i hi
   have := h3 i (by omega) (by omega)
   simp only [rowOk, Bool.and_eq_true, Bool.not_eq_true', decide_eq_false_iff_not, beq_eq_false_iff_ne, allFrom_iff, decide_eq_true_eq] at this
   obtain ⟨⟨⟨a, b⟩, c⟩, d⟩ := this
   rw [s_one _ (by omega)] at b
   exact ⟨⟨by omega, by omega⟩, c, fun j hj => d j (by omega) (by omega)⟩
  obtain ⟨G, rfl⟩ := gi_nonneg g (fun x hx => by
   obtain ⟨i, hi, rfl⟩ := List.getElem_of_mem hx
   have := (hrow i hi).1.1
   unfold rd at this
   rw [Int.toNat_natCast, List.getD_eq_getElem?_getD, List.getElem?_eq_getElem hi] at this
   exact this)
  simp only [gi_length, rd_gi] at hrow h1 h2 hn
  have hlt : ∀ i, i < G.length → G.getD i 0 < 2 ^ G.length := fun i hi => by have := (hrow i hi).1.2; omega
  refine ⟨G, rfl, h1, h2, hlt, fun i hi => ?_, fun i j hi hj => ?_⟩
  ·have := (hrow i hi).2.1
   rw [ibit_nat _ _ (Nat.lt_trans (hlt i hi) (p62 _ hn)) (by omega)] at this
   cases hb : (G.getD i 0).testBit i
   ·rfl
   ·rw [hb] at this; exact (this rfl).elim
  ·have := (hrow i hi).2.2 j hj
   rw [ibit_nat _ _ (Nat.lt_trans (hlt i hi) (p62 _ hn)) (by omega), ibit_nat _ _ (Nat.lt_trans (hlt j hj) (p62 _ hn)) (by omega)] at this
   cases ha : (G.getD i 0).testBit j <;> cases hb : (G.getD j 0).testBit i <;> rw [ha, hb] at this <;> simp_all
 ·rintro ⟨G, rfl, hG⟩
  have hn : G.length ≤ 13 := Nat.le_trans hG.most hm
  simp only [chk, Bool.and_eq_true, decide_eq_true_eq, allFrom_iff, gi_length]
  refine ⟨⟨hG.pos, hG.most⟩, fun i _ hi => ?_⟩
  have hi : i < G.length := by omega
  simp only [rowOk, Bool.and_eq_true, Bool.not_eq_true', decide_eq_false_iff_not, beq_eq_false_iff_ne, allFrom_iff, decide_eq_true_eq, rd_gi, gi_length]
  rw [s_one _ (by omega)]
  have hl := hG.lt i hi
  refine ⟨⟨⟨by omega, by omega⟩, ?_⟩, fun j _ hj => ?_⟩
  ·rw [ibit_nat _ _ (Nat.lt_trans hl (p62 _ hn)) (by omega), hG.irr i hi]; simp
  ·have hj : j < G.length := by omega
   rw [ibit_nat _ _ (Nat.lt_trans hl (p62 _ hn)) (by omega), ibit_nat _ _ (Nat.lt_trans (hG.lt j hj) (p62 _ hn)) (by omega), hG.symm i j hi hj]
def Adj (G : List Nat) (u w : Nat) : Prop := (G.getD u 0).testBit w = true
theorem getD_out (G : List Nat) (i : Nat) (h : G.length ≤ i) : G.getD i 0 = 0 := by
 rw [List.getD_eq_getElem?_getD, List.getElem?_eq_none h]; rfl
theorem Gr.row {m : Nat} {G : List Nat} (h : Gr m G) (i : Nat) : G.getD i 0 < 2 ^ G.length := by
 by_cases hi : i < G.length
 ·exact h.lt i hi
 ·rw [getD_out G i (by omega)]; exact Nat.two_pow_pos _
theorem Gr.adj_lt {m : Nat} {G : List Nat} (h : Gr m G) {u w : Nat} (a : Adj G u w) : w < G.length := by
 apply Classical.byContradiction
 intro hw
 unfold Adj at a
 rw [testBit_ge (h.row u) (by omega)] at a
 cases a
theorem Gr.adj_lt' {m : Nat} {G : List Nat} (h : Gr m G) {u w : Nat} (a : Adj G u w) : u < G.length := by
 apply Classical.byContradiction
 intro hu
 unfold Adj at a
 rw [getD_out G u (by omega)] at a
 simp at a
theorem Gr.adj_symm {m : Nat} {G : List Nat} (h : Gr m G) {u w : Nat} (a : Adj G u w) : Adj G w u := by
 have h1 := h.adj_lt a
 have h2 := h.adj_lt' a
 unfold Adj at *
 rw [← h.symm u w h2 h1]; exact a
def around (G : List Nat) (s : Nat) : Nat → Nat
 | 0 => 0
 | d + 1 => around G s d ||| (if s.testBit d then G.getD d 0 else 0)
theorem around_bit (G : List Nat) (s : Nat) : ∀ d j, (around G s d).testBit j = true ↔ ∃ i, i < d ∧ s.testBit i = true ∧ Adj G i j
 | 0, j => by simp [around]
 | d + 1, j => by
  simp only [around, Nat.testBit_or, Bool.or_eq_true, around_bit G s d]
  constructor
  ·rintro (⟨i, h1, h2⟩ | h)
   ·exact ⟨i, by omega, h2⟩
   ·by_cases hs : s.testBit d = true
    ·rw [if_pos hs] at h; exact ⟨d, by omega, hs, h⟩
    ·rw [if_neg hs] at h; simp at h
  ·rintro ⟨i, h1, h2, h3⟩
   by_cases e : i = d
   ·subst e; rw [if_pos h2]; exact .inr h3
   ·exact .inl ⟨i, by omega, h2, h3⟩
def Around (G : List Nat) (s : Nat) : Nat := around G s G.length
theorem Around_bit {m : Nat} {G : List Nat} (h : Gr m G) (s j : Nat) : (Around G s).testBit j = true ↔ ∃ i, s.testBit i = true ∧ Adj G i j := by
 unfold Around
 rw [around_bit]
 exact ⟨fun ⟨i, _, h2⟩ => ⟨i, h2⟩, fun ⟨i, h1, h2⟩ => ⟨i, h.adj_lt' h2, h1, h2⟩⟩
theorem lt_of_bits {x n : Nat} (h : ∀ j, x.testBit j = true → j < n) : x < 2 ^ n := by
 apply Nat.lt_pow_two_of_testBit
 intro i hi
 cases hb : x.testBit i
 ·rfl
 ·have := h i hb; omega
theorem bit_lt {x n j : Nat} (h : x < 2 ^ n) (hb : x.testBit j = true) : j < n := by
 apply Classical.byContradiction
 intro hj
 rw [testBit_ge h (by omega)] at hb
 cases hb
theorem Around_lt {m : Nat} {G : List Nat} (h : Gr m G) (s : Nat) : Around G s < 2 ^ G.length :=
 lt_of_bits fun j hj => by obtain ⟨i, _, h2⟩ := (Around_bit h s j).1 hj; exact h.adj_lt h2
theorem eq_of_bits {a b : Nat} (h : ∀ j, a.testBit j = true ↔ b.testBit j = true) : a = b := by
 apply Nat.eq_of_testBit_eq
 intro i
 have := h i
 cases ha : a.testBit i <;> cases hb : b.testBit i <;> simp_all
inductive Con (adj : Nat → Nat → Prop) (w : Nat → Prop) (s : Nat → Prop) : Nat → Prop
 | base {u : Nat} : s u → Con adj w s u
 | step {x u : Nat} : Con adj w s x → adj x u → w u → Con adj w s u
def bset (x : Nat) (i : Nat) : Prop := x.testBit i = true
end Go.Proofs.YtijfddobandcdaaDoor.T
end
