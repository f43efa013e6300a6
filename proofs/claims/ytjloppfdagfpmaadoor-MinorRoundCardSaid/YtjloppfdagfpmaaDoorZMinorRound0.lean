/- Part 0 of what MinorRound rests on: contracts of the functions that it reaches, and what they compute, in plain words. -/
import Derived.Test.YtjloppfdagfpmaaDoorProg
import Derived.Below
import Derived.Deep.Draws
import Derived.Deep.AppendLies
import Derived.Maps.AppendAt
import Derived.OwnWalk
import Derived.Laws.BytesArg
import Derived.Laws.MakeOwn
import Derived.Laws.OwnMore
import Derived.Deep.OwnRows
import Derived.Tactics
import Derived.Lib.ConvBytes
import Derived.Laws.Slices
import Derived.WalkKit
import Derived.KernelRfl
import Derived.RowKit3
import Derived.Deep.LoopGhost
import Derived.Deep.QuietTactic
import Derived.BigQuiet
import Derived.WideLaws
import Derived.Deep.DeepCutAuto
import Derived.Deep.CutBlock
import Derived.Deep.RegionHeld3
import Derived.Laws.Rows
import Derived.Lib.AppendStr
import Derived.ArgAppend
import Derived.Laws.IdiomCopy
import Derived.OrdersHeld
import Derived.Laws.BitsLemmas
import Derived.RowKit
import Derived.Test.YtjloppfdagfpmaaDoorWWords
import Derived.Test.YtjloppfdagfpmaaDoorWLast
import Derived.Test.YtjloppfdagfpmaaDoorWTab
import Derived.Test.YtjloppfdagfpmaaDoorWQPut
import Derived.Test.YtjloppfdagfpmaaDoorWApart
import Derived.Test.YtjloppfdagfpmaaDoorWArr
import Derived.Test.YtjloppfdagfpmaaDoorWZeros
import Derived.Test.YtjloppfdagfpmaaDoorWFoot
import Derived.Test.YtjloppfdagfpmaaDoorWKept
import Derived.Test.YtjloppfdagfpmaaDoorWShare
import Derived.Test.YtjloppfdagfpmaaDoorWN
import Derived.Laws.StructEq
import Derived.Test.YtjloppfdagfpmaaDoorWRepsOne
import Derived.Test.YtjloppfdagfpmaaDoorWGuard
import Derived.Test.YtjloppfdagfpmaaDoorWNEv
import Derived.Test.YtjloppfdagfpmaaDoorWMore
import Derived.Laws.Bits64b
import Derived.Lib.TrailingZeros
import Derived.Test.YtjloppfdagfpmaaDoorRows
import Derived.ChangeSame
import Derived.ChangeVars
import Derived.JoinedOf
import Derived.LaidLaws
import Derived.LaidHandle
import Derived.Lib.LaidTab
import Derived.Stop.LaidErr
import Derived.WalkSpells
import Derived.Maps.OwnIn
import Derived.WalkSmall
set_option linter.unusedVariables false
set_option linter.unusedSimpArgs false
namespace Go.Proofs.YtjloppfdagfpmaaDoor.X
def Qbz (n k : Nat) : Array Bool := ((List.range n).map fun i => k.testBit i).toArray
theorem Qp1 {α : Type} (l : List α) (i : Nat) (a : α) : l.toArray.setIfInBounds i a = (l.set i a).toArray := List.setIfInBounds_toArray ..
theorem Qp2 {α : Type} (a b : α) (t : List α) : (a :: t).set 0 b = b :: t := rfl
theorem Qp3 {α : Type} (a b : α) (t : List α) (n : Nat) : (a :: t).set (n + 1) b = a :: t.set n b := rfl
theorem Qaw {p : Prop} (h : p := by repeat (first | (with_reducible first | exact HB.out | apply below_alloc | apply pw_below_drewN | apply below_drew1) | exact HB.out)) : p := h
theorem Qro {p q : Prop} (h : q) (f : q → p := by intro hz_; (with_reducible repeat (first | apply Kd.R_alloc | apply Kd.R_drewN | apply Kd.R_drew)); exact hz_) : p := f h
theorem Qls {p : Prop} (h : p := by (try simp only [List.map_toArray, List.map_cons, List.map_nil]); first | done | rfl | (simp only [List.length_drop, List.length_take]; rfl)) : p := h
theorem Qlg {p : Prop} (h : p := by repeat (first | (with_reducible exact HGL.out) | (with_reducible exact GL_below HGL.out HB.out) | (with_reducible refine GL_alloc ?_ _) | (with_reducible refine GL_drewN ?_ _) | (with_reducible refine GL_drew ?_))) : p := h
theorem Qsc {p q : Prop} (h : q) (f : q → p := by intro hz_; repeat (first | exact hz_ | (with_reducible refine Kd.C_alloc ?_ _) | (with_reducible refine Kd.C_drewN ?_ _) | (with_reducible refine Kd.C_drew ?_))) : p := f h
end Go.Proofs.YtjloppfdagfpmaaDoor.X
section
namespace Go.Proofs.YtjloppfdagfpmaaDoor.X
open Go.RowKit YtjloppfdagfpmaaDoorW.PrintWords YtjloppfdagfpmaaDoorW.PrintLast YtjloppfdagfpmaaDoorW.PrintMore
attribute [local go_sem] max2_int min2_int max_two min_two max_three min_three max_four min_four
def errW : Option Int → Value
 | none => .nilIface
 | some c => .iface 0 (.int .i64 c)
theorem errW_none : errW none = .nilIface := rfl
theorem errW_some (c : Int) : errW (some c) = .iface 0 (.int .i64 c) := rfl
theorem info3 : (Tryd.prog.info? 3).map (fun i => (i.zero, i.size, i.bytes)) = some (some (.int .i64 0), 1, 8) := by kernel_rfl
theorem info95 : (Tryd.prog.info? 95).map (fun i => (i.zero, i.size, i.bytes)) = some (some (.agg #[(.int .i64 0), (.int .i64 0), (.int .i64 0), (.int .i64 0)]), 4, 32) := by kernel_rfl
/-! #### struct type 62 -/
/-! #### struct type 95 -/
structure S95 where
 f0 : Int
 f1 : Int
 f2 : Int
 f3 : Int
def k95 : Kd S95 := Kd.iso (Kd.pair (Kd.int .i64) (Kd.pair (Kd.int .i64) (Kd.pair (Kd.int .i64) (Kd.int .i64)))) (fun x : S95 => (x.f0, x.f1, x.f2, x.f3))
theorem k95_mkM (w : World) (base : Nat) (ok : Nat → Prop) (x : S95)  : k95.M w base ok x [.int .i64 x.f0, .int .i64 x.f1, .int .i64 x.f2, .int .i64 x.f3] := ⟨[.int .i64 x.f0], [.int .i64 x.f1, .int .i64 x.f2, .int .i64 x.f3], rfl, rfl, ⟨[.int .i64 x.f1], [.int .i64 x.f2, .int .i64 x.f3], rfl, rfl, ⟨[.int .i64 x.f2], [.int .i64 x.f3], rfl, rfl, rfl⟩⟩⟩
end Go.Proofs.YtjloppfdagfpmaaDoor.X
end
section
/- math/bits.TrailingZeros: it returns Lib.ctz 64 x, where its table lies as the program's text lays it (GL). -/
namespace Go.Proofs.YtjloppfdagfpmaaDoor.X
open Go.RowKit YtjloppfdagfpmaaDoorW.PrintWords YtjloppfdagfpmaaDoorW.PrintLast YtjloppfdagfpmaaDoorW.PrintMore
def GL (w : World) : Prop := ∀ j, j < 64 → w.cell? ⟨1, j, none⟩ = some (.int .u8 ((Lib.deBruijn64tab.getD j 0 : Nat) : Int))
theorem GL_below {w w1 : World} (h : GL w) (hb : Below w.heap.size w w1) : GL w1 := fun j hj => (hb.cell (World.block_lt_of_cell? w _ (h j hj))).trans (h j hj)
theorem GL_alloc {w : World} (h : GL w) (o : Obj) : GL (w.alloc o) := GL_below h (below_alloc (Below.refl _ _) o)
theorem GL_drewN {w : World} (h : GL w) (n : Nat) : GL (w.drewN n) := GL_below h (pw_below_drewN (Below.refl _ _) n)
theorem GL_drew {w : World} (h : GL w) : GL w.drew := GL_below h (below_drew1 (Below.refl _ _))
theorem tz_key (x a : Nat) (hx : x < 18446744073709551616) (hx0 : x ≠ 0) (hlow : x &&& (18446744073709551616 - x) = a) :
  IntKind.u64.wrap (bits BinOp.and IntKind.u64 (x : Int) (IntKind.u64.wrap (-(x : Int))) * 285870213051353865) / 288230376151711744 = ((a * 285870213051353865 % 18446744073709551616 / 288230376151711744 : Nat) : Int) := by
 rw [show IntKind.u64.wrap (-(x : Int)) = ((18446744073709551616 - x : Nat) : Int) by rw [IntKind.wrap_u64]; omega]
 rw [bits_and_u64_nat x _ hx (by omega), hlow, IntKind.wrap_u64]
 omega
set_option maxHeartbeats 1000000 in
theorem tz64_core (x k idx : Nat) (w : World) (hx0 : ((x : Int) == 0) = false)
  (key : IntKind.u64.wrap (bits BinOp.and IntKind.u64 (x : Int) (IntKind.u64.wrap (-(x : Int))) * 285870213051353865) / 288230376151711744 = (idx : Int))
  (hi : idx < 64) (hk : k < 64) (hcell : w.cell? ⟨1, idx, none⟩ = some (.int .u8 k)) :
  Calls Tryd.prog 112 #[.int .u64 x] w fun e w' => e = .returned (.int .i64 k) ∧ w = w' := by
 go_enter Tryd.func112, Tryd.ntmps112
 go_wp2_with (simp only [key])
 go_ret
 exact ⟨rfl, rfl⟩
theorem tz64_zero (w : World) :
  Calls Tryd.prog 112 #[.int .u64 0] w fun e w' => e = .returned (.int .i64 64) ∧ w = w' := by
 go_enter Tryd.func112, Tryd.ntmps112
 go_wp2
 go_ret
 exact ⟨rfl, rfl⟩
theorem tz64 (x : Nat) (hx : x < 18446744073709551616) (w : World) (hT : GL w) :
  Calls Tryd.prog 112 #[.int .u64 x] w fun e w' => e = .returned (.int .i64 (Lib.ctz 64 x)) ∧ w = w' := by
 by_cases hx0 : x = 0
 ·subst hx0
  exact tz64_zero w
 ·obtain ⟨hlow, hk⟩ := Lib.lowest_bit 64 x hx0 hx
  obtain ⟨hi, htab⟩ := Lib.deBruijn64_at _ hk
  have hcell := hT _ hi
  rw [htab] at hcell
  exact tz64_core x _ _ w (by simp; omega) (tz_key x _ hx hx0 hlow) hi hk hcell
def bits_TrailingZeros.f (a : Int) : Option Int := if 0 ≤ a then (if a < 18446744073709551616 then some ((Lib.ctz 64 a.toNat : Nat) : Int) else none) else none
theorem bits_TrailingZeros.exact (a0 : Int) (r : Int) (w : World) (hGL : GL w) (h : bits_TrailingZeros.f a0 = some r) :
  Calls Tryd.prog 94 #[.int .u64 a0] w fun e w' => e = .returned (.int .i64 r) ∧ w = w' := by
 unfold bits_TrailingZeros.f at h
 by_cases h0 : 0 ≤ a0
 ·rw [if_pos h0] at h
  by_cases h1 : a0 < 18446744073709551616
  ·rw [if_pos h1] at h
   have h := Option.some.inj h
   subst h
   obtain ⟨x, rfl⟩ := Int.eq_ofNat_of_zero_le h0
   have hx : x < 18446744073709551616 := by omega
   have HG := Aside0.mk hGL
   clear hGL h0 h1
   rw [Int.toNat_natCast]
   go_enter Tryd.func94, Tryd.ntmps94
   go_wp2_with (go_at_call 112; (with_reducible refine (tz64 _ hx _ HG.out).mono ?_); rintro e w' ⟨rfl, rfl⟩)
   go_ret
   exact ⟨rfl, rfl⟩
  ·rw [if_neg h1] at h
   cases h
 ·rw [if_neg h0] at h
  cases h
theorem bits_TrailingZeros.calls (a0 : Int) (r : Int) (w : World) (hGL : GL w) (h : bits_TrailingZeros.f a0 = some r) :
  Calls Tryd.prog 94 #[.int .u64 a0] w fun e w' => e = .returned (.int .i64 r) ∧ Drawn0 w w' :=
 (bits_TrailingZeros.exact a0 r w hGL h).mono fun e w' h => ⟨h.1, by rw [h.2]; exact Drawn0.refl _⟩
end Go.Proofs.YtjloppfdagfpmaaDoor.X
end
section
/- What all rows of this seat share: the tables that the rows list, and a world that holds them. -/
namespace Go.Proofs.YtjloppfdagfpmaaDoor.X
open Go.ChangeShapes Go.WideShapes Go.RowKit
theorem own : ownKnob Tryd.prog.godebug = none := by kernel_rfl
theorem laidOut : laidOutB Tryd.prog = true := by kernel_rfl
def LAID : List (String × DataW Unit) := [("math/bits.deBruijn32tab", Rows.laid_math_bits_deBruijn32tab), ("math/bits.deBruijn64tab", Rows.laid_math_bits_deBruijn64tab)]
theorem g64 : Tryd.prog.globalNamed "math/bits.deBruijn64tab" = some 1 := by kernel_rfl
theorem t64 : (Tryd.prog.globals[1]?).map (·.type) = some 130 := by kernel_rfl
def z64 : List Int := Lib.deBruijn64tab.map fun (x : Nat) => (x : Int)
theorem d64 {H : Type} : (Rows.laid_math_bits_deBruijn64tab : DataW H) = Lib.tabData .u8 z64 := by rfl
theorem gl_of_laid {W : World} (h : laidMetH Tryd.prog LAID W) : GL W := by
 have h0 : laidMet Tryd.prog LAID W := h
 have h1 : laidMet Tryd.prog [("math/bits.deBruijn64tab", Lib.tabData .u8 z64)] W := by
  have := laidMet.tail h0
  rw [d64] at this
  exact this
 have h2 := Lib.tabIs_of_head g64 t64 Tryd.underlying130 (by kernel_rfl) (by kernel_rfl) (by kernel_rfl) h1
 intro j hj
 have := h2.cell g64 j (by simpa [z64, Lib.deBruijn64tab] using hj)
 rw [this]
 congr 2
 unfold z64
 rw [List.getD_eq_getElem?_getD, List.getElem?_map, List.getD_eq_getElem?_getD]
 cases Lib.deBruijn64tab[j]? <;> rfl
noncomputable def laidWorld (os : Os) : World :=
 let w0 := World.holding Tryd.prog os ⟨#[], #[], []⟩
 { w0 with heap := (w0.heap.modify 0 fun
   | .cells _ t frozen => .cells ((Lib.deBruijn32tab.map fun (x : Nat) => Value.int .u8 (x : Int)).toArray) t frozen
   | o => o).modify 1 fun
   | .cells _ t frozen => .cells ((Lib.deBruijn64tab.map fun (x : Nat) => Value.int .u8 (x : Int)).toArray) t frozen
   | o => o }
theorem laidWorld_met (os : Os) (args : Array Value) : laidMetH Tryd.prog LAID ((laidWorld os).forCall (fun _ _ => 0) ⟨#[], args, []⟩).memory :=
 show laidMet Tryd.prog LAID _ from laidMet_of_run' 8 (by kernel_rfl) (by kernel_rfl)
end Go.Proofs.YtjloppfdagfpmaaDoor.X
end
section
/- Sets as numbers: what Go's bit operations on an int come to, for numbers below 2^62. -/
namespace Go.Proofs.YtjloppfdagfpmaaDoor.T
open Go.RowKit YtjloppfdagfpmaaDoorW.PrintWords YtjloppfdagfpmaaDoorW.PrintLast YtjloppfdagfpmaaDoorW.PrintMore
def diff (a b : Nat) : Nat := a ^^^ (a &&& b)
theorem diff_testBit (a b i : Nat) : (diff a b).testBit i = (a.testBit i && !b.testBit i) := by
 unfold diff; simp; cases a.testBit i <;> cases b.testBit i <;> rfl
theorem diff_le (a b : Nat) : diff a b ≤ a := by
 have h : diff a b &&& a = diff a b := by
  apply Nat.eq_of_testBit_eq; intro i; simp [diff_testBit]
  cases a.testBit i <;> simp
 rw [← h]; exact Nat.and_le_right
theorem or_lt {a b j : Nat} (ha : a < 2 ^ j) (hb : b < 2 ^ j) : a ||| b < 2 ^ j := Nat.or_lt_two_pow ha hb
theorem i64_small (n : Int) (h0 : 0 ≤ n) (h1 : n < 2 ^ 62) : IntKind.i64.wrap n = n := by rw [IntKind.wrap_i64]; omega
theorem w64_small (n : Int) (h0 : -(2 ^ 62) ≤ n) (h1 : n < 2 ^ 62) : wrap64 n = n := by unfold wrap64; omega
theorem u64_low (a : Nat) (ha : a < 2 ^ 62) : (BitVec.ofInt 64 (a : Int)).toNat = a := by
 rw [BitVec.ofInt_natCast, BitVec.toNat_ofNat]; exact Nat.mod_eq_of_lt (by omega)
theorem b_and (a b : Nat) (ha : a < 2 ^ 62) (hb : b < 2 ^ 62) : Go.bits .and .i64 (a : Int) (b : Int) = ((a &&& b : Nat) : Int) := by
 have hx : a &&& b < 2 ^ 62 := Nat.and_lt_two_pow _ hb
 show IntKind.i64.wrap ((BitVec.ofInt 64 (a : Int) &&& BitVec.ofInt 64 (b : Int)).toNat : Int) = _
 rw [BitVec.toNat_and, u64_low a ha, u64_low b hb]
 exact i64_small _ (by omega) (by omega)
theorem b_or (a b : Nat) (ha : a < 2 ^ 62) (hb : b < 2 ^ 62) : Go.bits .or .i64 (a : Int) (b : Int) = ((a ||| b : Nat) : Int) := by
 have hx : a ||| b < 2 ^ 62 := Nat.or_lt_two_pow ha hb
 show IntKind.i64.wrap ((BitVec.ofInt 64 (a : Int) ||| BitVec.ofInt 64 (b : Int)).toNat : Int) = _
 rw [BitVec.toNat_or, u64_low a ha, u64_low b hb]
 exact i64_small _ (by omega) (by omega)
theorem b_andNot (a b : Nat) (ha : a < 2 ^ 62) (hb : b < 2 ^ 62) : Go.bits .andNot .i64 (a : Int) (b : Int) = ((diff a b : Nat) : Int) := by
 have hx : diff a b < 2 ^ 62 := Nat.lt_of_le_of_lt (diff_le a b) ha
 show IntKind.i64.wrap ((BitVec.ofInt 64 (a : Int) &&& ~~~ BitVec.ofInt 64 (b : Int)).toNat : Int) = _
 have e : (BitVec.ofInt 64 (a : Int) &&& ~~~ BitVec.ofInt 64 (b : Int)).toNat = diff a b := by
  apply Nat.eq_of_testBit_eq
  intro i
  rw [diff_testBit, BitVec.testBit_toNat, BitVec.getLsbD_and, BitVec.getLsbD_not, ← BitVec.testBit_toNat, ← BitVec.testBit_toNat, u64_low a ha, u64_low b hb]
  by_cases hi : i < 64
  ·simp [hi]
  ·have : a.testBit i = false := Nat.testBit_lt_two_pow (Nat.lt_of_lt_of_le ha (Nat.pow_le_pow_right (by omega) (by omega)))
   simp [this]
 rw [e]
 exact i64_small _ (by omega) (by omega)
theorem s_one (i : Nat) (hi : i < 62) : shl .i64 1 (i : Int) = ((2 ^ i : Nat) : Int) := by
 have h1 : 2 ^ i < 2 ^ 62 := Nat.pow_lt_pow_right (by omega) hi
 unfold shl
 rw [show min (i : Int).toNat IntKind.i64.bits = i by simp [IntKind.bits]; omega, Int.one_mul]
 rw [show ((2 : Int) ^ i) = ((2 ^ i : Nat) : Int) by simp]
 exact i64_small _ (Int.natCast_nonneg _) (by omega)
theorem s_shr (a i : Nat) (hi : i < 62) : shr .i64 (a : Int) (i : Int) = ((a / 2 ^ i : Nat) : Int) := by
 unfold shr
 rw [show min (i : Int).toNat IntKind.i64.bits = i by simp [IntKind.bits]; omega]
 simp
theorem bit_at (a i : Nat) (ha : a < 2 ^ 62) (hi : i < 62) : Go.bits .and .i64 (shr .i64 (a : Int) (i : Int)) 1 = ((a.testBit i).toNat : Int) := by
 rw [s_shr a i hi]
 have h1 : a / 2 ^ i < 2 ^ 62 := Nat.lt_of_le_of_lt (Nat.div_le_self _ _) ha
 have := b_and (a / 2 ^ i) 1 h1 (by omega)
 rw [show ((1 : Nat) : Int) = 1 from rfl] at this
 rw [this, Nat.and_one_is_mod, Nat.testBit_eq_decide_div_mod_eq]
 by_cases h : a / 2 ^ i % 2 = 1
 ·simp [h]
 ·have : a / 2 ^ i % 2 = 0 := by omega
  simp [this]
theorem bit_one (a i : Nat) (ha : a < 2 ^ 62) (hi : i < 62) : Go.bits .and .i64 (shr .i64 (a : Int) (i : Int)) 1 = 1 ↔ a.testBit i = true := by
 rw [bit_at a i ha hi]; cases a.testBit i <;> simp
theorem bit_zero (a i : Nat) (ha : a < 2 ^ 62) (hi : i < 62) : Go.bits .and .i64 (shr .i64 (a : Int) (i : Int)) 1 = 0 ↔ a.testBit i = false := by
 rw [bit_at a i ha hi]; cases a.testBit i <;> simp
def gi (l : List Nat) : List Int := l.map fun (x : Nat) => (x : Int)
theorem gi_length (l : List Nat) : (gi l).length = l.length := by simp [gi]
theorem rd_gi (l : List Nat) (i : Nat) : rd (gi l) (i : Int) = ((l.getD i 0 : Nat) : Int) := by
 unfold rd gi
 simp only [Int.toNat_natCast, List.getD_eq_getElem?_getD, List.getElem?_map]
 cases l[i]? <;> rfl
theorem gi_set (l : List Nat) (i x : Nat) : (gi l).set i (x : Int) = gi (l.set i x) := by simp [gi, List.map_set]
theorem gi_nonneg (l : List Int) (h : ∀ x ∈ l, 0 ≤ x) : ∃ m : List Nat, l = gi m := by
 refine ⟨l.map Int.toNat, ?_⟩
 unfold gi
 rw [List.map_map]
 conv => lhs; rw [← List.map_id l]
 apply List.map_congr_left
 intro x hx
 have := h x hx
 simp; omega
theorem testBit_ge {a n i : Nat} (h : a < 2 ^ n) (hi : n ≤ i) : a.testBit i = false := Nat.testBit_lt_two_pow (Nat.lt_of_lt_of_le h (Nat.pow_le_pow_right (by omega) hi))
end Go.Proofs.YtjloppfdagfpmaaDoor.T
end
section
/- Small words for loops over indices, and for what holds from some number of rounds on. -/
namespace Go.Proofs.YtjloppfdagfpmaaDoor.T
open Go.RowKit YtjloppfdagfpmaaDoorW.PrintWords YtjloppfdagfpmaaDoorW.PrintLast YtjloppfdagfpmaaDoorW.PrintMore
def allFrom (p : Nat → Bool) (n : Nat) : Nat → Nat → Bool
 | 0, _ => true
 | d + 1, i => p i && allFrom p n d (i + 1)
theorem allFrom_iff (p : Nat → Bool) (n : Nat) : ∀ d i, allFrom p n d i = true ↔ ∀ j, i ≤ j → j < i + d → p j = true
 | 0, i => by simp only [allFrom]; exact ⟨fun _ j h1 h2 => by omega, fun _ => trivial⟩
 | d + 1, i => by
  simp only [allFrom, Bool.and_eq_true, allFrom_iff p n d (i + 1)]
  constructor
  ·rintro ⟨h0, h⟩ j h1 h2
   by_cases e : j = i
   ·subst e; exact h0
   ·exact h j (by omega) (by omega)
  ·intro h
   exact ⟨h i (by omega) (by omega), fun j h1 h2 => h j (by omega) (by omega)⟩
def ibit (x : Int) (i : Nat) : Int := Go.bits .and .i64 (shr .i64 x (i : Int)) 1
theorem ibit_nat (a i : Nat) (ha : a < 2 ^ 62) (hi : i < 62) : ibit (a : Int) i = ((a.testBit i).toNat : Int) := bit_at a i ha hi
theorem wrap_succ (i : Nat) (h : i < 2 ^ 61) : wrap64 ((i : Int) + 1) = ((i + 1 : Nat) : Int) := by
 rw [w64_small _ (by omega) (by omega)]; omega
theorem Ev.bind1 {α β : Type} {g : Option α} {f : Nat → α → Option β} {a : α} {r : β} (h : g = some a) (k : Ev (fun n => f n a) r) : Ev (fun n => g.bind (f n)) r := by subst h; exact k
theorem Ev.some {α : Type} {r r' : α} (h : r = r') : Ev (fun _ => some r) r' := by subst h; exact Ev.now r
theorem Ev.if_pos {α : Type} {c : Prop} [Decidable c] {g f : Nat → Option α} {r : α} (h : c) (k : Ev g r) : Ev (fun n => if c then g n else f n) r := by
 refine Ev.congr (fun n => ?_) k
 rw [_root_.if_pos h]
theorem Ev.if_neg {α : Type} {c : Prop} [Decidable c] {g f : Nat → Option α} {r : α} (h : ¬ c) (k : Ev f r) : Ev (fun n => if c then g n else f n) r := by
 refine Ev.congr (fun n => ?_) k
 rw [_root_.if_neg h]
theorem Ev.ite {α : Type} {c : Prop} [Decidable c] {g f : Nat → Option α} {r : α} (h1 : c → Ev g r) (h2 : ¬ c → Ev f r) : Ev (fun n => if c then g n else f n) r := by
 by_cases h : c
 ·exact Ev.if_pos h (h1 h)
 ·exact Ev.if_neg h (h2 h)
end Go.Proofs.YtjloppfdagfpmaaDoor.T
end
section
/- Graphs as lists of numbers: what it is to be valid; sets of nodes as numbers. -/
namespace Go.Proofs.YtjloppfdagfpmaaDoor.T
open Go.RowKit YtjloppfdagfpmaaDoorW.PrintWords YtjloppfdagfpmaaDoorW.PrintLast YtjloppfdagfpmaaDoorW.PrintMore
def rowOk (g : List Int) (i : Nat) : Bool :=
 !decide (rd g (i : Int) < 0) && !decide (rd g (i : Int) ≥ shl .i64 1 (g.length : Int)) && !(ibit (rd g (i : Int)) i == 1) &&
  allFrom (fun j => decide (ibit (rd g (i : Int)) j = ibit (rd g (j : Int)) i)) g.length g.length 0
def chk (m : Nat) (g : List Int) : Bool := decide (1 ≤ g.length) && decide (g.length ≤ m) && allFrom (rowOk g) g.length g.length 0
structure Gr (m : Nat) (G : List Nat) : Prop where
 pos : 1 ≤ G.length
 most : G.length ≤ m
 lt : ∀ i, i < G.length → G.getD i 0 < 2 ^ G.length
 irr : ∀ i, i < G.length → (G.getD i 0).testBit i = false
 symm : ∀ i j, i < G.length → j < G.length → (G.getD i 0).testBit j = (G.getD j 0).testBit i
theorem chk_iff (m : Nat) (hm : m ≤ 13) (g : List Int) : chk m g = true ↔ ∃ G, g = gi G ∧ Gr m G := by
 have p62 : ∀ n : Nat, n ≤ 13 → 2 ^ n < 2 ^ 62 := fun n hn => Nat.pow_lt_pow_right (by omega) (by omega)
 constructor
 ·intro h
  simp only [chk, Bool.and_eq_true, decide_eq_true_eq, allFrom_iff] at h
  obtain ⟨⟨h1, h2⟩, h3⟩ := h
  have hn : g.length ≤ 13 := by omega
  have hrow : ∀ i, i < g.length → (0 ≤ rd g (i : Int) ∧ rd g (i : Int) < ((2 ^ g.length : Nat) : Int)) ∧ ibit (rd g (i : Int)) i ≠ 1 ∧ ∀ j, j < g.length → ibit (rd g (i : Int)) j = ibit (rd g (j : Int)) i := by
   intro i hi
   have := h3 i (by omega) (by omega)
   simp only [rowOk, Bool.and_eq_true, Bool.not_eq_true', decide_eq_false_iff_not, beq_eq_false_iff_ne, allFrom_iff, decide_eq_true_eq] at this
   obtain ⟨⟨⟨a, b⟩, c⟩, d⟩ := this
   rw [s_one _ (by omega)] at b
   exact ⟨⟨by omega, by omega⟩, c, fun j hj => d j (by omega) (by omega)⟩
  obtain ⟨G, rfl⟩ := gi_nonneg g (fun x hx => by
   obtain ⟨i, hi, rfl⟩ := List.getElem_of_mem hx
   have := (hrow i hi).1.1
   unfold rd at this
   rw [Int.toNat_natCast, List.getD_eq_getElem?_getD, List.getElem?_eq_getElem hi] at this
   exact this)
  simp only [gi_length, rd_gi] at hrow h1 h2 hn
  have hlt : ∀ i, i < G.length → G.getD i 0 < 2 ^ G.length := fun i hi => by have := (hrow i hi).1.2; omega
  refine ⟨G, rfl, h1, h2, hlt, fun i hi => ?_, fun i j hi hj => ?_⟩
  ·have := (hrow i hi).2.1
   rw [ibit_nat _ _ (Nat.lt_trans (hlt i hi) (p62 _ hn)) (by omega)] at this
   cases hb : (G.getD i 0).testBit i
   ·rfl
   ·rw [hb] at this; exact (this rfl).elim
  ·have := (hrow i hi).2.2 j hj
   rw [ibit_nat _ _ (Nat.lt_trans (hlt i hi) (p62 _ hn)) (by omega), ibit_nat _ _ (Nat.lt_trans (hlt j hj) (p62 _ hn)) (by omega)] at this
   cases ha : (G.getD i 0).testBit j <;> cases hb : (G.getD j 0).testBit i <;> rw [ha, hb] at this <;> simp_all
 ·rintro ⟨G, rfl, hG⟩
  have hn : G.length ≤ 13 := Nat.le_trans hG.most hm
  simp only [chk, Bool.and_eq_true, decide_eq_true_eq, allFrom_iff, gi_length]
  refine ⟨⟨hG.pos, hG.most⟩, fun i _ hi => ?_⟩
  have hi : i < G.length := by omega
  simp only [rowOk, Bool.and_eq_true, Bool.not_eq_true', decide_eq_false_iff_not, beq_eq_false_iff_ne, allFrom_iff, decide_eq_true_eq, rd_gi, gi_length]
  rw [s_one _ (by omega)]
  have hl := hG.lt i hi
  refine ⟨⟨⟨by omega, by omega⟩, ?_⟩, fun j _ hj => ?_⟩
  ·rw [ibit_nat _ _ (Nat.lt_trans hl (p62 _ hn)) (by omega), hG.irr i hi]; simp
  ·have hj : j < G.length := by omega
   rw [ibit_nat _ _ (Nat.lt_trans hl (p62 _ hn)) (by omega), ibit_nat _ _ (Nat.lt_trans (hG.lt j hj) (p62 _ hn)) (by omega), hG.symm i j hi hj]
def Adj (G : List Nat) (u w : Nat) : Prop := (G.getD u 0).testBit w = true
theorem getD_out (G : List Nat) (i : Nat) (h : G.length ≤ i) : G.getD i 0 = 0 := by
 rw [List.getD_eq_getElem?_getD, List.getElem?_eq_none h]; rfl
theorem Gr.row {m : Nat} {G : List Nat} (h : Gr m G) (i : Nat) : G.getD i 0 < 2 ^ G.length := by
 by_cases hi : i < G.length
 ·exact h.lt i hi
 ·rw [getD_out G i (by omega)]; exact Nat.two_pow_pos _
theorem Gr.adj_lt {m : Nat} {G : List Nat} (h : Gr m G) {u w : Nat} (a : Adj G u w) : w < G.length := by
 apply Classical.byContradiction
 intro hw
 unfold Adj at a
 rw [testBit_ge (h.row u) (by omega)] at a
 cases a
theorem Gr.adj_lt' {m : Nat} {G : List Nat} (h : Gr m G) {u w : Nat} (a : Adj G u w) : u < G.length := by
 apply Classical.byContradiction
 intro hu
 unfold Adj at a
 rw [getD_out G u (by omega)] at a
 simp at a
theorem Gr.adj_symm {m : Nat} {G : List Nat} (h : Gr m G) {u w : Nat} (a : Adj G u w) : Adj G w u := by
 have h1 := h.adj_lt a
 have h2 := h.adj_lt' a
 unfold Adj at *
 rw [← h.symm u w h2 h1]; exact a
theorem Gr.adj_irr {m : Nat} {G : List Nat} (h : Gr m G) {u : Nat} : ¬ Adj G u u := by
 intro a
 have h2 := h.adj_lt' a
 unfold Adj at a
 rw [h.irr u h2] at a
 cases a
def around (G : List Nat) (s : Nat) : Nat → Nat
 | 0 => 0
 | d + 1 => around G s d ||| (if s.testBit d then G.getD d 0 else 0)
theorem around_bit (G : List Nat) (s : Nat) : ∀ d j, (around G s d).testBit j = true ↔ ∃ i, i < d ∧ s.testBit i = true ∧ Adj G i j
 | 0, j => by simp [around]
 | d + 1, j => by
  simp only [around, Nat.testBit_or, Bool.or_eq_true, around_bit G s d]
  constructor
  ·rintro (⟨i, h1, h2⟩ | h)
   ·exact ⟨i, by omega, h2⟩
   ·by_cases hs : s.testBit d = true
    ·rw [if_pos hs] at h; exact ⟨d, by omega, hs, h⟩
    ·rw [if_neg hs] at h; simp at h
  ·rintro ⟨i, h1, h2, h3⟩
   by_cases e : i = d
   ·subst e; rw [if_pos h2]; exact .inr h3
   ·exact .inl ⟨i, by omega, h2, h3⟩
def Around (G : List Nat) (s : Nat) : Nat := around G s G.length
theorem Around_bit {m : Nat} {G : List Nat} (h : Gr m G) (s j : Nat) : (Around G s).testBit j = true ↔ ∃ i, s.testBit i = true ∧ Adj G i j := by
 unfold Around
 rw [around_bit]
 exact ⟨fun ⟨i, _, h2⟩ => ⟨i, h2⟩, fun ⟨i, h1, h2⟩ => ⟨i, h.adj_lt' h2, h1, h2⟩⟩
theorem lt_of_bits {x n : Nat} (h : ∀ j, x.testBit j = true → j < n) : x < 2 ^ n := by
 apply Nat.lt_pow_two_of_testBit
 intro i hi
 cases hb : x.testBit i
 ·rfl
 ·have := h i hb; omega
theorem bit_lt {x n j : Nat} (h : x < 2 ^ n) (hb : x.testBit j = true) : j < n := by
 apply Classical.byContradiction
 intro hj
 rw [testBit_ge h (by omega)] at hb
 cases hb
theorem Around_lt {m : Nat} {G : List Nat} (h : Gr m G) (s : Nat) : Around G s < 2 ^ G.length :=
 lt_of_bits fun j hj => by obtain ⟨i, _, h2⟩ := (Around_bit h s j).1 hj; exact h.adj_lt h2
theorem eq_of_bits {a b : Nat} (h : ∀ j, a.testBit j = true ↔ b.testBit j = true) : a = b := by
 apply Nat.eq_of_testBit_eq
 intro i
 have := h i
 cases ha : a.testBit i <;> cases hb : b.testBit i <;> simp_all
inductive Con (adj : Nat → Nat → Prop) (w : Nat → Prop) (s : Nat → Prop) : Nat → Prop
 | base {u : Nat} : s u → Con adj w s u
 | step {x u : Nat} : Con adj w s x → adj x u → w u → Con adj w s u
def bset (x : Nat) (i : Nat) : Prop := x.testBit i = true
end Go.Proofs.YtjloppfdagfpmaaDoor.T
end
section
/- Elimination orders of graphs, in plain Lean: a node less, an edge less, two neighbours made one. No program is in sight. -/
namespace Go.Proofs.YtjloppfdagfpmaaDoor.T
def AtMost (k : Nat) (P : Nat → Prop) : Prop := ∃ l : List Nat, l.length ≤ k ∧ ∀ u, P u → u ∈ l
theorem AtMost.mono {k k' : Nat} {P Q : Nat → Prop} (h : AtMost k P) (hk : k ≤ k') (hq : ∀ u, Q u → P u) : AtMost k' Q := by
 obtain ⟨l, hl, hp⟩ := h
 exact ⟨l, Nat.le_trans hl hk, fun u hu => hp u (hq u hu)⟩
theorem AtMost.map {k : Nat} {P Q : Nat → Prop} (f : Nat → Nat) (h : AtMost k P) (hq : ∀ u, Q u → ∃ x, P x ∧ f x = u) : AtMost k Q := by
 obtain ⟨l, hl, hp⟩ := h
 refine ⟨l.map f, by simpa using hl, fun u hu => ?_⟩
 obtain ⟨x, hx, rfl⟩ := hq u hu
 exact List.mem_map_of_mem (hp x hx)
theorem AtMost.succ {k : Nat} {P Q : Nat → Prop} (h : AtMost k P) (a : Nat) (hq : ∀ u, Q u → P u ∨ u = a) : AtMost (k + 1) Q := by
 obtain ⟨l, hl, hp⟩ := h
 refine ⟨a :: l, by simp; omega, fun u hu => ?_⟩
 rcases hq u hu with h | h
 ·exact List.mem_cons_of_mem _ (hp u h)
 ·subst h
  exact List.mem_cons_self
theorem AtMost.below {n : Nat} {P : Nat → Prop} (h : ∀ u, P u → u < n) : AtMost n P := ⟨List.range n, by simp, fun u hu => List.mem_range.2 (h u hu)⟩
inductive Way (adj : Nat → Nat → Prop) (S : Nat → Prop) (v : Nat) : Nat → Prop
 | one {u : Nat} : adj v u → Way adj S v u
 | more {x u : Nat} : Way adj S v x → S x → adj x u → Way adj S v u
def Nb (adj : Nat → Nat → Prop) (S : Nat → Prop) (v u : Nat) : Prop := Way adj S v u ∧ ¬ S u ∧ u ≠ v
inductive Elim (V : Nat → Prop) (adj : Nat → Nat → Prop) (k : Nat) : (Nat → Prop) → Prop
 | nil : Elim V adj k (fun _ => False)
 | snoc {S : Nat → Prop} (v : Nat) : Elim V adj k S → V v → ¬ S v → AtMost k (Nb adj S v) → Elim V adj k (fun u => S u ∨ u = v)
theorem Elim.ext {V : Nat → Prop} {adj : Nat → Nat → Prop} {k : Nat} {S S' : Nat → Prop} (h : Elim V adj k S) (e : ∀ u, S u ↔ S' u) : Elim V adj k S' := by
 have : S = S' := funext fun u => propext (e u)
 subst this
 exact h
theorem Elim.mono {V : Nat → Prop} {adj : Nat → Nat → Prop} {k k' : Nat} {S : Nat → Prop} (h : Elim V adj k S) (hk : k ≤ k') : Elim V adj k' S := by
 induction h with
 | nil => exact .nil
 | snoc v _ hv hs ha ih => exact .snoc v ih hv hs (ha.mono hk fun _ h => h)
theorem Elim.sub {V : Nat → Prop} {adj : Nat → Nat → Prop} {k : Nat} {S : Nat → Prop} (h : Elim V adj k S) : ∀ u, S u → V u := by
 induction h with
 | nil => intro u hu; exact hu.elim
 | snoc v _ hv _ _ ih =>
  intro u hu
  rcases hu with hu | hu
  ·exact ih u hu
  ·subst hu; exact hv
theorem Way.inside {adj : Nat → Nat → Prop} {S W : Nat → Prop} (hW : ∀ u w, adj u w → W w) {v u : Nat} (h : Way adj S v u) : W u := by
 cases h with
 | one h => exact hW _ _ h
 | more _ _ h => exact hW _ _ h
theorem Elim.more {V W : Nat → Prop} {adj adj' : Nat → Nat → Prop} {k : Nat} (a : Nat) (φ : Nat → Nat) (hinj : ∀ x y, φ x = φ y → x = y)
  (hV : ∀ u, V u ↔ u = a ∨ ∃ x, W x ∧ φ x = u) (ha : ∀ x, φ x ≠ a)
  (hin : ∀ u w, adj u w → V w) (hadj : ∀ u w, adj (φ u) (φ w) → adj' u w) {S : Nat → Prop} (h : Elim W adj' k S) :
  Elim V adj (k + 1) (fun u => ∃ x, S x ∧ φ x = u) := by
 induction h with
 | nil => exact Elim.nil.ext fun u => ⟨fun h => h.elim, fun ⟨_, h, _⟩ => h⟩
 | @snoc S v hS hv hs hm ih =>
  refine (Elim.snoc (φ v) ih ((hV _).2 (.inr ⟨v, hv, rfl⟩)) (fun ⟨x, hx, e⟩ => hs (hinj _ _ e ▸ hx)) ?_).ext ?_
  ·refine AtMost.succ (P := fun u => ∃ w, Nb adj' S v w ∧ φ w = u) (hm.map φ fun u ⟨w, hw, e⟩ => ⟨w, hw, e⟩) a ?_
   rintro u ⟨hu, hnu, hne⟩
   have key : ∀ y, Way adj (fun u => ∃ x, S x ∧ φ x = u) (φ v) y → ∀ x, φ x = y → Way adj' S v x := by
    intro y hy
    induction hy with
    | one h => rintro x rfl; exact .one (hadj _ _ h)
    | more _ hS h ih =>
     rintro x rfl
     obtain ⟨z, hz, rfl⟩ := hS
     exact .more (ih z rfl) hz (hadj _ _ h)
   rcases (hV u).1 (hu.inside hin) with e | ⟨x, hx, rfl⟩
   ·exact .inr e
   ·refine .inl ⟨x, ⟨key _ hu x rfl, fun h => hnu ⟨x, h, rfl⟩, fun e => hne (by rw [e])⟩, rfl⟩
  ·intro u
   constructor
   ·rintro (⟨x, hx, e⟩ | h)
    ·exact ⟨x, .inl hx, e⟩
    ·exact ⟨v, .inr rfl, h.symm⟩
   ·rintro ⟨x, hx | hx, e⟩
    ·exact .inl ⟨x, hx, e⟩
    ·subst hx; exact .inr e.symm
end Go.Proofs.YtjloppfdagfpmaaDoor.T
end
section
/- Sets of nodes as numbers: how many they have, what is connected with them, the neighbours of a node at its turn. -/
namespace Go.Proofs.YtjloppfdagfpmaaDoor.T
open Go.RowKit YtjloppfdagfpmaaDoorW.PrintWords YtjloppfdagfpmaaDoorW.PrintLast YtjloppfdagfpmaaDoorW.PrintMore
noncomputable def ofSet (P : Nat → Prop) : Nat → Nat
 | 0 => 0
 | d + 1 => ofSet P d ||| (@ite _ (P d) (Classical.propDecidable _) (2 ^ d) 0)
theorem ofSet_bit (P : Nat → Prop) : ∀ n j, bset (ofSet P n) j ↔ j < n ∧ P j
 | 0, j => by simp [ofSet, bset]
 | d + 1, j => by
  have ih := ofSet_bit P d j
  unfold bset at *
  simp only [ofSet, Nat.testBit_or, Bool.or_eq_true, ih]
  by_cases h : P d
  ·rw [if_pos h, Nat.testBit_two_pow, decide_eq_true_eq]
   constructor
   ·rintro (h1 | h1)
    ·exact ⟨by omega, h1.2⟩
    ·subst h1; exact ⟨by omega, h⟩
   ·rintro ⟨h1, h2⟩
    by_cases e : d = j
    ·exact .inr e
    ·exact .inl ⟨by omega, h2⟩
  ·rw [if_neg h]
   simp
   intro h1
   constructor
   ·intro _; omega
   ·intro _
    by_cases e : j = d
    ·subst e; exact (h h1).elim
    ·omega
theorem ofSet_lt (P : Nat → Prop) (n : Nat) : ofSet P n < 2 ^ n := lt_of_bits fun j hj => ((ofSet_bit P n j).1 hj).1
def pc (x : Nat) : Nat → Nat
 | 0 => 0
 | d + 1 => pc x d + (x.testBit d).toNat
theorem pc_le (x : Nat) : ∀ n, pc x n ≤ n
 | 0 => Nat.le_refl _
 | d + 1 => by have := pc_le x d; simp only [pc]; cases x.testBit d <;> simp <;> omega
theorem pc_mono {x y : Nat} : ∀ n, (∀ j, j < n → x.testBit j = true → y.testBit j = true) → pc x n ≤ pc y n
 | 0, _ => Nat.le_refl _
 | d + 1, h => by
  have ih := pc_mono d (fun j hj => h j (by omega))
  have := h d (by omega)
  simp only [pc]
  cases hx : x.testBit d <;> cases hy : y.testBit d <;> simp_all <;> omega
theorem pc_lt {x y : Nat} (i : Nat) : ∀ n, (∀ j, j < n → x.testBit j = true → y.testBit j = true) → i < n → x.testBit i = false → y.testBit i = true → pc x n < pc y n
 | 0, _, hi, _, _ => by omega
 | d + 1, h, hi, h1, h2 => by
  simp only [pc]
  by_cases e : i = d
  ·subst e
   have ih := pc_mono i (fun j hj => h j (by omega))
   rw [h1, h2]; simp; omega
  ·have ih := pc_lt i d (fun j hj => h j (by omega)) (by omega) h1 h2
   have := h d (by omega)
   cases hx : x.testBit d <;> cases hy : y.testBit d <;> simp_all <;> omega
def els (x : Nat) (n : Nat) : List Nat := (List.range n).filter fun i => x.testBit i
theorem els_length (x : Nat) : ∀ n, (els x n).length = pc x n
 | 0 => rfl
 | d + 1 => by
  have ih := els_length x d
  unfold els at *
  rw [List.range_succ, List.filter_append, List.length_append, ih]
  simp only [pc]
  cases h : x.testBit d <;> simp [h]
theorem mem_els {x n j : Nat} : j ∈ els x n ↔ j < n ∧ x.testBit j = true := by unfold els; simp
theorem els_nodup (x n : Nat) : (els x n).Nodup := List.Pairwise.filter _ List.nodup_range
theorem nodup_le {l m : List Nat} (h : l.Nodup) (hs : ∀ x ∈ l, x ∈ m) : l.length ≤ m.length := by
 induction l generalizing m with
 | nil => simp
 | cons a l ih =>
  obtain ⟨h1, h2⟩ := List.nodup_cons.1 h
  have ha := hs a List.mem_cons_self
  have := ih (m := m.erase a) h2 (fun x hx => by
   have hxa : x ≠ a := fun e => h1 (e ▸ hx)
   exact (List.mem_erase_of_ne hxa).2 (hs x (List.mem_cons_of_mem _ hx)))
  rw [List.length_erase_of_mem ha] at this
  have : 0 < m.length := List.length_pos_of_mem ha
  simp only [List.length_cons]
  omega
theorem Con.inside {adj : Nat → Nat → Prop} {w s : Nat → Prop} {u : Nat} (h : Con adj w s u) : s u ∨ w u := by
 cases h with
 | base h => exact .inl h
 | step _ _ h => exact .inr h
theorem Con.mono {adj : Nat → Nat → Prop} {w s w' s' : Nat → Prop} (hw : ∀ u, w u → w' u) (hs : ∀ u, s u → s' u) {u : Nat} (h : Con adj w s u) : Con adj w' s' u := by
 induction h with
 | base h => exact .base (hs _ h)
 | step _ a h ih => exact .step ih a (hw _ h)
theorem two_pow_bit (v j : Nat) : bset (2 ^ v) j ↔ j = v := by
 unfold bset; rw [Nat.testBit_two_pow, decide_eq_true_eq]; exact ⟨fun h => h.symm, fun h => h.symm⟩
theorem diff_bset (a b j : Nat) : bset (diff a b) j ↔ bset a j ∧ ¬ bset b j := by
 unfold bset; rw [diff_testBit]; cases a.testBit j <;> cases b.testBit j <;> simp
theorem or_bset (a b j : Nat) : bset (a ||| b) j ↔ bset a j ∨ bset b j := by unfold bset; simp
theorem and_bset (a b j : Nat) : bset (a &&& b) j ↔ bset a j ∧ bset b j := by unfold bset; simp
end Go.Proofs.YtjloppfdagfpmaaDoor.T
end
section
namespace Go.Proofs.YtjloppfdagfpmaaDoor.X
open Go.RowKit YtjloppfdagfpmaaDoorW.PrintWords YtjloppfdagfpmaaDoorW.PrintLast YtjloppfdagfpmaaDoorW.PrintMore
attribute [local go_sem] max2_int min2_int max_two min_two max_three min_three max_four min_four
/-! ### lampblackref01_IsGraph: function 61 -/
mutual
def lampblackref01_IsGraph.l0 : Nat → List Int → Int → List Int → Int → Int → Option (Bool)
 | 0, _, _, _, _, _ => none
 | k + 1, x0, x1, x8, x9, x10 => if x10 < x9 then (if 0 ≤ x10 then (if x10 < (x8.length : Int) then (if (x0.length : Int) > x1 then (lampblackref01_IsGraph.j1 k x0 x1 x10 (rd x8 x10) x8 x9 x10 true) else (if (rd x8 x10) < 0 then (lampblackref01_IsGraph.j1 k x0 x1 x10 (rd x8 x10) x8 x9 x10 true) else (if (rd x8 x10) ≥ (shl .i64 1 (x0.length : Int)) then (lampblackref01_IsGraph.j1 k x0 x1 x10 (rd x8 x10) x8 x9 x10 true) else (lampblackref01_IsGraph.j1 k x0 x1 x10 (rd x8 x10) x8 x9 x10 ((Go.bits .and .i64 (shr .i64 (rd x8 x10) x10) 1) == 1))))) else (none)) else (none)) else (if (x0.length : Int) ≥ 1 then (some (decide ((x0.length : Int) ≤ x1))) else (some false))
def lampblackref01_IsGraph.j1 : Nat → List Int → Int → Int → Int → List Int → Int → Int → Bool → Option (Bool)
 | 0, _, _, _, _, _, _, _, _ => none
 | k + 1, x0, x1, x5, x6, x8, x9, x10, x36 => if x36 = true then (some false) else (lampblackref01_IsGraph.l1 k x0 x1 x5 x6 x8 x9 x10 (x0.length : Int) 0)
def lampblackref01_IsGraph.l1 : Nat → List Int → Int → Int → Int → List Int → Int → Int → Int → Int → Option (Bool)
 | 0, _, _, _, _, _, _, _, _, _ => none
 | k + 1, x0, x1, x5, x6, x8, x9, x10, x38, x39 => if x39 < x38 then (if 0 ≤ x39 then (if x39 < (x0.length : Int) then (if 0 ≤ x5 then (if (Go.bits .and .i64 (shr .i64 x6 x39) 1) = (Go.bits .and .i64 (shr .i64 (rd x0 x39) x5) 1) then (lampblackref01_IsGraph.l1 k x0 x1 x5 x6 x8 x9 x10 x38 (wrap64 (x39 + 1))) else (some false)) else (none)) else (none)) else (none)) else (lampblackref01_IsGraph.l0 k x0 x1 x8 x9 (wrap64 (x10 + 1)))
end
end Go.Proofs.YtjloppfdagfpmaaDoor.X
end
section
namespace Go.Proofs.YtjloppfdagfpmaaDoor.X
open Go.RowKit YtjloppfdagfpmaaDoorW.PrintWords YtjloppfdagfpmaaDoorW.PrintLast YtjloppfdagfpmaaDoorW.PrintMore
attribute [local go_sem] max2_int min2_int max_two min_two max_three min_three max_four min_four
/-! ### lampblackref01_Reached: function 52 -/
mutual
def lampblackref01_Reached.l0 : Nat → List Int → Int → Int → Int → Int → Option (Int)
 | 0, _, _, _, _, _ => none
 | k + 1, x0, x1, x7, x12, x13 => if x13 < x12 then (lampblackref01_Reached.l1 k x0 x1 x7 x12 x13 (x0.length : Int) 0) else (some x7)
def lampblackref01_Reached.l1 : Nat → List Int → Int → Int → Int → Int → Int → Int → Option (Int)
 | 0, _, _, _, _, _, _, _ => none
 | k + 1, x0, x1, x7, x12, x13, x16, x17 => if x17 < x16 then (if 0 ≤ x17 then (if (Go.bits .and .i64 (shr .i64 x7 x17) 1) = 1 then (if x17 < (x0.length : Int) then (lampblackref01_Reached.l1 k x0 x1 (Go.bits .or .i64 x7 (Go.bits .and .i64 (rd x0 x17) x1)) x12 x13 x16 (wrap64 (x17 + 1))) else (none)) else (lampblackref01_Reached.l1 k x0 x1 x7 x12 x13 x16 (wrap64 (x17 + 1)))) else (none)) else (lampblackref01_Reached.l0 k x0 x1 x7 x12 (wrap64 (x13 + 1)))
end
def lampblackref01_Reached.f (k : Nat) (l0 : List Int) (a1 : Int) (a2 : Int) : Option (Int) := if 0 ≤ a2 then (lampblackref01_Reached.l0 k l0 a1 (shl .i64 1 a2) (l0.length : Int) 0) else (none)
end Go.Proofs.YtjloppfdagfpmaaDoor.X
end
section
/- The width of a graph: the least k with which all nodes can be eliminated; its step from a set to the set without a node. -/
namespace Go.Proofs.YtjloppfdagfpmaaDoor.T
open Go.RowKit YtjloppfdagfpmaaDoorW.PrintWords YtjloppfdagfpmaaDoorW.PrintLast YtjloppfdagfpmaaDoorW.PrintMore
theorem some_bit {S : Nat} (h : S ≠ 0) : ∃ v, bset S v := by
 apply Classical.byContradiction
 intro hn
 apply h
 apply Nat.eq_of_testBit_eq
 intro i
 have : ¬ bset S i := fun hi => hn ⟨i, hi⟩
 unfold bset at this
 simpa using this
theorem pc_more {x n : Nat} (hx : x < 2 ^ n) : ∀ d, pc x (n + d) = pc x n
 | 0 => rfl
 | d + 1 => by
  rw [← Nat.add_assoc]
  simp only [pc]
  rw [pc_more hx d, testBit_ge hx (by omega)]
  rfl
theorem pc_nine {x n : Nat} (hx : x < 2 ^ n) (hn : n ≤ 9) : pc x 9 = pc x n := by
 have := pc_more hx (9 - n)
 rwa [show n + (9 - n) = 9 by omega] at this
theorem all_bit (n u : Nat) : bset (2 ^ n - 1) u ↔ u < n := by
 unfold bset; rw [Nat.testBit_two_pow_sub_one, decide_eq_true_eq]
end Go.Proofs.YtjloppfdagfpmaaDoor.T
end
section
/- Parts that are connected: they are the same from each of their nodes. -/
namespace Go.Proofs.YtjloppfdagfpmaaDoor.T
open Go.RowKit YtjloppfdagfpmaaDoorW.PrintWords YtjloppfdagfpmaaDoorW.PrintLast YtjloppfdagfpmaaDoorW.PrintMore
theorem con_trans {adj : Nat → Nat → Prop} {w : Nat → Prop} {c d e : Nat} (hcd : Con adj w (fun x => x = c) d) (hde : Con adj w (fun x => x = d) e) : Con adj w (fun x => x = c) e := by
 induction hde with
 | base h => rw [h]; exact hcd
 | step _ a h ih => exact .step ih a h
theorem con_symm {m : Nat} {G : List Nat} (hG : Gr m G) {w : Nat → Prop} {a b : Nat} (ha : w a) (h : Con (Adj G) w (fun x => x = a) b) : Con (Adj G) w (fun x => x = b) a := by
 induction h with
 | base h => exact .base h.symm
 | @step y z hy adj hz ih =>
  have hwy : w y := by
   rcases hy.inside with h | h
   ·rw [h]; exact ha
   ·exact h
  exact con_trans (.step (.base rfl) (hG.adj_symm adj) hwy) ih
end Go.Proofs.YtjloppfdagfpmaaDoor.T
end
section
/- Minors by sets of nodes; a graph in which each node has three neighbours has K(4) as a minor. -/
namespace Go.Proofs.YtjloppfdagfpmaaDoor.T
open Go.RowKit YtjloppfdagfpmaaDoorW.PrintWords YtjloppfdagfpmaaDoorW.PrintLast YtjloppfdagfpmaaDoorW.PrintMore
def Conn (adj : Nat → Nat → Prop) (S : Nat → Prop) : Prop := (∃ s, S s) ∧ ∀ a b, S a → S b → Con adj S (fun x => x = a) b
def Mnr (V : Nat → Prop) (adj : Nat → Nat → Prop) (k : Nat) (pe : Nat → Nat → Prop) : Prop :=
 ∃ M : Nat → Nat → Prop, (∀ i, i < k → Conn adj (M i) ∧ ∀ x, M i x → V x) ∧ (∀ i j x, i < k → j < k → M i x → M j x → i = j) ∧ ∀ i j, i < k → j < k → pe i j → ∃ x y, M i x ∧ M j y ∧ adj x y
theorem conn_one (adj : Nat → Nat → Prop) (v : Nat) : Conn adj (fun x => x = v) := ⟨⟨v, rfl⟩, fun a b ha hb => .base (by rw [ha, hb])⟩
theorem mnr_map {V V' : Nat → Prop} {adj adj' : Nat → Nat → Prop} {k : Nat} {pe : Nat → Nat → Prop} (D : Nat → Nat → Prop) (hD : ∀ x, V' x → Conn adj (D x) ∧ ∀ u, D x u → V u)
  (hd : ∀ x y u, V' x → V' y → D x u → D y u → x = y) (he : ∀ x y, V' x → V' y → adj' x y → ∃ u w, D x u ∧ D y w ∧ adj u w) (h : Mnr V' adj' k pe) : Mnr V adj k pe := by
 obtain ⟨M, h1, h2, h3⟩ := h
 refine ⟨fun i u => ∃ x, M i x ∧ D x u, fun i hi => ⟨⟨?_, ?_⟩, ?_⟩, ?_, ?_⟩
 ·obtain ⟨s, hs⟩ := (h1 i hi).1.1
  obtain ⟨u, hu⟩ := (hD s ((h1 i hi).2 s hs)).1.1
  exact ⟨u, s, hs, hu⟩
 ·rintro a b ⟨x, hx, hxa⟩ ⟨y, hy, hyb⟩
  have hc := (h1 i hi).1.2 x y hx hy
  have key : ∀ y, Con adj' (M i) (fun z => z = x) y → ∀ b, D y b → Con adj (fun u => ∃ x, M i x ∧ D x u) (fun z => z = a) b := by
   intro y hc
   induction hc with
   | base h =>
    intro b hb
    subst h
    exact ((hD _ ((h1 i hi).2 _ hx)).1.2 a b hxa hb).mono (fun u hu => ⟨_, hx, hu⟩) fun u hu => hu
   | @step y z hy0 hadj hz ih =>
    intro b hb
    have hyM : M i y := by
     rcases hy0.inside with h | h
     ·rw [h]; exact hx
     ·exact h
    obtain ⟨u, w, hu, hw, huw⟩ := he y z ((h1 i hi).2 _ hyM) ((h1 i hi).2 _ hz) hadj
    have hw1 : Con adj (fun u => ∃ x, M i x ∧ D x u) (fun z => z = a) w := .step (ih u hu) huw ⟨z, hz, hw⟩
    exact con_trans hw1 (((hD _ ((h1 i hi).2 _ hz)).1.2 w b hw hb).mono (fun u hu => ⟨_, hz, hu⟩) fun u hu => hu)
  exact key y hc b hyb
 ·rintro u ⟨x, hx, hu⟩
  exact (hD x ((h1 i hi).2 x hx)).2 u hu
 ·rintro i j u hi hj ⟨x, hx, hxu⟩ ⟨y, hy, hyu⟩
  have := hd x y u ((h1 i hi).2 x hx) ((h1 j hj).2 y hy) hxu hyu
  subst this
  exact h2 i j x hi hj hx hy
 ·intro i j hi hj hp
  obtain ⟨x, y, hx, hy, hxy⟩ := h3 i j hi hj hp
  obtain ⟨u, w, hu, hw, huw⟩ := he x y ((h1 i hi).2 x hx) ((h1 j hj).2 y hy) hxy
  exact ⟨u, w, ⟨x, hx, hu⟩, ⟨y, hy, hw⟩, huw⟩
def Ctr (adj : Nat → Nat → Prop) (u v x y : Nat) : Prop := x ≠ y ∧ x ≠ v ∧ y ≠ v ∧ (adj x y ∨ (x = u ∧ adj v y) ∨ (y = u ∧ adj v x))
theorem ctr_mnr {V : Nat → Prop} {adj : Nat → Nat → Prop} {k : Nat} {pe : Nat → Nat → Prop} {u v : Nat} (hs : ∀ x y, adj x y → adj y x) (huv : adj u v) (hv : V v) (hne : u ≠ v)
  (h : Mnr (fun x => V x ∧ x ≠ v) (Ctr adj u v) k pe) : Mnr V adj k pe := by
 refine mnr_map (fun x w => w = x ∨ (x = u ∧ w = v)) (fun x hx => ⟨⟨⟨x, .inl rfl⟩, ?_⟩, ?_⟩) ?_ ?_ h
 ·rintro a b (rfl | ⟨rfl, rfl⟩) (hb | ⟨hb, hb'⟩)
  ·exact .base hb
  ·subst hb; subst hb'
   exact .step (.base rfl) huv (.inr ⟨rfl, rfl⟩)
  ·subst hb
   exact .step (.base rfl) (hs _ _ huv) (.inl rfl)
  ·exact .base hb'
 ·rintro w (rfl | ⟨_, rfl⟩)
  ·exact hx.1
  ·exact hv
 ·rintro x y w hx hy (rfl | ⟨rfl, rfl⟩) (h | ⟨h, h'⟩)
  ·exact h
  ·exact (hx.2 h').elim
  ·exact (hy.2 h.symm).elim
  ·exact h.symm
 ·rintro x y hx hy ⟨_, _, _, q | ⟨rfl, q⟩ | ⟨rfl, q⟩⟩
  ·exact ⟨x, y, .inl rfl, .inl rfl, q⟩
  ·exact ⟨v, y, .inr ⟨rfl, rfl⟩, .inl rfl, q⟩
  ·exact ⟨x, v, .inl rfl, .inr ⟨rfl, rfl⟩, hs _ _ q⟩
theorem AtMost.drop {k : Nat} {P Q : Nat → Prop} (c : Nat) (h : AtMost (k + 1) Q) (hc : Q c) (hq : ∀ u, P u → Q u ∧ u ≠ c) : AtMost k P := by
 obtain ⟨l, h1, h2⟩ := h
 refine ⟨l.erase c, ?_, fun u hu => (List.mem_erase_of_ne (hq u hu).2).2 (h2 u (hq u hu).1)⟩
 rw [List.length_erase_of_mem (h2 c hc)]
 omega
theorem not_atMost {k : Nat} {P : Nat → Prop} (h : ¬ AtMost k P) (l : List Nat) (hl : l.length ≤ k) : ∃ u, P u ∧ u ∉ l := by
 apply Classical.byContradiction
 intro hn
 exact h ⟨l, hl, fun u hu => Classical.byContradiction fun hc => hn ⟨u, hu, hc⟩⟩
theorem exact3 {P : Nat → Prop} (h : AtMost 3 P) (h' : ¬ AtMost 2 P) : ∃ a b c, a ≠ b ∧ a ≠ c ∧ b ≠ c ∧ ∀ y, P y ↔ y = a ∨ y = b ∨ y = c := by
 obtain ⟨a, ha, _⟩ := not_atMost h' [] (by simp)
 obtain ⟨b, hb, hb'⟩ := not_atMost h' [a] (by simp)
 obtain ⟨c, hc, hc'⟩ := not_atMost h' [a, b] (by simp)
 simp at hb' hc'
 refine ⟨a, b, c, fun e => hb' e.symm, fun e => hc'.1 e.symm, fun e => hc'.2 e.symm, fun y => ⟨fun hy => ?_, ?_⟩⟩
 ·obtain ⟨l, h1, h2⟩ := h
  apply Classical.byContradiction
  intro hn
  rw [not_or, not_or] at hn
  have := nodup_le (l := [y, a, b, c]) (m := l) (by simp; exact ⟨hn, ⟨fun e => hb' e.symm, fun e => hc'.1 e.symm⟩, fun e => hc'.2 e.symm⟩) (by
   intro z hz
   simp at hz
   rcases hz with rfl | rfl | rfl | rfl
   ·exact h2 _ hy
   ·exact h2 _ ha
   ·exact h2 _ hb
   ·exact h2 _ hc)
  simp at this
  omega
 ·rintro (rfl | rfl | rfl)
  ·exact ha
  ·exact hb
  ·exact hc
theorem tri {adj : Nat → Nat → Prop} (hs : ∀ x y, adj x y → adj y x) (hi : ∀ x, ¬ adj x x) {u v z : Nat} (huv : adj u v) (hu : ¬ AtMost 2 (adj u)) (hv : ¬ AtMost 2 (adj v)) (hz : ¬ AtMost 2 (adj z)) (hzv : z ≠ v) (h : AtMost 2 (Ctr adj u v z)) :
  ∃ w, adj u w ∧ adj v w ∧ (AtMost 3 (adj u) ∨ AtMost 3 (adj w)) := by
 have hne : u ≠ v := fun e => hi u (by rw [← e] at huv; exact huv)
 by_cases hzu : z = u
 ·subst hzu
  have h3 : AtMost 3 (adj z) := h.succ v fun y hy => by
   by_cases e : y = v
   ·exact .inr e
   ·exact .inl ⟨fun e' => hi z (e' ▸ hy), hzv, e, .inl hy⟩
  obtain ⟨l, hl, hm⟩ := h
  obtain ⟨c1, h1, h1'⟩ := not_atMost hu [v] (by simp)
  obtain ⟨c2, h2, h2'⟩ := not_atMost hu [v, c1] (by simp)
  obtain ⟨d, hd, hd'⟩ := not_atMost hv [z] (by simp)
  simp at h1' h2' hd'
  have m1 := hm c1 ⟨fun e => hi z (e ▸ h1), hzv, h1', .inl h1⟩
  have m2 := hm c2 ⟨fun e => hi z (e ▸ h2), hzv, h2'.1, .inl h2⟩
  have m3 := hm d ⟨fun e => hd' e.symm, hzv, fun e => hi v (e ▸ hd), .inr (.inl ⟨rfl, hd⟩)⟩
  have hdd : d = c1 ∨ d = c2 := by
   apply Classical.byContradiction
   intro hn
   rw [not_or] at hn
   have := nodup_le (l := [d, c1, c2]) (m := l) (by simp; exact ⟨hn, fun e => h2'.2 e.symm⟩) (by
    intro y hy
    simp at hy
    rcases hy with rfl | rfl | rfl
    ·exact m3
    ·exact m1
    ·exact m2)
   simp at this
   omega
  refine ⟨d, ?_, hd, .inl h3⟩
  rcases hdd with rfl | rfl
  ·exact h1
  ·exact h2
 ·by_cases azv : adj z v
  ·by_cases azu : adj z u
   ·refine ⟨z, hs _ _ azu, hs _ _ azv, .inr (h.succ v fun y hy => ?_)⟩
    by_cases e : y = v
    ·exact .inr e
    ·exact .inl ⟨fun e' => hi z (e' ▸ hy), hzv, e, .inl hy⟩
   ·have h1 : AtMost 1 (fun y => adj z y ∧ y ≠ v) := AtMost.drop u h ⟨hzu, hzv, hne, .inr (.inr ⟨rfl, hs _ _ azv⟩)⟩ fun y hy => ⟨⟨fun e' => hi z (e' ▸ hy.1), hzv, hy.2, .inl hy.1⟩, fun e => azu (e ▸ hy.1)⟩
    exact (hz (h1.succ v fun y hy => by
     by_cases e : y = v
     ·exact .inr e
     ·exact .inl ⟨hy, e⟩)).elim
  ·exact (hz (h.mono (Nat.le_refl _) fun y hy => ⟨fun e' => hi z (e' ▸ hy), hzv, fun e => azv (e ▸ hy), .inl hy⟩)).elim
structure Low (V : Nat → Prop) (adj : Nat → Nat → Prop) : Prop where
 symm : ∀ x y, adj x y → adj y x
 irr : ∀ x, ¬ adj x x
 ins : ∀ x y, adj x y → V x
 deg : ∀ x, V x → ¬ AtMost 2 (adj x)
 one : ∀ u v, adj u v → ∃ z, V z ∧ z ≠ v ∧ AtMost 2 (Ctr adj u v z)
 two : ∀ u v w, adj u v → w ≠ u → w ≠ v → (adj u w ∨ adj v w) → ∃ z, V z ∧ z ≠ v ∧ z ≠ w ∧ AtMost 2 (Ctr (Ctr adj u v) u w z)
theorem Low.tri {V : Nat → Prop} {adj : Nat → Nat → Prop} (h : Low V adj) {u v : Nat} (huv : adj u v) : ∃ w, adj u w ∧ adj v w ∧ (AtMost 3 (adj u) ∨ AtMost 3 (adj w)) := by
 obtain ⟨z, hz, hzv, hm⟩ := h.one u v huv
 exact T.tri h.symm h.irr huv (h.deg u (h.ins _ _ huv)) (h.deg v (h.ins _ _ (h.symm _ _ huv))) (h.deg z hz) hzv hm
theorem Low.path {V : Nat → Prop} {adj : Nat → Nat → Prop} (h : Low V adj) {x a b c : Nat} (hab : a ≠ b) (hac : a ≠ c) (hbc : b ≠ c) (hN : ∀ y, adj x y ↔ y = a ∨ y = b ∨ y = c) (eab : adj a b) (ebc : adj b c) (nac : ¬ adj a c) : False := by
 have exa : adj x a := (hN a).2 (.inl rfl)
 have exb : adj x b := (hN b).2 (.inr (.inl rfl))
 have exc : adj x c := (hN c).2 (.inr (.inr rfl))
 have ne : ∀ {p q}, adj p q → p ≠ q := fun {p q} hpq e => h.irr p (by rw [← e] at hpq; exact hpq)
 have sy := h.symm
 have nca : ¬ adj c a := fun e => nac (sy _ _ e)
 have hb3 : AtMost 3 (adj b) := by
  obtain ⟨z, hz, hzx, hm⟩ := h.one a x (sy _ _ exa)
  by_cases za : z = a
  ·subst za
   have h1 : AtMost 1 (fun y => adj z y ∧ y ≠ x) := AtMost.drop c hm ⟨hac, hzx, (ne exc).symm, .inr (.inl ⟨rfl, exc⟩)⟩ fun y hy => ⟨⟨ne hy.1, hzx, hy.2, .inl hy.1⟩, fun e => nac (e ▸ hy.1)⟩
   exact (h.deg z hz (h1.succ x fun y hy => by
    by_cases e : y = x
    ·exact .inr e
    ·exact .inl ⟨hy, e⟩)).elim
  ·by_cases zc : z = c
   ·subst zc
    have h1 : AtMost 1 (fun y => adj z y ∧ y ≠ x) := AtMost.drop a hm ⟨hac.symm, hzx, (ne exa).symm, .inr (.inr ⟨rfl, exc⟩)⟩ fun y hy => ⟨⟨ne hy.1, hzx, hy.2, .inl hy.1⟩, fun e => nca (e ▸ hy.1)⟩
    exact (h.deg z hz (h1.succ x fun y hy => by
     by_cases e : y = x
     ·exact .inr e
     ·exact .inl ⟨hy, e⟩)).elim
   ·by_cases zb : z = b
    ·subst zb
     exact hm.succ x fun y hy => by
      by_cases e : y = x
      ·exact .inr e
      ·exact .inl ⟨ne hy, hzx, e, .inl hy⟩
    ·have hxz : ¬ adj x z := fun e => by
      rcases (hN z).1 e with e | e | e
      ·exact za e
      ·exact zb e
      ·exact zc e
     exact (h.deg z hz (hm.mono (Nat.le_refl _) fun y hy => ⟨ne hy, hzx, fun e => hxz (sy _ _ (e ▸ hy)), .inl hy⟩)).elim
 have hbN : ∀ y, adj b y → y = a ∨ y = c ∨ y = x := by
  intro y hy
  obtain ⟨l, hl, hm⟩ := hb3
  apply Classical.byContradiction
  intro hn
  rw [not_or, not_or] at hn
  have := nodup_le (l := [y, a, c, x]) (m := l) (by simp; exact ⟨hn, ⟨hac, (ne exa).symm⟩, (ne exc).symm⟩) (by
   intro z hz
   simp at hz
   rcases hz with rfl | rfl | rfl | rfl
   ·exact hm _ hy
   ·exact hm _ (sy _ _ eab)
   ·exact hm _ ebc
   ·exact hm _ (sy _ _ exb))
  simp at this
  omega
 have end_ : ∀ p q, adj x p → adj b p → (∀ y, adj x y → y = p ∨ y = b ∨ y = q) → (∀ y, adj b y → y = p ∨ y = q ∨ y = x) → ¬ adj p q → p ≠ b → AtMost 3 (adj p) → False := by
  intro p q hxp hbp hx hb hpq hpb h3
  obtain ⟨d, hd, hd'⟩ := not_atMost (h.deg p (h.ins _ _ (sy _ _ hxp))) [x, b] (by simp)
  simp at hd'
  obtain ⟨l, hl, hm⟩ := h3
  have only : ∀ y, adj p y → y = x ∨ y = b ∨ y = d := by
   intro y hy
   apply Classical.byContradiction
   intro hn
   rw [not_or, not_or] at hn
   have := nodup_le (l := [y, x, b, d]) (m := l) (by simp; exact ⟨hn, ⟨ne exb, fun e => hd'.1 e.symm⟩, fun e => hd'.2 e.symm⟩) (by
    intro z hz
    simp at hz
    rcases hz with rfl | rfl | rfl | rfl
    ·exact hm _ hy
    ·exact hm _ (sy _ _ hxp)
    ·exact hm _ (sy _ _ hbp)
    ·exact hm _ hd)
   simp at this
   omega
  obtain ⟨w, hw1, hw2, _⟩ := h.tri hd
  rcases only w hw1 with rfl | rfl | rfl
  ·rcases hx d (sy _ _ hw2) with e | e | e
   ·exact ne hd e.symm
   ·exact hd'.2 e
   ·exact hpq (e ▸ hd)
  ·rcases hb d (sy _ _ hw2) with e | e | e
   ·exact ne hd e.symm
   ·exact hpq (e ▸ hd)
   ·exact hd'.1 e
  ·exact h.irr _ hw2
 have hx1 : ∀ y, adj x y → y = a ∨ y = b ∨ y = c := fun y hy => (hN y).1 hy
 have hx2 : ∀ y, adj x y → y = c ∨ y = b ∨ y = a := fun y hy => by
  rcases (hN y).1 hy with e | e | e
  ·exact .inr (.inr e)
  ·exact .inr (.inl e)
  ·exact .inl e
 have hb2 : ∀ y, adj b y → y = c ∨ y = a ∨ y = x := fun y hy => by
  rcases hbN y hy with e | e | e
  ·exact .inr (.inl e)
  ·exact .inl e
  ·exact .inr (.inr e)
 obtain ⟨z, hz, hzx, hzb, hm⟩ := h.two a x b (sy _ _ exa) hab.symm (ne exb).symm (.inl eab)
 have nxa := ne exa
 have nxb := ne exb
 have nxc := ne exc
 by_cases za : z = a
 ·subst za
  refine end_ z c exa (sy _ _ eab) hx1 hbN nac hab ?_
  have h1 : AtMost 1 (fun y => adj z y ∧ y ≠ x ∧ y ≠ b) := AtMost.drop c hm ⟨hac, hzb, hbc.symm, .inl ⟨hac, hzx, nxc.symm, .inr (.inl ⟨rfl, exc⟩)⟩⟩ fun y hy => ⟨⟨ne hy.1, hzb, hy.2.2, .inl ⟨ne hy.1, hzx, hy.2.1, .inl hy.1⟩⟩, fun e => nac (e ▸ hy.1)⟩
  have h2 : AtMost 2 (fun y => adj z y ∧ y ≠ x) := h1.succ b fun y hy => by
   by_cases e : y = b
   ·exact .inr e
   ·exact .inl ⟨hy.1, hy.2, e⟩
  exact h2.succ x fun y hy => by
   by_cases e : y = x
   ·exact .inr e
   ·exact .inl ⟨hy, e⟩
 ·by_cases zc : z = c
  ·subst zc
   refine end_ z a exc ebc hx2 hb2 nca hbc.symm ?_
   have h1 : AtMost 1 (fun y => adj z y ∧ y ≠ x ∧ y ≠ b) := AtMost.drop a hm ⟨hac.symm, hzb, hab, .inl ⟨hac.symm, hzx, nxa.symm, .inr (.inr ⟨rfl, exc⟩)⟩⟩ fun y hy => ⟨⟨ne hy.1, hzb, hy.2.2, .inl ⟨ne hy.1, hzx, hy.2.1, .inl hy.1⟩⟩, fun e => nca (e ▸ hy.1)⟩
   have h2 : AtMost 2 (fun y => adj z y ∧ y ≠ x) := h1.succ b fun y hy => by
    by_cases e : y = b
    ·exact .inr e
    ·exact .inl ⟨hy.1, hy.2, e⟩
   exact h2.succ x fun y hy => by
    by_cases e : y = x
    ·exact .inr e
    ·exact .inl ⟨hy, e⟩
  ·have hxz : ¬ adj x z := fun e => by
    rcases (hN z).1 e with e | e | e
    ·exact za e
    ·exact hzb e
    ·exact zc e
   have hbz : ¬ adj b z := fun e => by
    rcases hbN z e with e | e | e
    ·exact za e
    ·exact zc e
    ·exact hzx e
   exact h.deg z hz (hm.mono (Nat.le_refl _) fun y hy => ⟨ne hy, hzb, fun e => hbz (sy _ _ (e ▸ hy)), .inl ⟨ne hy, hzx, fun e => hxz (sy _ _ (e ▸ hy)), .inl hy⟩⟩)
theorem k4_of {V : Nat → Prop} {adj : Nat → Nat → Prop} (hs : ∀ x y, adj x y → adj y x) (hi : ∀ x, ¬ adj x x) (hV : ∀ x y, adj x y → V x) {x a b c : Nat} (h1 : adj x a) (h2 : adj x b) (h3 : adj x c) (h4 : adj a b) (h5 : adj a c) (h6 : adj b c) :
  Mnr V adj 4 (fun i j => i ≠ j) := by
 have ne : ∀ {p q}, adj p q → p ≠ q := fun {p q} hpq e => hi p (by rw [← e] at hpq; exact hpq)
 have key : ∀ i j, i < 4 → j < 4 → i ≠ j → adj ([x, a, b, c].getD i 0) ([x, a, b, c].getD j 0) := by
  intro i j hi4 hj4 hij
  match i, j, hi4, hj4 with
  | 0, 0, _, _ => exact (hij rfl).elim
  | 0, 1, _, _ => exact h1
  | 0, 2, _, _ => exact h2
  | 0, 3, _, _ => exact h3
  | 1, 0, _, _ => exact hs _ _ h1
  | 1, 1, _, _ => exact (hij rfl).elim
  | 1, 2, _, _ => exact h4
  | 1, 3, _, _ => exact h5
  | 2, 0, _, _ => exact hs _ _ h2
  | 2, 1, _, _ => exact hs _ _ h4
  | 2, 2, _, _ => exact (hij rfl).elim
  | 2, 3, _, _ => exact h6
  | 3, 0, _, _ => exact hs _ _ h3
  | 3, 1, _, _ => exact hs _ _ h5
  | 3, 2, _, _ => exact hs _ _ h6
  | 3, 3, _, _ => exact (hij rfl).elim
 refine ⟨fun i y => y = [x, a, b, c].getD i 0, fun i hi4 => ⟨conn_one adj _, ?_⟩, ?_, ?_⟩
 ·rintro y rfl
  by_cases e : i = 0
  ·exact hV _ _ (key i 1 hi4 (by omega) (by omega))
  ·exact hV _ _ (key i 0 hi4 (by omega) e)
 ·rintro i j y hi4 hj4 rfl hy
  apply Classical.byContradiction
  intro e
  exact ne (key i j hi4 hj4 e) hy
 ·intro i j hi4 hj4 hij
  exact ⟨_, _, rfl, rfl, key i j hi4 hj4 hij⟩
theorem Low.no {V : Nat → Prop} {adj : Nat → Nat → Prop} (h : Low V adj) (hk : ¬ Mnr V adj 4 (fun i j => i ≠ j)) (hV : ∃ v, V v) : False := by
 have sy := h.symm
 have ne : ∀ {p q}, adj p q → p ≠ q := fun {p q} hpq e => h.irr p (by rw [← e] at hpq; exact hpq)
 obtain ⟨u, hu⟩ := hV
 obtain ⟨v, huv, _⟩ := not_atMost (h.deg u hu) [] (by simp)
 obtain ⟨w, hw1, hw2, hx⟩ := h.tri huv
 have : ∃ x, V x ∧ AtMost 3 (adj x) := by
  rcases hx with hx | hx
  ·exact ⟨u, hu, hx⟩
  ·exact ⟨w, h.ins _ _ (sy _ _ hw1), hx⟩
 obtain ⟨x, hxV, hx3⟩ := this
 obtain ⟨a, b, c, hab, hac, hbc, hN⟩ := exact3 hx3 (h.deg x hxV)
 have exa : adj x a := (hN a).2 (.inl rfl)
 have exb : adj x b := (hN b).2 (.inr (.inl rfl))
 have exc : adj x c := (hN c).2 (.inr (.inr rfl))
 have ta : adj a b ∨ adj a c := by
  obtain ⟨w, h1, h2, _⟩ := h.tri exa
  rcases (hN w).1 h1 with rfl | rfl | rfl
  ·exact (h.irr _ h2).elim
  ·exact .inl h2
  ·exact .inr h2
 have tb : adj a b ∨ adj b c := by
  obtain ⟨w, h1, h2, _⟩ := h.tri exb
  rcases (hN w).1 h1 with rfl | rfl | rfl
  ·exact .inl (sy _ _ h2)
  ·exact (h.irr _ h2).elim
  ·exact .inr h2
 have tc : adj a c ∨ adj b c := by
  obtain ⟨w, h1, h2, _⟩ := h.tri exc
  rcases (hN w).1 h1 with rfl | rfl | rfl
  ·exact .inl (sy _ _ h2)
  ·exact .inr (sy _ _ h2)
  ·exact (h.irr _ h2).elim
 by_cases e1 : adj a b
 ·by_cases e2 : adj b c
  ·by_cases e3 : adj a c
   ·exact hk (k4_of sy h.irr h.ins exa exb exc e1 e3 e2)
   ·exact h.path hab hac hbc hN e1 e2 e3
  ·exact h.path (x := x) (a := b) (b := a) (c := c) hab.symm hbc hac (fun y => by rw [hN y]; constructor <;> (rintro (e | e | e) <;> simp [e])) (sy _ _ e1) (tc.resolve_right e2) e2
 ·exact h.path (x := x) (a := a) (b := c) (c := b) hac hab hbc.symm (fun y => by rw [hN y]; constructor <;> (rintro (e | e | e) <;> simp [e])) (ta.resolve_left e1) (sy _ _ (tb.resolve_left e1)) e1
theorem ctr_symm {adj : Nat → Nat → Prop} (hs : ∀ x y, adj x y → adj y x) {u v : Nat} : ∀ x y, Ctr adj u v x y → Ctr adj u v y x := by
 rintro x y ⟨h1, h2, h3, h | h | h⟩
 ·exact ⟨h1.symm, h3, h2, .inl (hs _ _ h)⟩
 ·exact ⟨h1.symm, h3, h2, .inr (.inr h)⟩
 ·exact ⟨h1.symm, h3, h2, .inr (.inl h)⟩
theorem deg3_k4 : ∀ (n : Nat) (V : List Nat) (adj : Nat → Nat → Prop), V.length = n → V ≠ [] → (∀ x y, adj x y → adj y x) → (∀ x, ¬ adj x x) → (∀ x y, adj x y → x ∈ V) → (∀ x, x ∈ V → ¬ AtMost 2 (adj x)) → Mnr (fun x => x ∈ V) adj 4 (fun i j => i ≠ j) := by
 intro n
 induction n using Nat.strongRecOn with
 | _ n ih =>
  intro V adj hl hne hs hi hV hd
  apply Classical.byContradiction
  intro hk
  have ne : ∀ {p q}, adj p q → p ≠ q := fun {p q} hpq e => hi p (by rw [← e] at hpq; exact hpq)
  have less : ∀ (W : List Nat) (v : Nat), v ∈ W → (W.filter (fun x => decide (x ≠ v))).length < W.length := fun W v hv => by
   apply List.length_filter_lt_length_iff_exists.2
   exact ⟨v, hv, by simp⟩
  refine Low.no (V := fun x => x ∈ V) ⟨hs, hi, hV, hd, ?_, ?_⟩ hk (List.exists_mem_of_ne_nil V hne)
  ·intro u v huv
   apply Classical.byContradiction
   intro hn
   apply hk
   have hv : v ∈ V := hV _ _ (hs _ _ huv)
   refine ctr_mnr hs huv hv (ne huv) ?_
   have e : (fun x => x ∈ V ∧ x ≠ v) = fun x => x ∈ V.filter (fun x => decide (x ≠ v)) := funext fun x => propext (by simp)
   rw [e]
   refine ih _ (by rw [← hl]; exact less V v hv) (V.filter fun x => decide (x ≠ v)) (Ctr adj u v) rfl (List.ne_nil_of_mem (a := u) (by simp; exact ⟨hV _ _ huv, ne huv⟩)) (ctr_symm hs) (fun x h => h.1 rfl) ?_ ?_
   ·rintro x y ⟨h1, h2, h3, h | h | h⟩ <;> simp
    ·exact ⟨hV _ _ h, h2⟩
    ·rw [h.1]; exact ⟨hV _ _ huv, ne huv⟩
    ·exact ⟨hV _ _ (hs _ _ h.2), h2⟩
   ·intro x hx h2
    simp at hx
    exact hn ⟨x, hx.1, hx.2, h2⟩
  ·intro u v w huv hwu hwv hw
   apply Classical.byContradiction
   intro hn
   apply hk
   have hv : v ∈ V := hV _ _ (hs _ _ huv)
   have hwV : w ∈ V := by
    rcases hw with hw | hw
    ·exact hV _ _ (hs _ _ hw)
    ·exact hV _ _ (hs _ _ hw)
   have hc : Ctr adj u v u w := ⟨hwu.symm, ne huv, hwv, hw.elim .inl fun h => .inr (.inl ⟨rfl, h⟩)⟩
   refine ctr_mnr hs huv hv (ne huv) (ctr_mnr (ctr_symm hs) hc ⟨hwV, hwv⟩ hwu.symm ?_)
   have e : (fun x => (x ∈ V ∧ x ≠ v) ∧ x ≠ w) = fun x => x ∈ (V.filter (fun x => decide (x ≠ v))).filter (fun x => decide (x ≠ w)) := funext fun x => propext ⟨fun h => List.mem_filter.2 ⟨List.mem_filter.2 ⟨h.1.1, decide_eq_true h.1.2⟩, decide_eq_true h.2⟩, fun h => ⟨⟨(List.mem_filter.1 (List.mem_filter.1 h).1).1, of_decide_eq_true (List.mem_filter.1 (List.mem_filter.1 h).1).2⟩, of_decide_eq_true (List.mem_filter.1 h).2⟩⟩
   rw [e]
   have l1 := less V v hv
   have l2 := less (V.filter fun x => decide (x ≠ v)) w (by simp; exact ⟨hwV, hwv⟩)
   refine ih _ (by omega) ((V.filter fun x => decide (x ≠ v)).filter fun x => decide (x ≠ w)) (Ctr (Ctr adj u v) u w) rfl (List.ne_nil_of_mem (a := u) (by simp [hV _ _ huv, ne huv, hwu.symm])) (ctr_symm (ctr_symm hs)) (fun x h => h.1 rfl) ?_ ?_
   ·have hu : u ∈ V := hV _ _ huv
    have c1 : ∀ x y, Ctr adj u v x y → x ∈ V := by
     rintro x y ⟨h1, h2, h3, h | h | h⟩
     ·exact hV _ _ h
     ·rw [h.1]; exact hu
     ·exact hV _ _ (hs _ _ h.2)
    rintro x y ⟨h1, h2, h3, h | h | h⟩
    ·exact List.mem_filter.2 ⟨List.mem_filter.2 ⟨c1 _ _ h, decide_eq_true h.2.1⟩, decide_eq_true h2⟩
    ·rw [h.1]; exact List.mem_filter.2 ⟨List.mem_filter.2 ⟨hu, decide_eq_true (ne huv)⟩, decide_eq_true hwu.symm⟩
    ·have h' := ctr_symm hs _ _ h.2
     exact List.mem_filter.2 ⟨List.mem_filter.2 ⟨c1 _ _ h', decide_eq_true h'.2.1⟩, decide_eq_true h2⟩
   ·intro x hx h2
    simp at hx
    exact hn ⟨x, by simp [hx], by simp [hx], by simp [hx], h2⟩
end Go.Proofs.YtjloppfdagfpmaaDoor.T
end
section
/- The search for a model of a pattern, in short; what it finds. -/
namespace Go.Proofs.YtjloppfdagfpmaaDoor.T
open Go.RowKit YtjloppfdagfpmaaDoorW.PrintWords YtjloppfdagfpmaaDoorW.PrintLast YtjloppfdagfpmaaDoorW.PrintMore
def clo (G : List Nat) (s : Nat) : Nat → Nat → Nat
 | 0, p => p
 | d + 1, p => clo G s d (p ||| (Around G p &&& s))
def lowb (s : Nat) : Nat := (els s 9).headD 9
def conB (G : List Nat) (s : Nat) : Bool := decide (s ≠ 0) && decide (clo G s 9 (2 ^ lowb s) = s)
def fitB (G P M : List Nat) (s k : Nat) : Bool := (els (P.getD k 0 &&& (2 ^ k - 1)) 9).all fun j => decide (M.getD j 0 &&& Around G s ≠ 0)
def okB (G P M : List Nat) (used left d s : Nat) : Bool := decide (s &&& used = 0) && decide (pc s 9 + d ≤ left) && !(decide (d = 0) && decide (pc s 9 ≠ left)) && fitB G P M s M.length
def growN (G P sets : List Nat) : Nat → List Nat → Nat → Nat → Option (List Nat)
 | 0, M, _, _ => some M
 | d + 1, M, used, left => sets.findSome? fun s => if okB G P M used left d s then growN G P sets d (M ++ [s]) (used ||| s) (left - pc s 9) else none
def setsN (G : List Nat) : List Nat := (List.range (2 ^ G.length)).filter (conB G)
def findN (G P : List Nat) : Option (List Nat) := (List.range' P.length (G.length + 1 - P.length)).findSome? fun size => growN G P (setsN G) P.length [] 0 size
/-! What the search finds. -/
def Gd (G P sets : List Nat) : List Nat → Nat → Nat → List Nat → Prop
 | _, _, _, [] => True
 | M, used, left, s :: Q => s ∈ sets ∧ okB G P M used left Q.length s = true ∧ Gd G P sets (M ++ [s]) (used ||| s) (left - pc s 9) Q
theorem growN_some (G P sets : List Nat) : ∀ (d : Nat) (M : List Nat) (used left : Nat) (R : List Nat), growN G P sets d M used left = some R → ∃ Q, Q.length = d ∧ R = M ++ Q ∧ Gd G P sets M used left Q
 | 0, M, used, left, R, h => by
  simp only [growN, Option.some.injEq] at h
  exact ⟨[], rfl, by rw [← h, List.append_nil], trivial⟩
 | d + 1, M, used, left, R, h => by
  simp only [growN] at h
  obtain ⟨s, hs, h⟩ := List.exists_of_findSome?_eq_some h
  split at h
  ·rename_i hok
   obtain ⟨Q, h1, h2, h3⟩ := growN_some G P sets d _ _ _ R h
   exact ⟨s :: Q, by rw [List.length_cons, h1], by rw [h2, List.append_assoc]; rfl, hs, by rw [h1]; exact hok, h3⟩
  ·cases h
theorem growN_none (G P sets : List Nat) : ∀ (d : Nat) (M : List Nat) (used left : Nat), growN G P sets d M used left = none → ∀ Q, Q.length = d → ¬ Gd G P sets M used left Q
 | 0, M, used, left, h, Q, hQ => by simp only [growN] at h; cases h
 | d + 1, M, used, left, h, Q, hQ => by
  simp only [growN] at h
  cases Q with
  | nil => cases hQ
  | cons s Q =>
   rintro ⟨hs, hok, hg⟩
   have hl : Q.length = d := by simpa using hQ
   have h1 := List.findSome?_eq_none_iff.1 h s hs
   rw [hl] at hok
   rw [if_pos hok] at h1
   exact growN_none G P sets d _ _ _ h1 Q hl hg
def total (M : List Nat) : Nat := (M.map fun s => pc s 9).sum
def Fits (G P : List Nat) : List Nat → Nat → List Nat → Prop
 | _, _, [] => True
 | M, used, s :: Q => s &&& used = 0 ∧ fitB G P M s M.length = true ∧ Fits G P (M ++ [s]) (used ||| s) Q
theorem gd_iff (G P sets : List Nat) : ∀ (Q M : List Nat) (used left : Nat), Q ≠ [] → (∀ s ∈ Q, 1 ≤ pc s 9) → (Gd G P sets M used left Q ↔ total Q = left ∧ (∀ s ∈ Q, s ∈ sets) ∧ Fits G P M used Q)
 | [], M, used, left, h, _ => (h rfl).elim
 | [s], M, used, left, _, hp => by
  simp only [Gd, total, Fits, List.map_cons, List.map_nil, List.sum_cons, List.sum_nil, List.mem_singleton, forall_eq, and_true, List.length_nil, okB, Bool.and_eq_true, decide_eq_true_eq, Bool.not_eq_true', Bool.and_eq_false_imp, decide_eq_false_iff_not]
  constructor
  ·rintro ⟨h1, ⟨⟨h2, h3⟩, h4⟩, h5⟩
   have := h4 trivial
   exact ⟨by omega, h1, h2, h5⟩
  ·rintro ⟨h1, h2, h3, h4⟩
   exact ⟨h2, ⟨⟨h3, by omega⟩, fun _ h => h (by omega)⟩, h4⟩
 | s :: q :: Q, M, used, left, _, hp => by
  have ih := gd_iff G P sets (q :: Q) (M ++ [s]) (used ||| s) (left - pc s 9) (by simp) (fun x hx => hp x (List.mem_cons_of_mem _ hx))
  have ht : ∀ L : List Nat, (∀ s ∈ L, 1 ≤ pc s 9) → L.length ≤ total L := by
   intro L
   induction L with
   | nil => intro _; exact Nat.zero_le _
   | cons a L ihL =>
    intro h
    have h1 := ihL fun x hx => h x (List.mem_cons_of_mem _ hx)
    have h2 := h a (List.mem_cons_self ..)
    simp only [total, List.map_cons, List.sum_cons, List.length_cons] at *
    omega
  have ht1 := ht (q :: Q) fun x hx => hp x (List.mem_cons_of_mem _ hx)
  have et : total (s :: q :: Q) = pc s 9 + total (q :: Q) := by simp [total]
  rw [Gd, ih, Fits, et]
  simp only [okB, Bool.and_eq_true, decide_eq_true_eq, Bool.not_eq_true', Bool.and_eq_false_imp, decide_eq_false_iff_not]
  constructor
  ·rintro ⟨h1, ⟨⟨⟨h2, h3⟩, h4⟩, h5⟩, h6, h7, h8⟩
   refine ⟨by omega, fun x hx => ?_, h2, h5, h8⟩
   rcases List.mem_cons.1 hx with rfl | hx
   ·exact h1
   ·exact h7 x hx
  ·rintro ⟨h1, h2, h3, h4, h5⟩
   exact ⟨h2 s (List.mem_cons_self ..), ⟨⟨⟨h3, by omega⟩, fun h => by simp at h⟩, h4⟩, by omega, fun x hx => h2 x (List.mem_cons_of_mem _ hx), h5⟩
def IsMod (G P M : List Nat) : Prop := M.length = P.length ∧ (∀ s ∈ M, s ∈ setsN G) ∧ Fits G P [] 0 M
theorem sets_pos {G : List Nat} (hn : G.length ≤ 9) {s : Nat} (h : s ∈ setsN G) : 1 ≤ pc s 9 := by
 unfold setsN at h
 rw [List.mem_filter, List.mem_range] at h
 unfold conB at h
 rw [Bool.and_eq_true, decide_eq_true_eq, decide_eq_true_eq] at h
 obtain ⟨v, hv⟩ := some_bit h.2.1
 have hl := bit_lt h.1 hv
 have := pc_lt (x := 0) (y := s) v 9 (fun j _ hj => by simp at hj) (by omega) (by simp) hv
 omega
theorem fits_total {G P : List Nat} (hn : G.length ≤ 9) : ∀ (Q M : List Nat) (used : Nat), used < 2 ^ G.length → (∀ s ∈ Q, s < 2 ^ G.length) → Fits G P M used Q → pc used 9 + total Q ≤ G.length
 | [], M, used, hu, _, _ => by
  have h1 := pc_nine hu hn
  have h2 := pc_le used G.length
  simp only [total, List.map_nil, List.sum_nil]
  omega
 | s :: Q, M, used, hu, hs, h => by
  have hsl := hs s (List.mem_cons_self ..)
  have ih := fits_total hn Q (M ++ [s]) (used ||| s) (or_lt hu hsl) (fun x hx => hs x (List.mem_cons_of_mem _ hx)) h.2.2
  have key : ∀ n, pc (used ||| s) n = pc used n + pc s n := by
   intro n
   induction n with
   | zero => rfl
   | succ n ihn =>
    simp only [pc, Nat.testBit_or]
    have hz : (s &&& used).testBit n = false := by rw [h.1]; simp
    rw [Nat.testBit_and] at hz
    cases h1 : used.testBit n <;> cases h2 : s.testBit n <;> simp_all <;> omega
  rw [key] at ih
  simp only [total, List.map_cons, List.sum_cons] at *
  omega
theorem total_len {G : List Nat} (hn : G.length ≤ 9) {L : List Nat} (h : ∀ s ∈ L, s ∈ setsN G) : L.length ≤ total L := by
 induction L with
 | nil => exact Nat.zero_le _
 | cons a L ih =>
  have h1 := ih fun x hx => h x (List.mem_cons_of_mem _ hx)
  have h2 := sets_pos hn (h a (List.mem_cons_self ..))
  simp only [total, List.map_cons, List.sum_cons, List.length_cons] at *
  omega
theorem find_some {G P R : List Nat} (hn : G.length ≤ 9) (hP : 1 ≤ P.length) (h : findN G P = some R) : IsMod G P R ∧ ∀ M, IsMod G P M → total R ≤ total M := by
 unfold findN at h
 rw [List.findSome?_eq_some_iff] at h
 obtain ⟨A, size, B, hl, hg, hno⟩ := h
 obtain ⟨Q, h1, h2, h3⟩ := growN_some _ _ _ _ _ _ _ _ hg
 have hQ : Q ≠ [] := fun e => by rw [e] at h1; simp at h1; omega
 rw [List.nil_append] at h2
 subst h2
 have hsets : ∀ s ∈ R, s ∈ setsN G := by
  have : ∀ (Q M : List Nat) (used left : Nat), Gd G P (setsN G) M used left Q → ∀ s ∈ Q, s ∈ setsN G := by
   intro Q
   induction Q with
   | nil => intro _ _ _ _ s hs; simp at hs
   | cons a Q ih =>
    intro M used left hg s hs
    rcases List.mem_cons.1 hs with rfl | hs
    ·exact hg.1
    ·exact ih _ _ _ hg.2.2 s hs
  exact this _ _ _ _ h3
 have hg2 := (gd_iff G P _ R _ _ _ hQ fun s hs => sets_pos hn (hsets s hs)).1 h3
 refine ⟨⟨h1, hsets, hg2.2.2⟩, fun M hM => ?_⟩
 apply Classical.byContradiction
 intro hlt
 have hM0 : M ≠ [] := fun e => by have := hM.1; rw [e] at this; simp at this; omega
 have hlen := total_len hn hM.2.1
 rw [hM.1] at hlen
 have hmem : total M ∈ A := by
  have hall : total M ∈ List.range' P.length (G.length + 1 - P.length) := by
   have := fits_total hn M [] 0 (Nat.two_pow_pos _) (fun s hs => by
    have := hM.2.1 s hs
    unfold setsN at this
    exact List.mem_range.1 (List.mem_filter.1 this).1) hM.2.2
   rw [List.mem_range'_1]
   omega
  rw [hl, List.mem_append, List.mem_cons] at hall
  rcases hall with h | h | h
  ·exact h
  ·omega
  ·have hs := List.pairwise_lt_range' (s := P.length) (n := G.length + 1 - P.length)
   rw [hl, List.pairwise_append] at hs
   have := (List.pairwise_cons.1 hs.2.1).1 _ h
   omega
 exact growN_none _ _ _ _ _ _ _ (hno _ hmem) M hM.1 ((gd_iff G P _ M _ _ _ hM0 fun s hs => sets_pos hn (hM.2.1 s hs)).2 ⟨rfl, hM.2.1, hM.2.2⟩)
theorem find_none {G P : List Nat} (hn : G.length ≤ 9) (hP : 1 ≤ P.length) (h : findN G P = none) (M : List Nat) : ¬ IsMod G P M := by
 intro hM
 unfold findN at h
 have hM0 : M ≠ [] := fun e => by have := hM.1; rw [e] at this; simp at this; omega
 have hlen := total_len hn hM.2.1
 rw [hM.1] at hlen
 have hall : total M ∈ List.range' P.length (G.length + 1 - P.length) := by
  have := fits_total hn M [] 0 (Nat.two_pow_pos _) (fun s hs => by
   have := hM.2.1 s hs
   unfold setsN at this
   exact List.mem_range.1 (List.mem_filter.1 this).1) hM.2.2
  rw [List.mem_range'_1]
  omega
 exact growN_none _ _ _ _ _ _ _ (List.findSome?_eq_none_iff.1 h _ hall) M hM.1 ((gd_iff G P _ M _ _ _ hM0 fun s hs => sets_pos hn (hM.2.1 s hs)).2 ⟨rfl, hM.2.1, hM.2.2⟩)
end Go.Proofs.YtjloppfdagfpmaaDoor.T
end
section
/- Models are minors by sets of nodes. -/
namespace Go.Proofs.YtjloppfdagfpmaaDoor.T
open Go.RowKit YtjloppfdagfpmaaDoorW.PrintWords YtjloppfdagfpmaaDoorW.PrintLast YtjloppfdagfpmaaDoorW.PrintMore
theorem clo_in {m : Nat} {G : List Nat} (hG : Gr m G) (s : Nat) : ∀ (d p j : Nat), bset (clo G s d p) j → Con (Adj G) (bset s) (bset p) j
 | 0, p, j, h => .base h
 | d + 1, p, j, h => by
  have key : ∀ y, Con (Adj G) (bset s) (bset (p ||| (Around G p &&& s))) y → Con (Adj G) (bset s) (bset p) y := by
   intro y hc
   induction hc with
   | base h =>
    rw [or_bset, and_bset] at h
    rcases h with h | ⟨h1, h2⟩
    ·exact .base h
    ·obtain ⟨i, h3, h4⟩ := (Around_bit hG p _).1 h1
     exact .step (.base h3) h4 h2
   | step _ a w ih => exact .step ih a w
  exact key j (clo_in hG s d _ j h)
theorem clo_fix {G : List Nat} {s p : Nat} (h : p ||| (Around G p &&& s) = p) : ∀ d, clo G s d p = p
 | 0 => rfl
 | d + 1 => by rw [clo, h]; exact clo_fix h d
theorem clo_sub (G : List Nat) (s : Nat) : ∀ (d p j : Nat), bset p j → bset (clo G s d p) j
 | 0, _, _, h => h
 | d + 1, p, j, h => clo_sub G s d _ j ((or_bset _ _ _).2 (.inl h))
theorem clo_closed {m : Nat} {G : List Nat} (hG : Gr m G) {s : Nat} : ∀ (d p : Nat), p < 2 ^ G.length → G.length ≤ pc p G.length + d → ∀ x u, bset (clo G s d p) x → Adj G x u → bset s u → bset (clo G s d p) u
 | 0, p, hp, h, x, u, hx, ha, hu => by
  have hul := hG.adj_lt ha
  apply Classical.byContradiction
  intro hc
  have hc' : ¬ bset p u := hc
  have := pc_lt (x := p) (y := 2 ^ G.length - 1) u G.length (fun j hj _ => (all_bit G.length j).2 hj) hul (by simpa [bset] using hc') ((all_bit _ _).2 hul)
  have h2 := pc_le (2 ^ G.length - 1) G.length
  omega
 | d + 1, p, hp, h, x, u, hx, ha, hu => by
  by_cases hf : p ||| (Around G p &&& s) = p
  ·rw [clo_fix hf] at hx ⊢
   rw [← hf, or_bset, and_bset]
   exact .inr ⟨(Around_bit hG p u).2 ⟨x, hx, ha⟩, hu⟩
  ·have hlt : p ||| (Around G p &&& s) < 2 ^ G.length := or_lt hp (Nat.lt_of_le_of_lt Nat.and_le_left (Around_lt hG p))
   have hnew : ∃ v, bset (p ||| (Around G p &&& s)) v ∧ ¬ bset p v := by
    apply Classical.byContradiction
    intro hn
    exact hf (eq_of_bits fun j => ⟨fun hj => Classical.byContradiction fun hc => hn ⟨j, hj, hc⟩, fun hj => (or_bset _ _ _).2 (.inl hj)⟩)
   obtain ⟨v, hv1, hv2⟩ := hnew
   have := pc_lt (x := p) (y := p ||| (Around G p &&& s)) v G.length (fun j _ hj => (or_bset _ _ _).2 (.inl hj)) (bit_lt hlt hv1) (by simpa [bset] using hv2) hv1
   exact clo_closed hG d _ hlt (by omega) x u hx ha hu
theorem lowb_bit {m : Nat} {G : List Nat} (hG : Gr m G) (hm : m ≤ 9) {s : Nat} (hs : s < 2 ^ G.length) (h0 : s ≠ 0) : bset s (lowb s) ∧ lowb s < G.length := by
 have hn := hG.most
 obtain ⟨v, hv⟩ := some_bit h0
 have hvl := bit_lt hs hv
 unfold lowb
 cases he : els s 9 with
 | nil =>
  have : v ∈ els s 9 := mem_els.2 ⟨by omega, hv⟩
  rw [he] at this
  simp at this
 | cons a L =>
  have : a ∈ els s 9 := by rw [he]; exact List.mem_cons_self ..
  have h1 := (mem_els.1 this).2
  exact ⟨h1, bit_lt hs h1⟩
theorem conB_iff {m : Nat} {G : List Nat} (hG : Gr m G) (hm : m ≤ 9) {s : Nat} (hs : s < 2 ^ G.length) : conB G s = true ↔ Conn (Adj G) (bset s) := by
 have hn := hG.most
 unfold conB
 rw [Bool.and_eq_true, decide_eq_true_eq, decide_eq_true_eq]
 constructor
 ·rintro ⟨h0, hc⟩
  obtain ⟨h1, h2⟩ := lowb_bit hG hm hs h0
  have e : bset (2 ^ lowb s) = fun x => x = lowb s := funext fun x => propext (two_pow_bit _ x)
  have key : ∀ j, bset s j → Con (Adj G) (bset s) (fun x => x = lowb s) j := fun j hj => by
   rw [← e]
   exact clo_in hG s 9 _ j (by rw [hc]; exact hj)
  exact ⟨⟨_, h1⟩, fun a b ha hb => con_trans (con_symm hG h1 (key a ha)) (key b hb)⟩
 ·rintro ⟨⟨v, hv⟩, hc⟩
  have h0 : s ≠ 0 := fun e => by rw [e] at hv; simp [bset] at hv
  obtain ⟨h1, h2⟩ := lowb_bit hG hm hs h0
  refine ⟨h0, eq_of_bits fun j => ⟨fun hj => ?_, fun hj => ?_⟩⟩
  ·rcases (clo_in hG s 9 _ j hj).inside with h | h
   ·rw [(two_pow_bit _ _).1 h]; exact h1
   ·exact h
  ·have hp : 2 ^ lowb s < 2 ^ G.length := Nat.pow_lt_pow_right (by omega) h2
   have hcl := clo_closed hG (s := s) 9 (2 ^ lowb s) hp (by omega)
   have := hc (lowb s) j h1 hj
   induction this with
   | base h => rw [h]; exact clo_sub G s 9 _ _ ((two_pow_bit _ _).2 rfl)
   | @step y z hy ha hz ih =>
    have hys : bset s y := by
     rcases hy.inside with h | h
     ·rw [h]; exact h1
     ·exact h
    exact hcl y z (ih hys) ha hz
theorem fit_iff {m m' : Nat} {G P : List Nat} (hG : Gr m G) (hP : Gr m' P) (hm : m' ≤ 9) (M : List Nat) (s k : Nat) (hk : k < P.length) : fitB G P M s k = true ↔ ∀ j, j < k → Adj P k j → ∃ x y, bset s x ∧ bset (M.getD j 0) y ∧ Adj G x y := by
 have hn := hP.most
 unfold fitB
 rw [List.all_eq_true]
 have hbit : ∀ j, j ∈ els (P.getD k 0 &&& (2 ^ k - 1)) 9 ↔ j < k ∧ Adj P k j := by
  intro j
  rw [mem_els, Nat.testBit_and, Bool.and_eq_true]
  constructor
  ·rintro ⟨_, h1, h2⟩
   exact ⟨(all_bit k j).1 h2, h1⟩
  ·rintro ⟨h1, h2⟩
   exact ⟨by omega, h2, (all_bit k j).2 h1⟩
 constructor
 ·intro h j hj ha
  have := h j ((hbit j).2 ⟨hj, ha⟩)
  rw [decide_eq_true_eq] at this
  obtain ⟨y, hy⟩ := some_bit this
  rw [and_bset] at hy
  obtain ⟨x, hx, hxy⟩ := (Around_bit hG s y).1 hy.2
  exact ⟨x, y, hx, hy.1, hxy⟩
 ·intro h j hj
  obtain ⟨h1, h2⟩ := (hbit j).1 hj
  obtain ⟨x, y, hx, hy, hxy⟩ := h j h1 h2
  rw [decide_eq_true_eq]
  intro h0
  have : bset (M.getD j 0 &&& Around G s) y := (and_bset _ _ _).2 ⟨hy, (Around_bit hG s y).2 ⟨x, hx, hxy⟩⟩
  rw [h0] at this
  simp [bset] at this
theorem getD_take {L : List Nat} {k j : Nat} (h : j < k) : (L.take k).getD j 0 = L.getD j 0 := by
 rw [List.getD_eq_getElem?_getD, List.getD_eq_getElem?_getD, List.getElem?_take, if_pos h]
theorem fits_iff {m m' : Nat} {G P : List Nat} (hG : Gr m G) (hP : Gr m' P) (hm : m' ≤ 9) (L : List Nat) (hL : L.length = P.length) : ∀ (d i used : Nat), i + d = L.length → (∀ x, bset used x ↔ ∃ e, e < i ∧ bset (L.getD e 0) x) →
  (Fits G P (L.take i) used (L.drop i) ↔ ∀ k, i ≤ k → k < L.length → (∀ j x, j < k → bset (L.getD j 0) x → ¬ bset (L.getD k 0) x) ∧ ∀ j, j < k → Adj P k j → ∃ x y, bset (L.getD k 0) x ∧ bset (L.getD j 0) y ∧ Adj G x y)
 | 0, i, used, hi, hu => by
  rw [List.drop_eq_nil_of_le (by omega)]
  simp only [Fits, true_iff]
  intro k h1 h2
  omega
 | d + 1, i, used, hi, hu => by
  have hil : i < L.length := by omega
  have hg : L.getD i 0 = L[i] := by rw [List.getD_eq_getElem?_getD, List.getElem?_eq_getElem hil]; rfl
  have ht : L.take i ++ [L[i]] = L.take (i + 1) := by rw [List.take_add_one, List.getElem?_eq_getElem hil]; rfl
  have ih := fits_iff hG hP hm L hL d (i + 1) (used ||| L[i]) (by omega) (fun x => by
   rw [or_bset, hu]
   constructor
   ·rintro (⟨e, h1, h2⟩ | h)
    ·exact ⟨e, by omega, h2⟩
    ·exact ⟨i, by omega, by rw [hg]; exact h⟩
   ·rintro ⟨e, h1, h2⟩
    by_cases he : e = i
    ·rw [he, hg] at h2; exact .inr h2
    ·exact .inl ⟨e, by omega, h2⟩)
  have hll : (L.take i).length = i := by rw [List.length_take]; omega
  rw [List.drop_eq_getElem_cons hil, Fits, ht, ih, hll, fit_iff hG hP hm _ _ _ (by omega)]
  have hz : L[i] &&& used = 0 ↔ ∀ j x, j < i → bset (L.getD j 0) x → ¬ bset (L.getD i 0) x := by
   constructor
   ·intro h j x hj hx hc
    have : bset (L[i] &&& used) x := (and_bset _ _ _).2 ⟨by rw [← hg]; exact hc, (hu x).2 ⟨j, hj, hx⟩⟩
    rw [h] at this
    simp [bset] at this
   ·intro h
    apply Classical.byContradiction
    intro h0
    obtain ⟨x, hx⟩ := some_bit h0
    rw [and_bset] at hx
    obtain ⟨e, he, hx2⟩ := (hu x).1 hx.2
    exact h e x he hx2 (by rw [hg]; exact hx.1)
  rw [hz]
  constructor
  ·rintro ⟨h1, h2, h3⟩ k hk hkl
   by_cases e : k = i
   ·subst e
    refine ⟨h1, fun j hj ha => ?_⟩
    obtain ⟨x, y, hx, hy, hxy⟩ := h2 j hj ha
    rw [getD_take hj] at hy
    exact ⟨x, y, by rw [hg]; exact hx, hy, hxy⟩
   ·exact h3 k (by omega) hkl
  ·intro h
   refine ⟨(h i (Nat.le_refl _) hil).1, fun j hj ha => ?_, fun k hk hkl => h k (by omega) hkl⟩
   obtain ⟨x, y, hx, hy, hxy⟩ := (h i (Nat.le_refl _) hil).2 j hj ha
   exact ⟨x, y, by rw [← hg]; exact hx, by rw [getD_take hj]; exact hy, hxy⟩
theorem mod_iff {m m' : Nat} {G P : List Nat} (hG : Gr m G) (hm : m ≤ 9) (hP : Gr m' P) (hm' : m' ≤ 9) : (∃ M, IsMod G P M) ↔ Mnr (fun x => x < G.length) (Adj G) P.length (Adj P) := by
 constructor
 ·rintro ⟨L, hl, hs, hf⟩
  have hf' := (fits_iff hG hP hm' L hl L.length 0 0 (by omega) (fun x => ⟨fun h => by simp [bset] at h, fun ⟨e, h, _⟩ => by omega⟩)).1 (by rw [List.take_zero, List.drop_zero]; exact hf)
  have hin : ∀ i, i < P.length → conB G (L.getD i 0) = true ∧ L.getD i 0 < 2 ^ G.length := fun i hi => by
   have : L.getD i 0 ∈ setsN G := by
    rw [List.getD_eq_getElem?_getD, List.getElem?_eq_getElem (by omega)]
    exact hs _ (List.getElem_mem _)
   unfold setsN at this
   rw [List.mem_filter, List.mem_range] at this
   exact ⟨this.2, this.1⟩
  refine ⟨fun i x => bset (L.getD i 0) x, fun i hi => ⟨(conB_iff hG hm (hin i hi).2).1 (hin i hi).1, fun x hx => bit_lt (hin i hi).2 hx⟩, ?_, ?_⟩
  ·intro i j x hi hj hx hy
   apply Classical.byContradiction
   intro hne
   by_cases h : i < j
   ·exact (hf' j (Nat.zero_le _) (by omega)).1 i x h hx hy
   ·exact (hf' i (Nat.zero_le _) (by omega)).1 j x (by omega) hy hx
  ·intro i j hi hj ha
   have hne : i ≠ j := fun e => hP.adj_irr (e ▸ ha)
   by_cases h : j < i
   ·exact (hf' i (Nat.zero_le _) (by omega)).2 j h ha
   ·obtain ⟨x, y, hx, hy, hxy⟩ := (hf' j (Nat.zero_le _) (by omega)).2 i (by omega) (hP.adj_symm ha)
    exact ⟨y, x, hy, hx, hG.adj_symm hxy⟩
 ·rintro ⟨M, h1, h2, h3⟩
  let L := (List.range P.length).map fun i => ofSet (M i) G.length
  have hl : L.length = P.length := by simp [L]
  have hg : ∀ i, i < P.length → L.getD i 0 = ofSet (M i) G.length := fun i hi => by
   rw [List.getD_eq_getElem?_getD, List.getElem?_map, List.getElem?_range hi]
   rfl
  have hb : ∀ i x, i < P.length → (bset (L.getD i 0) x ↔ M i x) := fun i x hi => by
   rw [hg i hi, ofSet_bit]
   exact ⟨fun h => h.2, fun h => ⟨(h1 i hi).2 x h, h⟩⟩
  refine ⟨L, hl, fun s hs => ?_, ?_⟩
  ·obtain ⟨i, hi, rfl⟩ := List.mem_map.1 hs
   have hi := List.mem_range.1 hi
   have e : bset (ofSet (M i) G.length) = M i := funext fun x => propext (by rw [← hg i hi]; exact hb i x hi)
   unfold setsN
   rw [List.mem_filter, List.mem_range]
   refine ⟨ofSet_lt _ _, (conB_iff hG hm (ofSet_lt _ _)).2 ?_⟩
   rw [e]
   exact (h1 i hi).1
  ·have := (fits_iff hG hP hm' L hl L.length 0 0 (by omega) (fun x => ⟨fun h => by simp [bset] at h, fun ⟨e, h, _⟩ => by omega⟩)).2 fun k _ hk => by
    refine ⟨fun j x hj hx hy => ?_, fun j hj ha => ?_⟩
    ·have := h2 j k x (by omega) (by omega) ((hb j x (by omega)).1 hx) ((hb k x (by omega)).1 hy)
     omega
    ·obtain ⟨x, y, hx, hy, hxy⟩ := h3 k j (by omega) (by omega) ha
     exact ⟨x, y, (hb k x (by omega)).2 hx, (hb j y (by omega)).2 hy, hxy⟩
   rw [List.take_zero, List.drop_zero] at this
   exact this
end Go.Proofs.YtjloppfdagfpmaaDoor.T
end
section
namespace Go.Proofs.YtjloppfdagfpmaaDoor.X
open Go.RowKit YtjloppfdagfpmaaDoorW.PrintWords YtjloppfdagfpmaaDoorW.PrintLast YtjloppfdagfpmaaDoorW.PrintMore
attribute [local go_sem] max2_int min2_int max_two min_two max_three min_three max_four min_four
/-! ### minor_town_all: function 66 -/
def minor_town_all.f (l0 : List Int) : Option (Int) := some (wrap64 ((shl .i64 1 (l0.length : Int)) - 1))
set_option maxHeartbeats 8000000 in
set_option maxRecDepth 100000 in
theorem minor_town_all.calls (A0 : Option Addr) (c0 : Nat) (l0 : List Int) (r : Int) (w : World) (hr0 : Kd.C (Kd.int .i64) w A0 l0.length l0) (hc0 : l0.length ≤ c0) (h : minor_town_all.f l0 = some r) :
  Calls Tryd.prog 66 #[.slice A0 l0.length c0] w fun e w' => e = .returned (.int .i64 r) ∧ Drawn0 w w' := by
 have HR0 := Aside0.mk hr0
 have HC0 := Aside0.mk hc0
 clear hr0 hc0
 have H : (some (wrap64 ((shl .i64 1 (l0.length : Int)) - 1))) = some r := h
 clear h
 obtain ⟨ji2, hji2⟩ : ∃ j_ : Int, (shl .i64 1 (l0.length : Int)) = j_ := ⟨_, rfl⟩
 replace H : (some (wrap64 ((ji2) - 1))) = some r := by first | (rw [hji2] at H; exact H) | (simp only [hji2] at H ⊢; exact H)
 have hji2_ : (IntKind.i64.wrap (1 * 2 ^ min (l0.length : Int).toNat 64)) = ji2 := hji2
 have hji2z : (l0.length : Int) ≤ 64 → (IntKind.i64.wrap (1 * 2 ^ (l0.length : Int).toNat)) = ji2 := shl_small hji2
 have hji2p : (IntKind.i64.wrap (1 * 2 ^ min l0.length 64)) = ji2 := hji2_
 have hji2q : (l0.length : Int) ≤ 64 → (IntKind.i64.wrap (1 * 2 ^ l0.length)) = ji2 := hji2z
 have hji2r : (IntKind.i64.wrap (2 ^ min l0.length 64)) = ji2 := by have h_ := hji2p; rw [Int.one_mul] at h_; exact h_
 have hji2s : (l0.length : Int) ≤ 64 → (IntKind.i64.wrap (2 ^ l0.length)) = ji2 := fun hle_ => by have h_ := hji2q hle_; rw [Int.one_mul] at h_; exact h_
 have hji2u : (IntKind.i64.wrap (2 ^ min (l0.length : Int).toNat 64)) = ji2 := by have h_ := hji2_; rw [Int.one_mul] at h_; exact h_
 have hji2v : (l0.length : Int) ≤ 64 → (IntKind.i64.wrap (2 ^ (l0.length : Int).toNat)) = ji2 := fun hle_ => by have h_ := hji2z hle_; rw [Int.one_mul] at h_; exact h_
 have hji2y : (wrap64 (1 * 2 ^ min (l0.length : Int).toNat 64)) = ji2 := (i64_w _).symm.trans hji2_
 have hji2x : (l0.length : Int) ≤ 64 → (wrap64 (1 * 2 ^ (l0.length : Int).toNat)) = ji2 := fun h_ => (i64_w _).symm.trans (hji2z h_)
 obtain rfl := Option.some.inj H
 go_enter Tryd.func66, Tryd.ntmps66
 go_wp2
 go_ret
 exact ⟨by first | rfl | (simp; done) | (simp only [← hji2] <;> (first | rfl | simp)) | (simp [*]; done), by repeat (first | exact Drawn0.refl _ | apply Drawn0.step)⟩
end Go.Proofs.YtjloppfdagfpmaaDoor.X
end
section
namespace Go.Proofs.YtjloppfdagfpmaaDoor.X
open Go.RowKit YtjloppfdagfpmaaDoorW.PrintWords YtjloppfdagfpmaaDoorW.PrintLast YtjloppfdagfpmaaDoorW.PrintMore
attribute [local go_sem] max2_int min2_int max_two min_two max_three min_three max_four min_four
/-! ### minor_nodes: function 69 -/
def minor_nodes.l0 : Nat → Int → List Int → Option (List Int)
 | 0, _, _ => none
 | k + 1, x0, x3 => if x0 = 0 then (some x3) else ((bits_TrailingZeros.f (IntKind.u64.wrap (x0))).bind fun t106 => (if x3.length < 17592186044416 then (minor_nodes.l0 k (Go.bits .and .i64 x0 (wrap64 (x0 - 1))) (x3 ++ [t106])) else (none)))
def minor_nodes.f (k : Nat) (a0 : Int) : Option (List Int) := minor_nodes.l0 k a0 ([] : List Int)
theorem minor_nodes.mono_l : ∀ k, (∀ y0 y1, LeO (minor_nodes.l0 k y0 y1) (minor_nodes.l0 (k + 1) y0 y1))
 | 0 => fun _ _ r h => by simp [minor_nodes.l0] at h
 | k + 1 => by
  have ih0 := minor_nodes.mono_l k
  ·intro y0 y1
   unfold minor_nodes.l0
   repeat' first
   | (with_reducible exact ih0 _ _)
   | (with_reducible exact LeO.refl _)
   | (with_reducible exact LeO.none _)
   | (with_reducible refine LeO.ite ?_ ?_)
   | (with_reducible refine LeO.bind ?_ (fun _ => ?_))
   | exact ih0 _ _
   | exact LeO.none _
   | refine LeO.ite ?_ ?_
   | refine LeO.bind ?_ (fun _ => ?_)
theorem minor_nodes.mono : ∀ a0 k, LeO (minor_nodes.f k a0) (minor_nodes.f (k + 1) a0) := by
 intro a0 k
 have ih0 := minor_nodes.mono_l k
 unfold minor_nodes.f
 repeat' first
   | (with_reducible exact ih0 _ _)
   | (with_reducible exact LeO.refl _)
   | (with_reducible exact LeO.none _)
   | (with_reducible refine LeO.ite ?_ ?_)
   | (with_reducible refine LeO.bind ?_ (fun _ => ?_))
   | exact ih0 _ _
   | exact LeO.none _
   | refine LeO.ite ?_ ?_
   | refine LeO.bind ?_ (fun _ => ?_)
set_option maxHeartbeats 8000000 in
set_option maxRecDepth 100000 in
theorem minor_nodes.calls (k : Nat) (a0 : Int) (r : List Int) (w : World) (hGL : GL w) (h : minor_nodes.f k a0 = some r) :
  Calls Tryd.prog 69 #[.int .i64 a0] w fun e w' => ∃ v0_ : Value, e = .returned (v0_) ∧ Kd.R (Kd.int .i64) 3 w' w.heap.size (fun _ => True) v0_ r ∧ Below w.heap.size w w' := by
 have HGL := Aside0.mk hGL
 clear hGL
 have HB := Aside0.mk (Below.refl w.heap.size w)
 have H : (minor_nodes.l0 k a0 ([] : List Int)) = some r := h
 clear h
 have H' := Aside0.mk H
 clear H
 go_enter Tryd.func69, Tryd.ntmps69
 go_wp2
 go_loopg [0, 3] k (fun kq v0 v3 w' => ∃ (x0_1 : Int) (x3_1 : List Int), v0 = .int .i64 x0_1 ∧ Aside0 (minor_nodes.l0 kq x0_1 x3_1 = some r) ∧ Aside0 (kq ≤ k) ∧ Aside0 (Kd.R (Kd.int .i64) 3 w' w.heap.size (fun _ => True) v3 x3_1) ∧ Aside0 (Below w.heap.size w w'))
 case atStart => exact ⟨(a0), (([] : List Int)), (by first | rfl | (simp; done) | (simp [*]; done)), H', ⟨Nat.le_refl _⟩, ⟨by first | exact Kd.R_nil _ _ _ _ _ | exact Kd.N_nil _ _ _ _ _ | exact Kd.V_nil _ _ _ _ _ | exact Kd.Q_nil _ _ _ _ _ | exact Kd.S_nil _ _ _ _ _⟩, ⟨by repeat (first | (with_reducible first | exact HB.out | apply below_alloc | apply pw_below_drewN | apply below_drew1) | exact HB.out)⟩⟩
 case round =>
  clear H'
  obtain ⟨x0_1, x3_1, rfl, HA, HK1, HO_3, HB⟩ := hrel
  cases gk with
  | zero => exact absurd HA.out (by simp [minor_nodes.l0])
  | succ k1 =>
   have H := HA.out
   clear HA
   simp only [minor_nodes.l0] at H
   by_cases c2 : x0_1 = 0
   ·rw [if_pos c2] at H
    have c2b0 : (x0_1 == 0) = true := beq_iff_eq.mpr c2
    have c2b1 : (x0_1 != 0) = false := bne_eq_false_iff_eq.mpr c2
    clear c2
    obtain rfl := Option.some.inj H
    go_wp2
    go_ret
    exact ⟨_, by first | rfl | (simp [errW_none, errW_some] <;> rfl) | (simp [*, errW_none, errW_some] <;> rfl), by (with_reducible repeat (first | apply Kd.R_alloc | apply Kd.R_drewN | apply Kd.R_drew)); exact HO_3.out, by repeat (first | (with_reducible first | exact HB.out | apply below_alloc | apply pw_below_drewN | apply below_drew1) | exact HB.out)⟩
   ·rw [if_neg c2] at H
    have c2b0 : (x0_1 == 0) = false := beq_eq_false_iff_ne.mpr c2
    have c2b1 : (x0_1 != 0) = true := bne_iff_ne.mpr c2
    replace H := Option.bind_eq_some_iff.mp H
    obtain ⟨t106, A30, H⟩ := H
    replace H : (if x3_1.length < 17592186044416 then (minor_nodes.l0 k1 (Go.bits .and .i64 x0_1 (wrap64 (x0_1 - 1))) (x3_1 ++ [t106])) else (none)) = some r := H
    have A3 := Aside0.mk A30
    clear A30
    by_cases c4 : x3_1.length < 17592186044416
    ·rw [if_pos c4] at H
     have LMc4 := Aside0.mk c4
     clear c4
     obtain ⟨y107, hy107⟩ : ∃ y_ : List Int, y_ = (x3_1 ++ [t106]) := ⟨_, rfl⟩
     replace H : (minor_nodes.l0 k1 (Go.bits .and .i64 x0_1 (wrap64 (x0_1 - 1))) y107) = some r := by first | (rw [hy107]; with_reducible exact H) | (have H2_ := (Option.bind_some _ _).symm.trans H; rw [hy107]; with_reducible exact H2_) | (have H2_ := (Option.bind_some _ _).symm.trans H; with_reducible exact H2_) | with_reducible exact H | (rw [hy107]; exact H) | exact H
     have Ny107 := Aside0.mk hy107
     clear hy107
     have H' := Aside0.mk H
     clear H
     go_wp2_with (first | ((with_reducible refine gate_callee (f := 94) rfl ?_); refine goesL_ (some 13) rfl rfl Tryd.func94 (by kernel_rfl) rfl #[.int .u64 (IntKind.u64.wrap (x0_1))] rfl (Qls) ?_; (with_reducible refine (bits_TrailingZeros.calls (hGL := (Qlg)) (IntKind.u64.wrap (x0_1)) t106 _ A3.out).mono ?_); rintro e w' ⟨rfl, ⟨nd, rfl⟩⟩; refine ⟨_, rfl, ?_⟩) | ((with_reducible refine gate_builtin (b := .append) (xs := #[.tmp 10, .tmp 14]) rfl ?_); at_builtin; refine Kd.R_append (Kd.int .i64) (w0 := w) w.heap.size rfl (.tmp 10) (.tmp 14) 22 3 (.int .i64 0) 8 rfl Tryd.underlying22 info3 rfl (by decide) (by omega) u3 x3_1 t106 [.int .i64 t106] (fun _ => True) (fun _ => False) rfl rfl ?aP (fun _ hk => hk.elim) ?aF ?aO ?aB ?aS ?aL ?_; (case aP => exact rfl); (case aB => exact (Qaw)); (case aF => exact (fun _ _ => trivial)); (case aO => exact (Qro HO_3.out)); (case aS => exact (below_size (Qaw))); (case aL => have := LMc4.out; omega); intro v108 w5 ho hb hg hat; rw [← Ny107.out] at ho; have n0_ := Aside0.mk (hb); have n1_ := Aside0.mk (ho); clear HB; clear HO_3; have HB := n0_; have HO109 := n1_; clear n0_ n1_; clear ho hb hg hat))
     go_roundg k1
     case measure => have := HK1.out; omega
     case rel => exact ⟨(Go.bits .and .i64 x0_1 (wrap64 (x0_1 - 1))), (y107), (by first | rfl | (simp; done) | (simp [*]; done)), H', ⟨by have := HK1.out; omega⟩, ⟨by (with_reducible repeat (first | apply Kd.R_alloc | apply Kd.R_drewN | apply Kd.R_drew)); exact HO109.out⟩, ⟨by repeat (first | (with_reducible first | exact HB.out | apply below_alloc | apply pw_below_drewN | apply below_drew1) | exact HB.out)⟩⟩
    ·rw [if_neg c4] at H
     exact absurd H (by simp)
end Go.Proofs.YtjloppfdagfpmaaDoor.X
end
section
namespace Go.Proofs.YtjloppfdagfpmaaDoor.X
open Go.RowKit YtjloppfdagfpmaaDoorW.PrintWords YtjloppfdagfpmaaDoorW.PrintLast YtjloppfdagfpmaaDoorW.PrintMore
attribute [local go_sem] max2_int min2_int max_two min_two max_three min_three max_four min_four
/-! ### minor_town_around: function 71 -/
def minor_town_around.l0 : Nat → List Int → Int → List Int → Int → Int → Option (Int)
 | 0, _, _, _, _, _ => none
 | k + 1, x0, x5, x9, x10, x11 => if x11 < x10 then (if 0 ≤ x11 then (if x11 < (x9.length : Int) then (if 0 ≤ (rd x9 x11) then (if (rd x9 x11) < (x0.length : Int) then (minor_town_around.l0 k x0 (Go.bits .or .i64 x5 (rd x0 (rd x9 x11))) x9 x10 (wrap64 (x11 + 1))) else (none)) else (none)) else (none)) else (none)) else (some x5)
def minor_town_around.f (k : Nat) (l0 : List Int) (a1 : Int) : Option (Int) := (minor_nodes.f k a1).bind fun t110 => (minor_town_around.l0 k l0 0 t110 (t110.length : Int) 0)
set_option maxHeartbeats 8000000 in
set_option maxRecDepth 100000 in
theorem minor_town_around.calls (k : Nat) (A0 : Option Addr) (c0 : Nat) (l0 : List Int) (a1 : Int) (r : Int) (w : World) (hGL : GL w) (hr0 : Kd.C (Kd.int .i64) w A0 l0.length l0) (hc0 : l0.length ≤ c0) (h : minor_town_around.f k l0 a1 = some r) :
  Calls Tryd.prog 71 #[.slice A0 l0.length c0, .int .i64 a1] w fun e w' => e = .returned (.int .i64 r) ∧ Below w.heap.size w w' := by
 have HGL := Aside0.mk hGL
 clear hGL
 have HR0 := Aside0.mk hr0
 have HC0 := Aside0.mk hc0
 clear hr0 hc0
 have HB := Aside0.mk (Below.refl w.heap.size w)
 have H : ((minor_nodes.f k a1).bind fun t110 => (minor_town_around.l0 k l0 0 t110 (t110.length : Int) 0)) = some r := h
 clear h
 replace H := Option.bind_eq_some_iff.mp H
 obtain ⟨t110, A30, H⟩ := H
 replace H : (minor_town_around.l0 k l0 0 t110 (t110.length : Int) 0) = some r := H
 have A3 := Aside0.mk A30
 clear A30
 have H' := Aside0.mk H
 clear H
 go_enter Tryd.func71, Tryd.ntmps71
 go_wp2_with (first | ((with_reducible refine gate_callee (f := 69) rfl ?_); refine goesL_ (some 9) rfl rfl Tryd.func69 (by kernel_rfl) rfl #[.int .i64 a1] rfl (Qls) ?_; (with_reducible refine (minor_nodes.calls (hGL := (Qlg)) k a1 t110 _ A3.out).mono ?_); rintro e w4 ⟨v111, rfl, ho0, hb⟩; refine ⟨_, rfl, ?_⟩; have n0_ := Aside0.mk (Kd.R_lower ho0 (below_size (Qaw))); have n1_ := Aside0.mk (below_step (Qaw) hb); clear HB; have HO112 := n0_; have HB := n1_; clear n0_ n1_; (try clear hb); (try clear hb2); (try clear hk); (try clear hi); (try clear ho0); obtain ⟨Ao5, co5, eo5⟩ := Kd.R_slice HO112.out; subst eo5))
 go_loopg [5, 11] k (fun kq v5 v11 w' => ∃ (x5_1 : Int) (x11_1 : Int), v5 = .int .i64 x5_1 ∧ v11 = .int .i64 x11_1 ∧ Aside0 (minor_town_around.l0 kq l0 x5_1 t110 (t110.length : Int) x11_1 = some r) ∧ Aside0 (kq ≤ k) ∧ Aside0 (Kd.R (Kd.int .i64) 3 w' w.heap.size (fun _ => True) (.slice Ao5 t110.length co5) t110) ∧ Aside0 (Below w.heap.size w w'))
 case atStart => exact ⟨(0), (0), (by first | rfl | (simp; done) | (simp [*]; done)), (by first | rfl | (simp; done) | (simp [*]; done)), H', ⟨Nat.le_refl _⟩, ⟨by (with_reducible repeat (first | apply Kd.R_alloc | apply Kd.R_drewN | apply Kd.R_drew)); exact HO112.out⟩, ⟨by repeat (first | (with_reducible first | exact HB.out | apply below_alloc | apply pw_below_drewN | apply below_drew1) | exact HB.out)⟩⟩
 case round =>
  clear H'
  try clear p2
  obtain ⟨x5_1, x11_1, rfl, rfl, HA, HK1, HO_9, HB⟩ := hrel
  cases gk with
  | zero => exact absurd HA.out (by simp [minor_town_around.l0])
  | succ k1 =>
   have H := HA.out
   clear HA
   simp only [minor_town_around.l0] at H
   by_cases c6 : x11_1 < (t110.length : Int)
   ·rw [if_pos c6] at H
    have c6b0 : decide (x11_1 < (t110.length : Int)) = true := decide_eq_true c6
    clear c6
    by_cases c7 : 0 ≤ x11_1
    ·rw [if_pos c7] at H
     have c7b0 : decide (0 ≤ x11_1) = true := decide_eq_true c7
     clear c7
     by_cases c8 : x11_1 < (t110.length : Int)
     ·rw [if_pos c8] at H
      have c8b0 : decide (x11_1 < (t110.length : Int)) = true := decide_eq_true c8
      clear c8
      by_cases c9 : 0 ≤ (rd t110 x11_1)
      ·rw [if_pos c9] at H
       have c9b0 : decide (0 ≤ (rd t110 x11_1)) = true := decide_eq_true c9
       clear c9
       by_cases c10 : (rd t110 x11_1) < (l0.length : Int)
       ·rw [if_pos c10] at H
        have c10b0 : decide ((rd t110 x11_1) < (l0.length : Int)) = true := decide_eq_true c10
        clear c10
        have H' := Aside0.mk H
        clear H
        have p113 : 0 ≤ (x11_1 : Int) := of_decide_eq_true (by first | (with_reducible assumption) | assumption)
        have q113 : x11_1 < (t110.length : Int) := of_decide_eq_true (by first | (with_reducible assumption) | assumption)
        obtain ⟨ad113, e113, hx113_0⟩ := Kd.at_int (Kd.R_reads' HO_9.out).2.2 x11_1 p113 q113
        cases e113
        replace p113 := eq_true p113
        replace q113 := eq_true q113
        have p114 : 0 ≤ ((rd t110 x11_1) : Int) := of_decide_eq_true (by first | (with_reducible assumption) | assumption)
        have q114 : (rd t110 x11_1) < (l0.length : Int) := of_decide_eq_true (by first | (with_reducible assumption) | assumption)
        obtain ⟨ad114, e114, hx114_0⟩ := Kd.at_int HR0.out (rd t110 x11_1) p114 q114
        cases e114
        replace hx114_0 := (HB.out.cell (World.block_lt_of_cell? w _ hx114_0)).trans hx114_0
        replace p114 := eq_true p114
        replace q114 := eq_true q114
        go_wp2
        go_roundg k1
        case measure => have := HK1.out; omega
        case rel => exact ⟨(Go.bits .or .i64 x5_1 (rd l0 (rd t110 x11_1))), (wrap64 (x11_1 + 1)), (by first | rfl | (simp; done) | (simp [*]; done)), (by first | rfl | (simp; done) | (simp [*]; done)), H', ⟨by have := HK1.out; omega⟩, ⟨by (with_reducible repeat (first | apply Kd.R_alloc | apply Kd.R_drewN | apply Kd.R_drew)); exact HO_9.out⟩, ⟨by repeat (first | (with_reducible first | exact HB.out | apply below_alloc | apply pw_below_drewN | apply below_drew1) | exact HB.out)⟩⟩
       ·rw [if_neg c10] at H
        exact absurd H (by simp)
      ·rw [if_neg c9] at H
       exact absurd H (by simp)
     ·rw [if_neg c8] at H
      exact absurd H (by simp)
    ·rw [if_neg c7] at H
     exact absurd H (by simp)
   ·rw [if_neg c6] at H
    have c6b0 : decide (x11_1 < (t110.length : Int)) = false := decide_eq_false c6
    clear c6
    obtain rfl := Option.some.inj H
    go_wp2
    go_ret
    exact ⟨by first | rfl | (simp [errW_none, errW_some] <;> rfl) | (simp [*, errW_none, errW_some] <;> rfl), by repeat (first | (with_reducible first | exact HB.out | apply below_alloc | apply pw_below_drewN | apply below_drew1) | exact HB.out)⟩
end Go.Proofs.YtjloppfdagfpmaaDoor.X
end
section
namespace Go.Proofs.YtjloppfdagfpmaaDoor.X
open Go.RowKit YtjloppfdagfpmaaDoorW.PrintWords YtjloppfdagfpmaaDoorW.PrintLast YtjloppfdagfpmaaDoorW.PrintMore
attribute [local go_sem] max2_int min2_int max_two min_two max_three min_three max_four min_four
/-! ### minor_town_connected: function 67 -/
def minor_town_connected.l0 : Nat → List Int → Int → Int → Option (Bool)
 | 0, _, _, _ => none
 | k + 1, x0, x1, x5 => (minor_town_around.f k x0 x5).bind fun t115 => (if (Go.bits .or .i64 x5 (Go.bits .and .i64 t115 x1)) = x5 then (some (x5 == x1)) else (minor_town_connected.l0 k x0 x1 (Go.bits .or .i64 x5 (Go.bits .and .i64 t115 x1))))
def minor_town_connected.f (k : Nat) (l0 : List Int) (a1 : Int) : Option (Bool) := if a1 = 0 then (some false) else (minor_town_connected.l0 k l0 a1 (Go.bits .and .i64 a1 (wrap64 (-a1))))
set_option maxHeartbeats 8000000 in
set_option maxRecDepth 100000 in
theorem minor_town_connected.calls (k : Nat) (A0 : Option Addr) (c0 : Nat) (l0 : List Int) (a1 : Int) (r : Bool) (w : World) (hGL : GL w) (hr0 : Kd.C (Kd.int .i64) w A0 l0.length l0) (hc0 : l0.length ≤ c0) (h : minor_town_connected.f k l0 a1 = some r) :
  Calls Tryd.prog 67 #[.slice A0 l0.length c0, .int .i64 a1] w fun e w' => e = .returned (.bool r) ∧ Below w.heap.size w w' := by
 have HGL := Aside0.mk hGL
 clear hGL
 have HR0 := Aside0.mk hr0
 have HC0 := Aside0.mk hc0
 clear hr0 hc0
 have HB := Aside0.mk (Below.refl w.heap.size w)
 have H : (if a1 = 0 then (some false) else (minor_town_connected.l0 k l0 a1 (Go.bits .and .i64 a1 (wrap64 (-a1))))) = some r := h
 clear h
 by_cases c3 : a1 = 0
 ·rw [if_pos c3] at H
  have c3b0 : (a1 == 0) = true := beq_iff_eq.mpr c3
  have c3b1 : (a1 != 0) = false := bne_eq_false_iff_eq.mpr c3
  clear c3
  obtain rfl := Option.some.inj H
  go_enter Tryd.func67, Tryd.ntmps67
  go_wp2
  go_ret
  exact ⟨by first | rfl | (simp [errW_none, errW_some] <;> rfl) | (simp [*, errW_none, errW_some] <;> rfl), by repeat (first | (with_reducible first | exact HB.out | apply below_alloc | apply pw_below_drewN | apply below_drew1) | exact HB.out)⟩
 ·rw [if_neg c3] at H
  have c3b0 : (a1 == 0) = false := beq_eq_false_iff_ne.mpr c3
  have c3b1 : (a1 != 0) = true := bne_iff_ne.mpr c3
  have H' := Aside0.mk H
  clear H
  go_enter Tryd.func67, Tryd.ntmps67
  go_wp2
  go_loopg [5] k (fun kq v5 w' => ∃ (x5_1 : Int), v5 = .int .i64 x5_1 ∧ Aside0 (minor_town_connected.l0 kq l0 a1 x5_1 = some r) ∧ Aside0 (kq ≤ k) ∧ Aside0 (Below w.heap.size w w'))
  case atStart => exact ⟨(Go.bits .and .i64 a1 (wrap64 (-a1))), (by first | rfl | (simp; done) | (simp [*]; done)), H', ⟨Nat.le_refl _⟩, ⟨by repeat (first | (with_reducible first | exact HB.out | apply below_alloc | apply pw_below_drewN | apply below_drew1) | exact HB.out)⟩⟩
  case round =>
   clear H'
   try clear p2
   try clear c3
   try clear c3b0
   try clear c3b1
   obtain ⟨x5_1, rfl, HA, HK1, HB⟩ := hrel
   cases gk with
   | zero => exact absurd HA.out (by simp [minor_town_connected.l0])
   | succ k1 =>
    have H := HA.out
    clear HA
    simp only [minor_town_connected.l0] at H
    replace H := Option.bind_eq_some_iff.mp H
    obtain ⟨t115, A40, H⟩ := H
    replace H : (if (Go.bits .or .i64 x5_1 (Go.bits .and .i64 t115 a1)) = x5_1 then (some (x5_1 == a1)) else (minor_town_connected.l0 k1 l0 a1 (Go.bits .or .i64 x5_1 (Go.bits .and .i64 t115 a1)))) = some r := H
    have A4 := Aside0.mk A40
    clear A40
    by_cases c5 : (Go.bits .or .i64 x5_1 (Go.bits .and .i64 t115 a1)) = x5_1
    ·rw [if_pos c5] at H
     have c5b0 : ((Go.bits .or .i64 x5_1 (Go.bits .and .i64 t115 a1)) == x5_1) = true := beq_iff_eq.mpr c5
     have c5b1 : ((Go.bits .or .i64 x5_1 (Go.bits .and .i64 t115 a1)) != x5_1) = false := bne_eq_false_iff_eq.mpr c5
     clear c5
     obtain rfl := Option.some.inj H
     go_wp2_with (first | ((with_reducible refine gate_callee (f := 71) rfl ?_); refine goesL_ (some 18) rfl rfl Tryd.func71 (by kernel_rfl) rfl #[.slice A0 l0.length c0, .int .i64 x5_1] rfl (Qls) ?_; (with_reducible refine (minor_town_around.calls (hGL := (Qlg)) k1 _ _ l0 x5_1 t115 _ ?side1 ?side2 A4.out).mono ?_); (case side1 => exact Qsc (Kd.C_below HR0.out HB.out)); (case side2 => exact HC0.out); rintro e w6 ⟨rfl, hb⟩; refine ⟨_, rfl, ?_⟩; have n0_ := Aside0.mk (below_step (Qaw) hb); clear HB; have HB := n0_; clear n0_; (try clear hb); (try clear hb2); (try clear hk); (try clear hi)))
     go_ret
     exact ⟨by first | rfl | (simp [errW_none, errW_some] <;> rfl) | (simp [*, errW_none, errW_some] <;> rfl), by repeat (first | (with_reducible first | exact HB.out | apply below_alloc | apply pw_below_drewN | apply below_drew1) | exact HB.out)⟩
    ·rw [if_neg c5] at H
     have c5b0 : ((Go.bits .or .i64 x5_1 (Go.bits .and .i64 t115 a1)) == x5_1) = false := beq_eq_false_iff_ne.mpr c5
     have c5b1 : ((Go.bits .or .i64 x5_1 (Go.bits .and .i64 t115 a1)) != x5_1) = true := bne_iff_ne.mpr c5
     have H' := Aside0.mk H
     clear H
     go_wp2_with (first | ((with_reducible refine gate_callee (f := 71) rfl ?_); refine goesL_ (some 18) rfl rfl Tryd.func71 (by kernel_rfl) rfl #[.slice A0 l0.length c0, .int .i64 x5_1] rfl (Qls) ?_; (with_reducible refine (minor_town_around.calls (hGL := (Qlg)) k1 _ _ l0 x5_1 t115 _ ?side1 ?side2 A4.out).mono ?_); (case side1 => exact Qsc (Kd.C_below HR0.out HB.out)); (case side2 => exact HC0.out); rintro e w7 ⟨rfl, hb⟩; refine ⟨_, rfl, ?_⟩; have n0_ := Aside0.mk (below_step (Qaw) hb); clear HB; have HB := n0_; clear n0_; (try clear hb); (try clear hb2); (try clear hk); (try clear hi)))
     go_roundg k1
     case measure => have := HK1.out; omega
     case rel => exact ⟨(Go.bits .or .i64 x5_1 (Go.bits .and .i64 t115 a1)), (by first | rfl | (simp; done) | (simp [*]; done)), H', ⟨by have := HK1.out; omega⟩, ⟨by repeat (first | (with_reducible first | exact HB.out | apply below_alloc | apply pw_below_drewN | apply below_drew1) | exact HB.out)⟩⟩
end Go.Proofs.YtjloppfdagfpmaaDoor.X
end
section
namespace Go.Proofs.YtjloppfdagfpmaaDoor.X
open Go.RowKit YtjloppfdagfpmaaDoorW.PrintWords YtjloppfdagfpmaaDoorW.PrintLast YtjloppfdagfpmaaDoorW.PrintMore
attribute [local go_sem] max2_int min2_int max_two min_two max_three min_three max_four min_four
/-! ### bits_OnesCount64: function 122 -/
def bits_OnesCount64.f (a0 : Int) : Option (Int) := some (Go.bits .and .i64 (wrap64 (IntKind.u64.wrap ((IntKind.u64.wrap ((IntKind.u64.wrap ((Go.bits .and .u64 (IntKind.u64.wrap (((IntKind.u64.wrap ((Go.bits .and .u64 ((IntKind.u64.wrap ((Go.bits .and .u64 (a0 / 2) 6148914691236517205) + (Go.bits .and .u64 a0 6148914691236517205))) / 4) 3689348814741910323) + (Go.bits .and .u64 (IntKind.u64.wrap ((Go.bits .and .u64 (a0 / 2) 6148914691236517205) + (Go.bits .and .u64 a0 6148914691236517205))) 3689348814741910323))) / 16) + (IntKind.u64.wrap ((Go.bits .and .u64 ((IntKind.u64.wrap ((Go.bits .and .u64 (a0 / 2) 6148914691236517205) + (Go.bits .and .u64 a0 6148914691236517205))) / 4) 3689348814741910323) + (Go.bits .and .u64 (IntKind.u64.wrap ((Go.bits .and .u64 (a0 / 2) 6148914691236517205) + (Go.bits .and .u64 a0 6148914691236517205))) 3689348814741910323))))) 1085102592571150095) + ((Go.bits .and .u64 (IntKind.u64.wrap (((IntKind.u64.wrap ((Go.bits .and .u64 ((IntKind.u64.wrap ((Go.bits .and .u64 (a0 / 2) 6148914691236517205) + (Go.bits .and .u64 a0 6148914691236517205))) / 4) 3689348814741910323) + (Go.bits .and .u64 (IntKind.u64.wrap ((Go.bits .and .u64 (a0 / 2) 6148914691236517205) + (Go.bits .and .u64 a0 6148914691236517205))) 3689348814741910323))) / 16) + (IntKind.u64.wrap ((Go.bits .and .u64 ((IntKind.u64.wrap ((Go.bits .and .u64 (a0 / 2) 6148914691236517205) + (Go.bits .and .u64 a0 6148914691236517205))) / 4) 3689348814741910323) + (Go.bits .and .u64 (IntKind.u64.wrap ((Go.bits .and .u64 (a0 / 2) 6148914691236517205) + (Go.bits .and .u64 a0 6148914691236517205))) 3689348814741910323))))) 1085102592571150095) / 256))) + ((IntKind.u64.wrap ((Go.bits .and .u64 (IntKind.u64.wrap (((IntKind.u64.wrap ((Go.bits .and .u64 ((IntKind.u64.wrap ((Go.bits .and .u64 (a0 / 2) 6148914691236517205) + (Go.bits .and .u64 a0 6148914691236517205))) / 4) 3689348814741910323) + (Go.bits .and .u64 (IntKind.u64.wrap ((Go.bits .and .u64 (a0 / 2) 6148914691236517205) + (Go.bits .and .u64 a0 6148914691236517205))) 3689348814741910323))) / 16) + (IntKind.u64.wrap ((Go.bits .and .u64 ((IntKind.u64.wrap ((Go.bits .and .u64 (a0 / 2) 6148914691236517205) + (Go.bits .and .u64 a0 6148914691236517205))) / 4) 3689348814741910323) + (Go.bits .and .u64 (IntKind.u64.wrap ((Go.bits .and .u64 (a0 / 2) 6148914691236517205) + (Go.bits .and .u64 a0 6148914691236517205))) 3689348814741910323))))) 1085102592571150095) + ((Go.bits .and .u64 (IntKind.u64.wrap (((IntKind.u64.wrap ((Go.bits .and .u64 ((IntKind.u64.wrap ((Go.bits .and .u64 (a0 / 2) 6148914691236517205) + (Go.bits .and .u64 a0 6148914691236517205))) / 4) 3689348814741910323) + (Go.bits .and .u64 (IntKind.u64.wrap ((Go.bits .and .u64 (a0 / 2) 6148914691236517205) + (Go.bits .and .u64 a0 6148914691236517205))) 3689348814741910323))) / 16) + (IntKind.u64.wrap ((Go.bits .and .u64 ((IntKind.u64.wrap ((Go.bits .and .u64 (a0 / 2) 6148914691236517205) + (Go.bits .and .u64 a0 6148914691236517205))) / 4) 3689348814741910323) + (Go.bits .and .u64 (IntKind.u64.wrap ((Go.bits .and .u64 (a0 / 2) 6148914691236517205) + (Go.bits .and .u64 a0 6148914691236517205))) 3689348814741910323))))) 1085102592571150095) / 256))) / 65536))) + ((IntKind.u64.wrap ((IntKind.u64.wrap ((Go.bits .and .u64 (IntKind.u64.wrap (((IntKind.u64.wrap ((Go.bits .and .u64 ((IntKind.u64.wrap ((Go.bits .and .u64 (a0 / 2) 6148914691236517205) + (Go.bits .and .u64 a0 6148914691236517205))) / 4) 3689348814741910323) + (Go.bits .and .u64 (IntKind.u64.wrap ((Go.bits .and .u64 (a0 / 2) 6148914691236517205) + (Go.bits .and .u64 a0 6148914691236517205))) 3689348814741910323))) / 16) + (IntKind.u64.wrap ((Go.bits .and .u64 ((IntKind.u64.wrap ((Go.bits .and .u64 (a0 / 2) 6148914691236517205) + (Go.bits .and .u64 a0 6148914691236517205))) / 4) 3689348814741910323) + (Go.bits .and .u64 (IntKind.u64.wrap ((Go.bits .and .u64 (a0 / 2) 6148914691236517205) + (Go.bits .and .u64 a0 6148914691236517205))) 3689348814741910323))))) 1085102592571150095) + ((Go.bits .and .u64 (IntKind.u64.wrap (((IntKind.u64.wrap ((Go.bits .and .u64 ((IntKind.u64.wrap ((Go.bits .and .u64 (a0 / 2) 6148914691236517205) + (Go.bits .and .u64 a0 6148914691236517205))) / 4) 3689348814741910323) + (Go.bits .and .u64 (IntKind.u64.wrap ((Go.bits .and .u64 (a0 / 2) 6148914691236517205) + (Go.bits .and .u64 a0 6148914691236517205))) 3689348814741910323))) / 16) + (IntKind.u64.wrap ((Go.bits .and .u64 ((IntKind.u64.wrap ((Go.bits .and .u64 (a0 / 2) 6148914691236517205) + (Go.bits .and .u64 a0 6148914691236517205))) / 4) 3689348814741910323) + (Go.bits .and .u64 (IntKind.u64.wrap ((Go.bits .and .u64 (a0 / 2) 6148914691236517205) + (Go.bits .and .u64 a0 6148914691236517205))) 3689348814741910323))))) 1085102592571150095) / 256))) + ((IntKind.u64.wrap ((Go.bits .and .u64 (IntKind.u64.wrap (((IntKind.u64.wrap ((Go.bits .and .u64 ((IntKind.u64.wrap ((Go.bits .and .u64 (a0 / 2) 6148914691236517205) + (Go.bits .and .u64 a0 6148914691236517205))) / 4) 3689348814741910323) + (Go.bits .and .u64 (IntKind.u64.wrap ((Go.bits .and .u64 (a0 / 2) 6148914691236517205) + (Go.bits .and .u64 a0 6148914691236517205))) 3689348814741910323))) / 16) + (IntKind.u64.wrap ((Go.bits .and .u64 ((IntKind.u64.wrap ((Go.bits .and .u64 (a0 / 2) 6148914691236517205) + (Go.bits .and .u64 a0 6148914691236517205))) / 4) 3689348814741910323) + (Go.bits .and .u64 (IntKind.u64.wrap ((Go.bits .and .u64 (a0 / 2) 6148914691236517205) + (Go.bits .and .u64 a0 6148914691236517205))) 3689348814741910323))))) 1085102592571150095) + ((Go.bits .and .u64 (IntKind.u64.wrap (((IntKind.u64.wrap ((Go.bits .and .u64 ((IntKind.u64.wrap ((Go.bits .and .u64 (a0 / 2) 6148914691236517205) + (Go.bits .and .u64 a0 6148914691236517205))) / 4) 3689348814741910323) + (Go.bits .and .u64 (IntKind.u64.wrap ((Go.bits .and .u64 (a0 / 2) 6148914691236517205) + (Go.bits .and .u64 a0 6148914691236517205))) 3689348814741910323))) / 16) + (IntKind.u64.wrap ((Go.bits .and .u64 ((IntKind.u64.wrap ((Go.bits .and .u64 (a0 / 2) 6148914691236517205) + (Go.bits .and .u64 a0 6148914691236517205))) / 4) 3689348814741910323) + (Go.bits .and .u64 (IntKind.u64.wrap ((Go.bits .and .u64 (a0 / 2) 6148914691236517205) + (Go.bits .and .u64 a0 6148914691236517205))) 3689348814741910323))))) 1085102592571150095) / 256))) / 65536))) / 4294967296)))) 127)
set_option maxHeartbeats 8000000 in
set_option maxRecDepth 100000 in
theorem bits_OnesCount64.calls (a0 : Int) (r : Int) (w : World) (h : bits_OnesCount64.f a0 = some r) :
  Calls Tryd.prog 122 #[.int .u64 a0] w fun e w' => e = .returned (.int .i64 r) ∧ Drawn0 w w' := by
 have H : (some (Go.bits .and .i64 (wrap64 (IntKind.u64.wrap ((IntKind.u64.wrap ((IntKind.u64.wrap ((Go.bits .and .u64 (IntKind.u64.wrap (((IntKind.u64.wrap ((Go.bits .and .u64 ((IntKind.u64.wrap ((Go.bits .and .u64 (a0 / 2) 6148914691236517205) + (Go.bits .and .u64 a0 6148914691236517205))) / 4) 3689348814741910323) + (Go.bits .and .u64 (IntKind.u64.wrap ((Go.bits .and .u64 (a0 / 2) 6148914691236517205) + (Go.bits .and .u64 a0 6148914691236517205))) 3689348814741910323))) / 16) + (IntKind.u64.wrap ((Go.bits .and .u64 ((IntKind.u64.wrap ((Go.bits .and .u64 (a0 / 2) 6148914691236517205) + (Go.bits .and .u64 a0 6148914691236517205))) / 4) 3689348814741910323) + (Go.bits .and .u64 (IntKind.u64.wrap ((Go.bits .and .u64 (a0 / 2) 6148914691236517205) + (Go.bits .and .u64 a0 6148914691236517205))) 3689348814741910323))))) 1085102592571150095) + ((Go.bits .and .u64 (IntKind.u64.wrap (((IntKind.u64.wrap ((Go.bits .and .u64 ((IntKind.u64.wrap ((Go.bits .and .u64 (a0 / 2) 6148914691236517205) + (Go.bits .and .u64 a0 6148914691236517205))) / 4) 3689348814741910323) + (Go.bits .and .u64 (IntKind.u64.wrap ((Go.bits .and .u64 (a0 / 2) 6148914691236517205) + (Go.bits .and .u64 a0 6148914691236517205))) 3689348814741910323))) / 16) + (IntKind.u64.wrap ((Go.bits .and .u64 ((IntKind.u64.wrap ((Go.bits .and .u64 (a0 / 2) 6148914691236517205) + (Go.bits .and .u64 a0 6148914691236517205))) / 4) 3689348814741910323) + (Go.bits .and .u64 (IntKind.u64.wrap ((Go.bits .and .u64 (a0 / 2) 6148914691236517205) + (Go.bits .and .u64 a0 6148914691236517205))) 3689348814741910323))))) 1085102592571150095) / 256))) + ((IntKind.u64.wrap ((Go.bits .and .u64 (IntKind.u64.wrap (((IntKind.u64.wrap ((Go.bits .and .u64 ((IntKind.u64.wrap ((Go.bits .and .u64 (a0 / 2) 6148914691236517205) + (Go.bits .and .u64 a0 6148914691236517205))) / 4) 3689348814741910323) + (Go.bits .and .u64 (IntKind.u64.wrap ((Go.bits .and .u64 (a0 / 2) 6148914691236517205) + (Go.bits .and .u64 a0 6148914691236517205))) 3689348814741910323))) / 16) + (IntKind.u64.wrap ((Go.bits .and .u64 ((IntKind.u64.wrap ((Go.bits .and .u64 (a0 / 2) 6148914691236517205) + (Go.bits .and .u64 a0 6148914691236517205))) / 4) 3689348814741910323) + (Go.bits .and .u64 (IntKind.u64.wrap ((Go.bits .and .u64 (a0 / 2) 6148914691236517205) + (Go.bits .and .u64 a0 6148914691236517205))) 3689348814741910323))))) 1085102592571150095) + ((Go.bits .and .u64 (IntKind.u64.wrap (((IntKind.u64.wrap ((Go.bits .and .u64 ((IntKind.u64.wrap ((Go.bits .and .u64 (a0 / 2) 6148914691236517205) + (Go.bits .and .u64 a0 6148914691236517205))) / 4) 3689348814741910323) + (Go.bits .and .u64 (IntKind.u64.wrap ((Go.bits .and .u64 (a0 / 2) 6148914691236517205) + (Go.bits .and .u64 a0 6148914691236517205))) 3689348814741910323))) / 16) + (IntKind.u64.wrap ((Go.bits .and .u64 ((IntKind.u64.wrap ((Go.bits .and .u64 (a0 / 2) 6148914691236517205) + (Go.bits .and .u64 a0 6148914691236517205))) / 4) 3689348814741910323) + (Go.bits .and .u64 (IntKind.u64.wrap ((Go.bits .and .u64 (a0 / 2) 6148914691236517205) + (Go.bits .and .u64 a0 6148914691236517205))) 3689348814741910323))))) 1085102592571150095) / 256))) / 65536))) + ((IntKind.u64.wrap ((IntKind.u64.wrap ((Go.bits .and .u64 (IntKind.u64.wrap (((IntKind.u64.wrap ((Go.bits .and .u64 ((IntKind.u64.wrap ((Go.bits .and .u64 (a0 / 2) 6148914691236517205) + (Go.bits .and .u64 a0 6148914691236517205))) / 4) 3689348814741910323) + (Go.bits .and .u64 (IntKind.u64.wrap ((Go.bits .and .u64 (a0 / 2) 6148914691236517205) + (Go.bits .and .u64 a0 6148914691236517205))) 3689348814741910323))) / 16) + (IntKind.u64.wrap ((Go.bits .and .u64 ((IntKind.u64.wrap ((Go.bits .and .u64 (a0 / 2) 6148914691236517205) + (Go.bits .and .u64 a0 6148914691236517205))) / 4) 3689348814741910323) + (Go.bits .and .u64 (IntKind.u64.wrap ((Go.bits .and .u64 (a0 / 2) 6148914691236517205) + (Go.bits .and .u64 a0 6148914691236517205))) 3689348814741910323))))) 1085102592571150095) + ((Go.bits .and .u64 (IntKind.u64.wrap (((IntKind.u64.wrap ((Go.bits .and .u64 ((IntKind.u64.wrap ((Go.bits .and .u64 (a0 / 2) 6148914691236517205) + (Go.bits .and .u64 a0 6148914691236517205))) / 4) 3689348814741910323) + (Go.bits .and .u64 (IntKind.u64.wrap ((Go.bits .and .u64 (a0 / 2) 6148914691236517205) + (Go.bits .and .u64 a0 6148914691236517205))) 3689348814741910323))) / 16) + (IntKind.u64.wrap ((Go.bits .and .u64 ((IntKind.u64.wrap ((Go.bits .and .u64 (a0 / 2) 6148914691236517205) + (Go.bits .and .u64 a0 6148914691236517205))) / 4) 3689348814741910323) + (Go.bits .and .u64 (IntKind.u64.wrap ((Go.bits .and .u64 (a0 / 2) 6148914691236517205) + (Go.bits .and .u64 a0 6148914691236517205))) 3689348814741910323))))) 1085102592571150095) / 256))) + ((IntKind.u64.wrap ((Go.bits .and .u64 (IntKind.u64.wrap (((IntKind.u64.wrap ((Go.bits .and .u64 ((IntKind.u64.wrap ((Go.bits .and .u64 (a0 / 2) 6148914691236517205) + (Go.bits .and .u64 a0 6148914691236517205))) / 4) 3689348814741910323) + (Go.bits .and .u64 (IntKind.u64.wrap ((Go.bits .and .u64 (a0 / 2) 6148914691236517205) + (Go.bits .and .u64 a0 6148914691236517205))) 3689348814741910323))) / 16) + (IntKind.u64.wrap ((Go.bits .and .u64 ((IntKind.u64.wrap ((Go.bits .and .u64 (a0 / 2) 6148914691236517205) + (Go.bits .and .u64 a0 6148914691236517205))) / 4) 3689348814741910323) + (Go.bits .and .u64 (IntKind.u64.wrap ((Go.bits .and .u64 (a0 / 2) 6148914691236517205) + (Go.bits .and .u64 a0 6148914691236517205))) 3689348814741910323))))) 1085102592571150095) + ((Go.bits .and .u64 (IntKind.u64.wrap (((IntKind.u64.wrap ((Go.bits .and .u64 ((IntKind.u64.wrap ((Go.bits .and .u64 (a0 / 2) 6148914691236517205) + (Go.bits .and .u64 a0 6148914691236517205))) / 4) 3689348814741910323) + (Go.bits .and .u64 (IntKind.u64.wrap ((Go.bits .and .u64 (a0 / 2) 6148914691236517205) + (Go.bits .and .u64 a0 6148914691236517205))) 3689348814741910323))) / 16) + (IntKind.u64.wrap ((Go.bits .and .u64 ((IntKind.u64.wrap ((Go.bits .and .u64 (a0 / 2) 6148914691236517205) + (Go.bits .and .u64 a0 6148914691236517205))) / 4) 3689348814741910323) + (Go.bits .and .u64 (IntKind.u64.wrap ((Go.bits .and .u64 (a0 / 2) 6148914691236517205) + (Go.bits .and .u64 a0 6148914691236517205))) 3689348814741910323))))) 1085102592571150095) / 256))) / 65536))) / 4294967296)))) 127)) = some r := h
 clear h
 obtain rfl := Option.some.inj H
 go_enter Tryd.func122, Tryd.ntmps122
 go_wp2
 go_ret
 exact ⟨by first | rfl | (simp; done) | (simp [*]; done), by repeat (first | exact Drawn0.refl _ | apply Drawn0.step)⟩
end Go.Proofs.YtjloppfdagfpmaaDoor.X
end
section
namespace Go.Proofs.YtjloppfdagfpmaaDoor.X
open Go.RowKit YtjloppfdagfpmaaDoorW.PrintWords YtjloppfdagfpmaaDoorW.PrintLast YtjloppfdagfpmaaDoorW.PrintMore
attribute [local go_sem] max2_int min2_int max_two min_two max_three min_three max_four min_four
/-! ### bits_OnesCount: function 118 -/
def bits_OnesCount.f (a0 : Int) : Option (Int) := (bits_OnesCount64.f a0).bind fun t116 => (some t116)
set_option maxHeartbeats 8000000 in
set_option maxRecDepth 100000 in
theorem bits_OnesCount.calls (a0 : Int) (r : Int) (w : World) (h : bits_OnesCount.f a0 = some r) :
  Calls Tryd.prog 118 #[.int .u64 a0] w fun e w' => e = .returned (.int .i64 r) ∧ Drawn0 w w' := by
 have H : ((bits_OnesCount64.f a0).bind fun t116 => (some t116)) = some r := h
 clear h
 replace H := Option.bind_eq_some_iff.mp H
 obtain ⟨t116, A20, H⟩ := H
 replace H : (some t116) = some r := H
 have A2 := Aside0.mk A20
 clear A20
 obtain rfl := Option.some.inj H
 go_enter Tryd.func118, Tryd.ntmps118
 go_wp2_with (first | ((with_reducible refine gate_callee (f := 122) rfl ?_); refine goesL_ (some 7) rfl rfl Tryd.func122 (by kernel_rfl) rfl #[.int .u64 a0] rfl (Qls) ?_; (with_reducible refine (bits_OnesCount64.calls a0 t116 _ A2.out).mono ?_); rintro e w' ⟨rfl, ⟨nd, rfl⟩⟩; refine ⟨_, rfl, ?_⟩))
 go_ret
 exact ⟨by first | rfl | (simp; done) | (simp [*]; done), by repeat (first | exact Drawn0.refl _ | apply Drawn0.step)⟩
end Go.Proofs.YtjloppfdagfpmaaDoor.X
end
section
namespace Go.Proofs.YtjloppfdagfpmaaDoor.X
open Go.RowKit YtjloppfdagfpmaaDoorW.PrintWords YtjloppfdagfpmaaDoorW.PrintLast YtjloppfdagfpmaaDoorW.PrintMore
attribute [local go_sem] max2_int min2_int max_two min_two max_three min_three max_four min_four
/-! ### minor_count: function 109 -/
def minor_count.f (a0 : Int) : Option (Int) := (bits_OnesCount.f (IntKind.u64.wrap (a0))).bind fun t117 => (some t117)
set_option maxHeartbeats 8000000 in
set_option maxRecDepth 100000 in
theorem minor_count.calls (a0 : Int) (r : Int) (w : World) (h : minor_count.f a0 = some r) :
  Calls Tryd.prog 109 #[.int .i64 a0] w fun e w' => e = .returned (.int .i64 r) ∧ Drawn0 w w' := by
 have H : ((bits_OnesCount.f (IntKind.u64.wrap (a0))).bind fun t117 => (some t117)) = some r := h
 clear h
 replace H := Option.bind_eq_some_iff.mp H
 obtain ⟨t117, A20, H⟩ := H
 replace H : (some t117) = some r := H
 have A2 := Aside0.mk A20
 clear A20
 obtain rfl := Option.some.inj H
 go_enter Tryd.func109, Tryd.ntmps109
 go_wp2_with (first | ((with_reducible refine gate_callee (f := 118) rfl ?_); refine goesL_ (some 5) rfl rfl Tryd.func118 (by kernel_rfl) rfl #[.int .u64 (IntKind.u64.wrap (a0))] rfl (Qls) ?_; (with_reducible refine (bits_OnesCount.calls (IntKind.u64.wrap (a0)) t117 _ A2.out).mono ?_); rintro e w' ⟨rfl, ⟨nd, rfl⟩⟩; refine ⟨_, rfl, ?_⟩))
 go_ret
 exact ⟨by first | rfl | (simp; done) | (simp [*]; done), by repeat (first | exact Drawn0.refl _ | apply Drawn0.step)⟩
end Go.Proofs.YtjloppfdagfpmaaDoor.X
end
section
/- nodes, count, around, part, degree: what they compute, in plain words. -/
namespace Go.Proofs.YtjloppfdagfpmaaDoor.X
open Go.RowKit YtjloppfdagfpmaaDoorW.PrintWords YtjloppfdagfpmaaDoorW.PrintLast YtjloppfdagfpmaaDoorW.PrintMore YtjloppfdagfpmaaDoor.T
theorem nodes_all : ∀ x : Fin 512, minor_nodes.f 12 (x.val : Int) = some (gi (els x.val 9)) := by decide +kernel
theorem nodes_ev (x : Nat) (hx : x < 512) : Ev (fun k => minor_nodes.f k (x : Int)) (gi (els x 9)) :=
 Ev.of (minor_nodes.mono _) (nodes_all ⟨x, hx⟩)
theorem count_all : ∀ x : Fin 512, minor_count.f (x.val : Int) = some (pc x.val 9 : Int) := by decide +kernel
theorem count_eq (x : Nat) (hx : x < 512) : minor_count.f (x : Int) = some (pc x 9 : Int) := count_all ⟨x, hx⟩
theorem small (G : List Nat) (h : G.length ≤ 9) {x : Nat} (hx : x < 2 ^ G.length) : x < 512 := Nat.lt_of_lt_of_le hx (show 2 ^ G.length ≤ 2 ^ 9 from Nat.pow_le_pow_right (by omega) h)
theorem big {x : Nat} (h : x < 512) : x < 2 ^ 62 := by omega
theorem around_l0 (G : List Nat) (hG : Gr 9 G) (L : List Nat) (hL : ∀ x ∈ L, x < G.length) (hLl : L.length ≤ 100) : ∀ d i (o : Nat), i + d = L.length → o < 2 ^ G.length →
  ∃ r : Nat, Ev (fun k => minor_town_around.l0 k (gi G) (o : Int) (gi L) (L.length : Int) (i : Int)) (r : Int) ∧ r < 2 ^ G.length ∧ ∀ j, bset r j ↔ bset o j ∨ ∃ x, x ∈ L.drop i ∧ Adj G x j := by
 intro d
 induction d with
 | zero =>
  intro i o hi ho
  refine ⟨o, Ev.step (f := fun _ => some (o : Int)) (fun k => ?_) (Ev.some rfl), ho, fun j => ?_⟩
  ·rw [minor_town_around.l0, if_neg (by omega)]
  ·rw [List.drop_eq_nil_of_le (by omega)]; simp
 | succ d ih =>
  intro i o hi ho
  have hi' : i < L.length := by omega
  have hm := hL _ (List.getElem_mem hi')
  have hr : rd (gi L) (i : Int) = ((L[i] : Nat) : Int) := by rw [rd_gi, List.getD_eq_getElem?_getD, List.getElem?_eq_getElem hi']; rfl
  have hrow := hG.row L[i]
  have ho2 : o ||| G.getD L[i] 0 < 2 ^ G.length := or_lt ho hrow
  obtain ⟨r, h1, h2, h3⟩ := ih (i + 1) (o ||| G.getD L[i] 0) (by omega) ho2
  refine ⟨r, Ev.step (fun k => ?_) h1, h2, fun j => ?_⟩
  ·rw [minor_town_around.l0, if_pos (by omega), if_pos (by omega), if_pos (by rw [gi_length]; omega), hr, if_pos (by omega), if_pos (by rw [gi_length]; omega), rd_gi,
    b_or _ _ (big (small G hG.most ho)) (big (small G hG.most hrow)), wrap_succ i (by omega)]
  ·rw [h3, or_bset, List.drop_eq_getElem_cons hi']
   constructor
   ·rintro ((h | h) | ⟨x, hx, ha⟩)
    ·exact .inl h
    ·exact .inr ⟨_, List.mem_cons_self, h⟩
    ·exact .inr ⟨x, List.mem_cons_of_mem _ hx, ha⟩
   ·rintro (h | ⟨x, hx, ha⟩)
    ·exact .inl (.inl h)
    ·rcases List.mem_cons.1 hx with h | h
     ·subst h; exact .inl (.inr ha)
     ·exact .inr ⟨x, h, ha⟩
theorem around_ev (G : List Nat) (hG : Gr 9 G) (s : Nat) (hs : s < 2 ^ G.length) : Ev (fun k => minor_town_around.f k (gi G) (s : Int)) ((Around G s : Nat) : Int) := by
 have hs5 := small G hG.most hs
 obtain ⟨r, h1, h2, h3⟩ := around_l0 G hG (els s 9) (fun x hx => bit_lt hs (mem_els.1 hx).2) (by rw [els_length]; have := pc_le s 9; omega) (els s 9).length 0 0 (by omega) (Nat.two_pow_pos _)
 have e : r = Around G s := eq_of_bits fun j => by
  have hh := h3 j
  rw [Around_bit hG]
  unfold bset at hh
  rw [hh]
  constructor
  ·rintro (h | ⟨x, hx, ha⟩)
   ·simp at h
   ·exact ⟨x, (mem_els.1 hx).2, ha⟩
  ·rintro ⟨x, hx, ha⟩
   exact .inr ⟨x, mem_els.2 ⟨Nat.lt_of_lt_of_le (bit_lt hs hx) hG.most, hx⟩, ha⟩
 subst e
 refine Ev.bind (nodes_ev s hs5) ?_
 rw [gi_length]
 exact h1
theorem all_eq (G : List Nat) (h : G.length ≤ 9) : minor_town_all.f (gi G) = some ((2 ^ G.length - 1 : Nat) : Int) := by
 unfold minor_town_all.f
 have h1 : 2 ^ G.length ≤ 2 ^ 9 := Nat.pow_le_pow_right (by omega) h
 have h2 := Nat.two_pow_pos G.length
 rw [gi_length, s_one _ (by omega), w64_small _ (by omega) (by omega)]
 congr 1
 omega
theorem lowb_all : ∀ x : Fin 512, x.val ≠ 0 → Go.bits .and .i64 (x.val : Int) (wrap64 (-(x.val : Int))) = ((2 ^ lowb x.val : Nat) : Int) := by decide +kernel
theorem conn_l0 (G : List Nat) (hG : Gr 9 G) (s : Nat) (hs : s < 2 ^ G.length) : ∀ (d p : Nat), (∀ j, bset p j → bset s j) → pc s 9 ≤ pc p 9 + d → Ev (fun k => minor_town_connected.l0 k (gi G) (s : Int) (p : Int)) (decide (clo G s d p = s)) := by
 intro d
 induction d with
 | zero =>
  intro p hp hc
  have hp2 : p < 2 ^ G.length := lt_of_bits fun j hj => bit_lt hs (hp j hj)
  have he : p = s := by
   apply eq_of_bits
   intro j
   refine ⟨hp j, fun hj => ?_⟩
   apply Classical.byContradiction
   intro hn
   have := pc_lt (x := p) (y := s) j 9 (fun i _ hi => hp i hi) (Nat.lt_of_lt_of_le (bit_lt hs hj) hG.most) (by simpa using hn) hj
   omega
  have hA := Nat.lt_of_le_of_lt (Nat.and_le_left (m := s)) (Around_lt hG p)
  refine Ev.step (f := fun k => (minor_town_around.f k (gi G) (p : Int)).bind fun t115 => (if (Go.bits .or .i64 (p : Int) (Go.bits .and .i64 t115 (s : Int))) = (p : Int) then (some ((p : Int) == (s : Int))) else (minor_town_connected.l0 k (gi G) (s : Int) (Go.bits .or .i64 (p : Int) (Go.bits .and .i64 t115 (s : Int)))))) (fun k => by rw [minor_town_connected.l0]) ?_
  refine Ev.bind (around_ev G hG p hp2) ?_
  simp only [b_and _ s (big (small G hG.most (Around_lt hG p))) (big (small G hG.most hs)), b_or p _ (big (small G hG.most hp2)) (big (small G hG.most hA))]
  have hf : p ||| (Around G p &&& s) = p := eq_of_bits fun j => by
   show bset _ _ ↔ bset _ _
   rw [or_bset, and_bset, ← he]
   exact ⟨fun h => h.elim id fun h => h.2, .inl⟩
  rw [hf]
  refine Ev.if_pos rfl (Ev.some ?_)
  rw [he]
  simp [clo]
 | succ d ih =>
  intro p hp hc
  have hp2 : p < 2 ^ G.length := lt_of_bits fun j hj => bit_lt hs (hp j hj)
  have hA := Nat.lt_of_le_of_lt (Nat.and_le_left (m := s)) (Around_lt hG p)
  refine Ev.step (f := fun k => (minor_town_around.f k (gi G) (p : Int)).bind fun t115 => (if (Go.bits .or .i64 (p : Int) (Go.bits .and .i64 t115 (s : Int))) = (p : Int) then (some ((p : Int) == (s : Int))) else (minor_town_connected.l0 k (gi G) (s : Int) (Go.bits .or .i64 (p : Int) (Go.bits .and .i64 t115 (s : Int)))))) (fun k => by rw [minor_town_connected.l0]) ?_
  refine Ev.bind (around_ev G hG p hp2) ?_
  simp only [b_and _ s (big (small G hG.most (Around_lt hG p))) (big (small G hG.most hs)), b_or p _ (big (small G hG.most hp2)) (big (small G hG.most hA))]
  by_cases hf : p ||| (Around G p &&& s) = p
  ·rw [hf]
   refine Ev.if_pos rfl (Ev.some ?_)
   rw [clo_fix hf]
   by_cases e : p = s
   ·simp [e]
   ·have : ¬ (p : Int) = (s : Int) := by omega
    simp [e, this]
  ·refine Ev.if_neg (by omega) ?_
   have hsub : ∀ j, bset (p ||| (Around G p &&& s)) j → bset s j := fun j hj => by
    rw [or_bset, and_bset] at hj
    exact hj.elim (hp j) fun h => h.2
   have hnew : ∃ v, bset (p ||| (Around G p &&& s)) v ∧ ¬ bset p v := by
    apply Classical.byContradiction
    intro hn
    exact hf (eq_of_bits fun j => ⟨fun hj => Classical.byContradiction fun hc => hn ⟨j, hj, hc⟩, fun hj => (or_bset _ _ _).2 (.inl hj)⟩)
   obtain ⟨v, hv1, hv2⟩ := hnew
   have := pc_lt (x := p) (y := p ||| (Around G p &&& s)) v 9 (fun j _ hj => (or_bset _ _ _).2 (.inl hj)) (Nat.lt_of_lt_of_le (bit_lt hs (hsub v hv1)) hG.most) (by simpa [bset] using hv2) hv1
   exact ih _ hsub (by omega)
theorem connected_ev (G : List Nat) (hG : Gr 9 G) (s : Nat) (hs : s < 2 ^ G.length) : Ev (fun k => minor_town_connected.f k (gi G) (s : Int)) (conB G s) := by
 have hs5 := small G hG.most hs
 unfold minor_town_connected.f
 by_cases h0 : s = 0
 ·subst h0
  exact Ev.if_pos rfl (Ev.some rfl)
 ·refine Ev.if_neg (by omega) ?_
  rw [lowb_all ⟨s, hs5⟩ h0]
  have hl := (lowb_bit hG (by omega) hs h0).1
  have := conn_l0 G hG s hs 9 (2 ^ lowb s) (fun j hj => by rw [(two_pow_bit _ _).1 hj]; exact hl) (by have := pc_le s 9; omega)
  unfold conB
  simpa [h0] using this
theorem gr_mono {m m' : Nat} {G : List Nat} (h : Gr m G) (hm : m ≤ m') : Gr m' G := ⟨h.pos, Nat.le_trans h.most hm, h.lt, h.irr, h.symm⟩
end Go.Proofs.YtjloppfdagfpmaaDoor.X
end
section
namespace Go.Proofs.YtjloppfdagfpmaaDoor.X
open Go.RowKit YtjloppfdagfpmaaDoorW.PrintWords YtjloppfdagfpmaaDoorW.PrintLast YtjloppfdagfpmaaDoorW.PrintMore
attribute [local go_sem] max2_int min2_int max_two min_two max_three min_three max_four min_four
/-! ### lampblackref02_Connected: function 18 -/
mutual
def lampblackref02_Connected.j0 : Nat → List Int → Int → Bool → Option (Bool)
 | 0, _, _, _ => none
 | k + 1, x0, x1, x14 => if x14 = true then (some false) else (lampblackref02_Connected.l0 k x0 x1 0)
def lampblackref02_Connected.l0 : Nat → List Int → Int → Int → Option (Bool)
 | 0, _, _, _ => none
 | k + 1, x0, x1, x5 => if 0 ≤ x5 then (if (Go.bits .and .i64 (shr .i64 x1 x5) 1) = 0 then (lampblackref02_Connected.l0 k x0 x1 (wrap64 (x5 + 1))) else ((lampblackref01_Reached.f k x0 x1 x5).bind fun t144 => (some (t144 == x1)))) else (none)
end
end Go.Proofs.YtjloppfdagfpmaaDoor.X
end
section
namespace Go.Proofs.YtjloppfdagfpmaaDoor.X
open Go.RowKit YtjloppfdagfpmaaDoorW.PrintWords YtjloppfdagfpmaaDoorW.PrintLast YtjloppfdagfpmaaDoorW.PrintMore
attribute [local go_sem] max2_int min2_int max_two min_two max_three min_three max_four min_four
/-! ### lampblackref02_Around: function 95 -/
def lampblackref02_Around.l0 : Nat → List Int → Int → Int → Int → Int → Option (Int)
 | 0, _, _, _, _, _ => none
 | k + 1, x0, x1, x5, x8, x9 => if x9 < x8 then (if 0 ≤ x9 then (if (Go.bits .and .i64 (shr .i64 x1 x9) 1) = 1 then (if x9 < (x0.length : Int) then (lampblackref02_Around.l0 k x0 x1 (Go.bits .or .i64 x5 (rd x0 x9)) x8 (wrap64 (x9 + 1))) else (none)) else (lampblackref02_Around.l0 k x0 x1 x5 x8 (wrap64 (x9 + 1)))) else (none)) else (some x5)
def lampblackref02_Around.f (k : Nat) (l0 : List Int) (a1 : Int) : Option (Int) := lampblackref02_Around.l0 k l0 a1 0 (l0.length : Int) 0
end Go.Proofs.YtjloppfdagfpmaaDoor.X
end
section
namespace Go.Proofs.YtjloppfdagfpmaaDoor.X
open Go.RowKit YtjloppfdagfpmaaDoorW.PrintWords YtjloppfdagfpmaaDoorW.PrintLast YtjloppfdagfpmaaDoorW.PrintMore
attribute [local go_sem] max2_int min2_int max_two min_two max_three min_three max_four min_four
/-! ### lampblackref02_Size: function 39 -/
def lampblackref02_Size.l0 : Nat → Int → Int → Option (Int)
 | 0, _, _ => none
 | k + 1, x0, x3 => if x0 > 0 then (lampblackref02_Size.l0 k (Go.bits .and .i64 x0 (wrap64 (x0 - 1))) (wrap64 (x3 + 1))) else (some x3)
end Go.Proofs.YtjloppfdagfpmaaDoor.X
end
section
namespace Go.Proofs.YtjloppfdagfpmaaDoor.X
open Go.RowKit YtjloppfdagfpmaaDoorW.PrintWords YtjloppfdagfpmaaDoorW.PrintLast YtjloppfdagfpmaaDoorW.PrintMore
attribute [local go_sem] max2_int min2_int max_two min_two max_three min_three max_four min_four
/-! ### slices_Clone_Graph: function 65 -/
def slices_Clone_Graph.f (l0 : List Int) : Option (List Int) := (some (([] : List Int) : List Int)).bind fun y154 => (if y154.length + l0.length < 17592186044416 then (some (y154 ++ l0)) else (none))
set_option maxHeartbeats 8000000 in
set_option maxRecDepth 100000 in
theorem slices_Clone_Graph.calls_some (a0 : Addr) (c0 : Nat) (l0 : List Int) (r : List Int) (w : World) (hr0 : Kd.C (Kd.int .i64) w (some a0) l0.length l0) (hc0 : l0.length ≤ c0) (h : slices_Clone_Graph.f l0 = some r) :
  Calls Tryd.prog 65 #[.slice (some a0) l0.length c0] w fun e w' => ∃ v0_ : Value, e = .returned (v0_) ∧ Kd.R (Kd.int .i64) 3 w' w.heap.size (fun _ => True) v0_ r ∧ Below w.heap.size w w' := by
 have HR0 := Aside0.mk hr0
 have HC0 := Aside0.mk hc0
 clear hr0 hc0
 have HB := Aside0.mk (Below.refl w.heap.size w)
 have H : ((some (([] : List Int) : List Int)).bind fun y154 => (if y154.length + l0.length < 17592186044416 then (some (y154 ++ l0)) else (none))) = some r := h
 clear h
 obtain ⟨y154, hy154⟩ : ∃ y_ : List Int, y_ = (([] : List Int)) := ⟨_, rfl⟩
 replace H : (if y154.length + l0.length < 17592186044416 then (some (y154 ++ l0)) else (none)) = some r := by first | (rw [hy154]; with_reducible exact H) | (have H2_ := (Option.bind_some _ _).symm.trans H; rw [hy154]; with_reducible exact H2_) | (have H2_ := (Option.bind_some _ _).symm.trans H; with_reducible exact H2_) | with_reducible exact H | (rw [hy154]; exact H) | exact H
 have Ny154 := Aside0.mk hy154
 clear hy154
 by_cases c2 : y154.length + l0.length < 17592186044416
 ·rw [if_pos c2] at H
  have LMc2 := Aside0.mk c2
  clear c2
  obtain ⟨y157, hy157⟩ : ∃ y_ : List Int, y_ = (y154 ++ l0) := ⟨_, rfl⟩
  replace H : (some y157) = some r := by first | (rw [hy157]; with_reducible exact H) | (have H2_ := (Option.bind_some _ _).symm.trans H; rw [hy157]; with_reducible exact H2_) | (have H2_ := (Option.bind_some _ _).symm.trans H; with_reducible exact H2_) | with_reducible exact H | (rw [hy157]; exact H) | exact H
  have Ny157 := Aside0.mk hy157
  clear hy157
  obtain rfl := Option.some.inj H
  have heq_ := fun (w : World) => Lib.run_eql_slice_nil (P := Tryd.prog) w 23 3 (some a0) l0.length c0 0 0 Tryd.underlying23
  go_enter Tryd.func65, Tryd.ntmps65
  go_wp2_with (first | ((with_reducible refine gate_dst (N := 5) rfl ?_); refine Kd.R_lit (Kd.int .i64) _ 3 ?hg (N := 5) ?hd (xs := ([] : List Int)) (inner := []) (ok := fun _ => True) (okp := fun _ => True) ?hr ?hp (fun _ hk => hk) trivial (Below.refl _ _) (Nat.le_refl _) (by simp) ?_; (case hd => rfl); (case hg => rfl); (case hr => first | (go_simp; done) | (go_simp; rfl)); (case hp => exact (Reps.none _ _)); intro v155 w3 ho4 hb hg_ hnew_; clear hg_ hnew_; (first | rw [← Ny154.out] at ho4 | (simp only [Int.reduceToNat] at ho4; rw [← Ny154.out] at ho4)); have n0_ := Aside0.mk (Kd.R_lower ho4 (below_size (Qaw))); have n1_ := Aside0.mk (below_step (Qaw) hb); clear HB; have HO156 := n0_; have HB := n1_; clear n0_ n1_; clear hb ho4) | ((with_reducible refine gate_builtin (b := .append) (xs := #[.tmp 5, .tmp 6]) rfl ?_); at_builtin; refine Kd.R_append_rows (Kd.int .i64) (w0 := w) w.heap.size rfl (.tmp 5) (.tmp 6) 23 3 (.int .i64 0) 8 rfl Tryd.underlying23 info3 rfl (by decide) (by omega) v155 y154 l0 _ _ _ (fun _ => True) (fun _ => False) rfl rfl ?aO ?aR (fun _ _ h => h) (fun _ h => h.elim) ?aF ?aB ?aS ?aL ?_; (case aR => exact Qsc (Kd.C_below HR0.out HB.out)); (case aB => exact (Qaw)); (case aF => exact (fun _ _ => trivial)); (case aO => exact (Qro HO156.out)); (case aS => exact (below_size (Qaw))); (case aL => have := LMc2.out; omega); intro v158 w5 ho hb hg hat; rw [← Ny157.out] at ho; have n0_ := Aside0.mk (hb); have n1_ := Aside0.mk (ho); clear HB; clear HO156; have HB := n0_; have HO159 := n1_; clear n0_ n1_; clear ho hb hg hat))
  go_ret
  exact ⟨_, by first | rfl | (simp [errW_none, errW_some] <;> rfl) | (simp [*, errW_none, errW_some] <;> rfl), by (with_reducible repeat (first | apply Kd.R_alloc | apply Kd.R_drewN | apply Kd.R_drew)); exact HO159.out, by repeat (first | (with_reducible first | exact HB.out | apply below_alloc | apply pw_below_drewN | apply below_drew1) | exact HB.out)⟩
 ·rw [if_neg c2] at H
  exact absurd H (by simp)
theorem slices_Clone_Graph.calls (A0 : Option Addr) (c0 : Nat) (l0 : List Int) (r : List Int) (w : World) (hr0 : Kd.C (Kd.int .i64) w A0 l0.length l0) (hc0 : l0.length ≤ c0) (h : slices_Clone_Graph.f l0 = some r) :
  Calls Tryd.prog 65 #[.slice A0 l0.length c0] w fun e w' => ∃ v0_ : Value, e = .returned (v0_) ∧ Kd.R (Kd.int .i64) 3 w' w.heap.size (fun _ => True) v0_ r ∧ Below w.heap.size w w' := by
 cases A0 with
 | some a0 => exact slices_Clone_Graph.calls_some a0 c0 l0 r w hr0 hc0 h
 | none =>
  have hl : l0 = [] := by
   rcases Nat.eq_zero_or_pos l0.length with h0 | h0
   ·exact List.length_eq_zero_iff.mp h0
   ·obtain ⟨ad, he, _⟩ := hr0.2.2 h0
    cases he
  subst hl
  obtain rfl : [] = r := by simpa [slices_Clone_Graph.f] using h
  clear h hr0 hc0
  have heq_ := fun (w : World) => Lib.run_eql_slice_nil (P := Tryd.prog) w 23 3 none 0 c0 0 0 Tryd.underlying23
  go_enter Tryd.func65, Tryd.ntmps65
  go_wp2
  go_ret
  exact ⟨_, rfl, Kd.R_nil _ _ _ _ _, Below.refl _ _⟩
end Go.Proofs.YtjloppfdagfpmaaDoor.X
end
section
namespace Go.Proofs.YtjloppfdagfpmaaDoor.X
open Go.RowKit YtjloppfdagfpmaaDoorW.PrintWords YtjloppfdagfpmaaDoorW.PrintLast YtjloppfdagfpmaaDoorW.PrintMore
attribute [local go_sem] max2_int min2_int max_two min_two max_three min_three max_four min_four
/-! ### lampblacklaw07_Few: function 22 -/
def lampblacklaw07_Few.f (l0 : List Int) : Option (List Int) := if 0 ≤ (mn (l0.length : Int) 12) then (if (mn (l0.length : Int) 12) ≤ (l0.length : Int) then ((slices_Clone_Graph.f (l0.take ((mn (l0.length : Int) 12) : Int).toNat)).bind fun t161 => (some t161)) else (none)) else (none)
set_option maxHeartbeats 8000000 in
set_option maxRecDepth 100000 in
theorem lampblacklaw07_Few.calls (A0 : Option Addr) (c0 : Nat) (l0 : List Int) (r : List Int) (w : World) (hr0 : Kd.C (Kd.int .i64) w A0 l0.length l0) (hc0 : l0.length ≤ c0) (h : lampblacklaw07_Few.f l0 = some r) :
  Calls Tryd.prog 22 #[.slice A0 l0.length c0] w fun e w' => ∃ v0_ : Value, e = .returned (v0_) ∧ Kd.R (Kd.int .i64) 3 w' w.heap.size (fun _ => True) v0_ r ∧ Below w.heap.size w w' := by
 have HR0 := Aside0.mk hr0
 have HC0 := Aside0.mk hc0
 clear hr0 hc0
 have HB := Aside0.mk (Below.refl w.heap.size w)
 have H : (if 0 ≤ (mn (l0.length : Int) 12) then (if (mn (l0.length : Int) 12) ≤ (l0.length : Int) then ((slices_Clone_Graph.f (l0.take ((mn (l0.length : Int) 12) : Int).toNat)).bind fun t161 => (some t161)) else (none)) else (none)) = some r := h
 clear h
 obtain ⟨ji2, hji2⟩ : ∃ j_ : Int, (mn (l0.length : Int) 12) = j_ := ⟨_, rfl⟩
 replace H : (if 0 ≤ (ji2) then (if (ji2) ≤ (l0.length : Int) then ((slices_Clone_Graph.f (l0.take ((ji2) : Int).toNat)).bind fun t161 => (some t161)) else (none)) else (none)) = some r := by first | (rw [hji2] at H; exact H) | (simp only [hji2] at H ⊢; exact H)
 (try (have hji2h : ji2 ≤ 12 := by (rw [← hji2]; unfold mn; (repeat' split) <;> omega)))
 (try (have hji2g : ji2 ≤ 64 := by omega))
 (try (have hji2l : 0 ≤ ji2 := by (rw [← hji2]; unfold mn; (repeat' split) <;> omega)))
 (try (have hji2m : 0 ≤ ji2 := by omega))
 have hji2_ : (if 12 < (l0.length : Int) then 12 else (l0.length : Int)) = ji2 := hji2
 by_cases c3 : 0 ≤ (ji2)
 ·rw [if_pos c3] at H
  have c3b0 := eq_true c3
  have c3b1 : decide (0 ≤ (ji2)) = true := decide_eq_true c3
  clear c3
  by_cases c4 : (ji2) ≤ (l0.length : Int)
  ·rw [if_pos c4] at H
   have c4b0 := eq_true c4
   have c4b1 : decide ((ji2) ≤ (l0.length : Int)) = true := decide_eq_true c4
   clear c4
   replace H := Option.bind_eq_some_iff.mp H
   obtain ⟨t161, A50, H⟩ := H
   replace H : (some t161) = some r := H
   have A5 := Aside0.mk A50
   clear A50
   obtain rfl := Option.some.inj H
   obtain ⟨i06, hi06, _, hsz6, _⟩ := info_parts info3
   obtain ⟨hcut6, hA6, hC6⟩ := print_take_of (P := Tryd.prog) (Value.int .i64) 0 23 3 .i64 Tryd.underlying23 hi06 hsz6 A0 c0 l0 (ji2) (of_decide_eq_true (by first | (with_reducible assumption) | assumption)) (of_decide_eq_true (by first | (with_reducible assumption) | assumption)) HC0.out
   have HR160 := Aside0.mk (Kd.C_of_reads (h1 := fun _ => rfl) (hA6 _ (Kd.reads_of_C HR0.out)))
   have HC160 := Aside0.mk hC6
   clear hA6 hC6 hi06 hsz6
   go_enter Tryd.func22, Tryd.ntmps22
   go_wp2_with (first | ((with_reducible refine gate_callee (f := 65) rfl ?_); refine goesL_ (some 8) rfl rfl Tryd.func65 (by kernel_rfl) rfl #[.slice A0 (l0.take ((ji2) : Int).toNat).length c0] rfl (by (try simp only [List.map_toArray, List.map_cons, List.map_nil]); first | done | (rw [show (l0.take ((ji2) : Int).toNat).length = (ji2).toNat from (by rw [List.length_take]; have h_ : ((ji2) : Int) ≤ (l0.length : Int) := of_decide_eq_true (by first | (with_reducible assumption) | assumption); omega)] <;> rfl) | (simp only [hji2]; rfl) | rfl | (simp only [List.length_drop, List.length_take]; rfl)) ?_; (with_reducible refine (slices_Clone_Graph.calls _ _ (l0.take ((ji2) : Int).toNat) t161 _ ?side1 ?side2 A5.out).mono ?_); (case side1 => exact Qsc HR160.out); (case side2 => exact HC160.out); rintro e w7 ⟨v162, rfl, ho0, hb⟩; refine ⟨_, rfl, ?_⟩; have n0_ := Aside0.mk (Kd.R_lower ho0 (below_size (Qaw))); have n1_ := Aside0.mk (below_step (Qaw) hb); clear HB; have HO163 := n0_; have HB := n1_; clear n0_ n1_; (try clear hb); (try clear hb2); (try clear hk); (try clear hi); (try clear ho0)))
   go_ret
   exact ⟨_, by first | rfl | (simp [errW_none, errW_some] <;> rfl) | (simp only [← hji2]; first | rfl | (simp [errW_none, errW_some] <;> rfl)) | (simp [*, errW_none, errW_some] <;> rfl), by (with_reducible repeat (first | apply Kd.R_alloc | apply Kd.R_drewN | apply Kd.R_drew)); exact HO163.out, by repeat (first | (with_reducible first | exact HB.out | apply below_alloc | apply pw_below_drewN | apply below_drew1) | exact HB.out)⟩
  ·rw [if_neg c4] at H
   exact absurd H (by simp)
 ·rw [if_neg c3] at H
  exact absurd H (by simp)
end Go.Proofs.YtjloppfdagfpmaaDoor.X
end
section
/- A bit test and a shift, as the walk spells them. -/
namespace Go.Proofs.YtjloppfdagfpmaaDoor.X
open Go.RowKit YtjloppfdagfpmaaDoorW.PrintWords YtjloppfdagfpmaaDoorW.PrintLast YtjloppfdagfpmaaDoorW.PrintMore YtjloppfdagfpmaaDoor.T
theorem shJ (v : Nat) (hv : v < 62) : ∃ J : Int, (wrap64 (2 ^ v) = J ∧ wrap64 (2 ^ min v 64) = J ∧ shl .i64 1 (v : Int) = J) ∧ J = ((2 ^ v : Nat) : Int) := by
 have e := s_one v hv
 have h : (2 : Nat) ^ v < 2 ^ 62 := Nat.pow_lt_pow_right (by omega) hv
 have h2 : wrap64 (2 ^ v) = ((2 ^ v : Nat) : Int) := by
  rw [show ((2 : Int) ^ v) = ((2 ^ v : Nat) : Int) by simp]
  generalize 2 ^ v = x at *
  exact w64_small _ (by omega) (by omega)
 exact ⟨_, ⟨h2, by rw [Nat.min_eq_left (by omega)]; exact h2, e⟩, rfl⟩
end Go.Proofs.YtjloppfdagfpmaaDoor.X
end
section
/- (*minor.search).fits, grow and (minor.town).find, by hand. -/
namespace Go.Proofs.YtjloppfdagfpmaaDoor.X
open Go.RowKit YtjloppfdagfpmaaDoorW.PrintWords YtjloppfdagfpmaaDoorW.PrintLast YtjloppfdagfpmaaDoorW.PrintMore YtjloppfdagfpmaaDoor.T
attribute [local go_sem] max2_int min2_int max_two min_two max_three min_three max_four min_four
set_option maxHeartbeats 2000000 in
theorem fit1 (pB aB sB : Nat) (A : Option Addr) (c : Nat) (M : List Int) (j ar : Int) (hj : 0 ≤ j) (hj2 : j < (M.length : Int)) (w : World) (hM : Kd.C (Kd.int .i64) w A M.length M) (h0 : w.cell? ⟨pB, 0, none⟩ = some (.pointer (some ⟨sB, 0, none⟩))) (h1 : w.cell? ⟨aB, 0, none⟩ = some (.int .i64 ar)) (h2 : w.cell? ⟨sB, 3, none⟩ = some (.slice A M.length c)) :
  Calls Tryd.prog 119 #[.int .i64 j, .pointer (some ⟨pB, 0, none⟩), .pointer (some ⟨aB, 0, none⟩)] w fun e w' => e = .returned (.bool (Go.bits .and .i64 (rd M j) ar == 0)) ∧ Below w.heap.size w w' := by
 obtain ⟨ad, e1, hgx⟩ := Kd.at_int hM j hj hj2
 subst e1
 have hi1 : (j < (M.length : Int)) = True := eq_true hj2
 have hi2 : decide (j < (M.length : Int)) = true := decide_eq_true hj2
 have hi3 : (0 ≤ j) = True := eq_true hj
 have hi4 : decide (0 ≤ j) = true := decide_eq_true hj
 generalize rd M j = x at *
 clear hM
 have h0d : w.drew.cell? ⟨pB, 0, none⟩ = some (.pointer (some ⟨sB, 0, none⟩)) := h0
 have h1d : w.drew.cell? ⟨aB, 0, none⟩ = some (.int .i64 ar) := h1
 have h2d : w.drew.cell? ⟨sB, 3, none⟩ = some (.slice (some ad) M.length c) := h2
 have hgd : w.drew.cell? (ad.add j.toNat) = some (.int .i64 x) := hgx
 have hBd : Below w.heap.size w w.drew := below_drew (Below.refl _ _)
 go_enter Tryd.func119, Tryd.ntmps119
 go_wp2
 refine start_ (n := 11) (S := fun w' => w'.cell? ⟨pB, 0, none⟩ = some (.pointer (some ⟨sB, 0, none⟩)) ∧ w'.cell? ⟨aB, 0, none⟩ = some (.int .i64 ar) ∧ w'.cell? ⟨sB, 3, none⟩ = some (.slice (some ad) M.length c) ∧ w'.cell? (ad.add j.toNat) = some (.int .i64 x) ∧ Below w.heap.size w w') (ds := []) (Qbz 11 0) (by kernel_rfl) rfl rfl ⟨h0d, h1d, h2d, hgd, hBd⟩ (fun hHeld => ?_)
 refine pure_ (i := 4) (N := some 9) (v := ?_) (a' := ?_) (Qbz 11 16) rfl rfl (by kernel_rfl) (fun _ _ _ h => h) (Or.inl ⟨by rfl, ?_⟩) ?_ ?_
 rotate_left
 ·intro w'
  go_simp
  with_reducible rfl
 rotate_left
 ·simp only [Act.put, Qp1, Qp2, Qp3, i64_w, i32_w]
  rfl
 refine take_ (i := 0) (N := some 5) (v := ?_) (a' := ?_) (Qbz 11 17) rfl rfl (by kernel_rfl) (fun _ _ _ h => h) (Or.inl ⟨by rfl, ?_⟩) hHeld ?_ ?_
 rotate_left
 ·rintro w' ⟨s0, s1, s2, s3, s4⟩
  go_simp
  with_reducible rfl
 rotate_left
 ·simp only [Act.put, Qp1, Qp2, Qp3, i64_w, i32_w]
  rfl
 refine pure_ (i := 1) (N := some 6) (v := ?_) (a' := ?_) (Qbz 11 19) rfl rfl (by kernel_rfl) (fun _ _ _ h => h) (Or.inl ⟨by rfl, ?_⟩) ?_ ?_
 rotate_left
 ·intro w'
  go_simp
  with_reducible rfl
 rotate_left
 ·simp only [Act.put, Qp1, Qp2, Qp3, i64_w, i32_w]
  rfl
 refine pure_ (i := 2) (N := some 7) (v := ?_) (a' := ?_) (Qbz 11 23) rfl rfl (by kernel_rfl) (fun _ _ _ h => h) (Or.inl ⟨by rfl, ?_⟩) ?_ ?_
 rotate_left
 ·intro w'
  go_simp
  with_reducible rfl
 rotate_left
 ·simp only [Act.put, Qp1, Qp2, Qp3, i64_w, i32_w]
  rfl
 refine take_ (i := 3) (N := some 8) (v := ?_) (a' := ?_) (Qbz 11 31) rfl rfl (by kernel_rfl) (fun _ _ _ h => h) (Or.inl ⟨by rfl, ?_⟩) hHeld ?_ ?_
 rotate_left
 ·rintro w' ⟨s0, s1, s2, s3, s4⟩
  go_simp
  with_reducible rfl
 rotate_left
 ·simp only [Act.put, Qp1, Qp2, Qp3, i64_w, i32_w]
  rfl
 refine pure_ (i := 5) (N := some 10) (v := ?_) (a' := ?_) (Qbz 11 63) rfl rfl (by kernel_rfl) (fun _ _ _ h => h) (Or.inl ⟨by rfl, ?_⟩) ?_ ?_
 rotate_left
 ·intro w'
  go_simp
  with_reducible rfl
 rotate_left
 ·simp only [Act.put, Qp1, Qp2, Qp3, i64_w, i32_w]
  rfl
 refine take_ (i := 6) (N := some 11) (v := ?_) (a' := ?_) (Qbz 11 127) rfl rfl (by kernel_rfl) (fun _ _ _ h => h) (Or.inl ⟨by rfl, ?_⟩) hHeld ?_ ?_
 rotate_left
 ·rintro w' ⟨s0, s1, s2, s3, s4⟩
  go_simp
  with_reducible rfl
 rotate_left
 ·simp only [Act.put, Qp1, Qp2, Qp3, i64_w, i32_w]
  rfl
 refine take_ (i := 7) (N := some 12) (v := ?_) (a' := ?_) (Qbz 11 255) rfl rfl (by kernel_rfl) (fun _ _ _ h => h) (Or.inl ⟨by rfl, ?_⟩) hHeld ?_ ?_
 rotate_left
 ·rintro w' ⟨s0, s1, s2, s3, s4⟩
  go_simp
  with_reducible rfl
 rotate_left
 ·simp only [Act.put, Qp1, Qp2, Qp3, i64_w, i32_w]
  rfl
 refine pure_ (i := 8) (N := some 13) (v := ?_) (a' := ?_) (Qbz 11 511) rfl rfl (by kernel_rfl) (fun _ _ _ h => h) (Or.inl ⟨by rfl, ?_⟩) ?_ ?_
 rotate_left
 ·intro w'
  go_simp
  with_reducible rfl
 rotate_left
 ·simp only [Act.put, Qp1, Qp2, Qp3, i64_w, i32_w]
  rfl
 refine pure_ (i := 9) (N := some 14) (v := ?_) (a' := ?_) (Qbz 11 1023) rfl rfl (by kernel_rfl) (fun _ _ _ h => h) (Or.inl ⟨by rfl, ?_⟩) ?_ ?_
 rotate_left
 ·intro w'
  go_simp
  with_reducible rfl
 rotate_left
 ·simp only [Act.put, Qp1, Qp2, Qp3, i64_w, i32_w]
  rfl
 refine pure_ (i := 10) (N := some 4) (v := ?_) (a' := ?_) (Qbz 11 2047) rfl rfl (by kernel_rfl) (fun _ _ _ h => h) (Or.inl ⟨by rfl, ?_⟩) ?_ ?_
 rotate_left
 ·intro w'
  go_simp
  with_reducible rfl
 rotate_left
 ·simp only [Act.put, Qp1, Qp2, Qp3, i64_w, i32_w]
  rfl
 refine done_ (by kernel_rfl) ?_
 go_wp2
 go_ret
 exact ⟨rfl, hHeld.2.2.2.2⟩
set_option maxHeartbeats 2000000 in
theorem index_fit (A : Option Addr) (c : Nat) (l : List Int) (p : Int → Bool) (xB0 xB1 : Nat) (w : World) (hx : Kd.C (Kd.int .i64) w A l.length l) (hl : l.length ≤ 1000)
  (hp : ∀ W, Below w.heap.size w W → ∀ x ∈ l, Calls Tryd.prog 119 #[.int .i64 x, .pointer (some ⟨xB0, 0, none⟩), .pointer (some ⟨xB1, 0, none⟩)] W fun e w' => e = .returned (.bool (p x)) ∧ Below W.heap.size W w') :
  Calls Tryd.prog 93 #[.slice A l.length c, .func (.func 119) #[] #[.pointer (some ⟨xB0, 0, none⟩), .pointer (some ⟨xB1, 0, none⟩)]] w fun e w' => ∃ z, e = .returned (.int .i64 z) ∧ decide (z ≥ 0) = l.any p ∧ Below w.heap.size w w' := by
 have HX := Aside0.mk hx
 have HP := Aside0.mk hp
 clear hx hp
 go_enter Tryd.func93, Tryd.ntmps93
 go_wp2
 go_loopg [8] l.length (fun kq v8 w' => ∃ i : Nat, v8 = .int .i64 (i : Int) ∧ i + kq = l.length ∧ Aside0 ((l.drop i).any p = l.any p) ∧ Aside0 (Below w.heap.size w w'))
 case atStart => exact ⟨0, rfl, by omega, ⟨rfl⟩, ⟨Below.refl _ _⟩⟩
 case round =>
  obtain ⟨i, rfl, hi, HA, HB⟩ := hrel
  by_cases hil : i < l.length
  ·have hi1 : ((i : Int) < (l.length : Int)) = True := eq_true (by omega)
   have hi2 : decide ((i : Int) < (l.length : Int)) = true := decide_eq_true (by omega)
   cases gk with
   | zero => omega
   | succ gi =>
   obtain ⟨ad, e1, hgx⟩ := Kd.at_int (Kd.C_below HX.out HB.out) (i : Int) (by omega) (by omega)
   subst e1
   have hra : rd l (i : Int) = l[i] := by unfold rd; rw [Int.toNat_natCast, List.getD_eq_getElem?_getD, List.getElem?_eq_getElem hil]; rfl
   rw [hra, Int.toNat_natCast] at hgx
   have hm : l[i] ∈ l := List.getElem_mem hil
   have ha := HA.out
   rw [List.drop_eq_getElem_cons hil, List.any_cons] at ha
   have HC := Aside0.mk (HP.out wr HB.out _ hm)
   generalize l[i] = x at *
   clear hra HA
   cases hpx : p x
   ·rw [hpx] at HC ha
    have HA2 : Aside0 ((l.drop (i + 1)).any p = l.any p) := ⟨by simpa using ha⟩
    clear ha hpx hm
    go_wp2_with (go_at_call 119; refine HC.out.mono ?_; rintro e w3 ⟨rfl, hb⟩)
    go_roundg gi
    case measure => omega
    case rel => exact ⟨i + 1, by go_num, by omega, HA2, ⟨below_step HB.out hb⟩⟩
   ·rw [hpx] at HC ha
    have HA2 : Aside0 (true = l.any p) := ⟨by simpa using ha⟩
    clear ha hpx hm
    go_wp2_with (go_at_call 119; refine HC.out.mono ?_; rintro e w3 ⟨rfl, hb⟩)
    go_ret
    exact ⟨_, rfl, by rw [← HA2.out]; exact decide_eq_true (by omega), below_step HB.out hb⟩
  ·have hi1 : ((i : Int) < (l.length : Int)) = False := eq_false (by omega)
   have hi2 : decide ((i : Int) < (l.length : Int)) = false := decide_eq_false (by omega)
   have ha := HA.out
   rw [List.drop_eq_nil_of_le (by omega)] at ha
   have HA2 : Aside0 (false = l.any p) := ⟨ha⟩
   clear ha HA
   go_wp2
   go_ret
   exact ⟨_, rfl, by rw [← HA2.out]; rfl, HB.out⟩
theorem contains_fit (A : Option Addr) (c : Nat) (l : List Int) (p : Int → Bool) (xB0 xB1 : Nat) (w : World) (hx : Kd.C (Kd.int .i64) w A l.length l) (hl : l.length ≤ 1000)
  (hp : ∀ W, Below w.heap.size w W → ∀ x ∈ l, Calls Tryd.prog 119 #[.int .i64 x, .pointer (some ⟨xB0, 0, none⟩), .pointer (some ⟨xB1, 0, none⟩)] W fun e w' => e = .returned (.bool (p x)) ∧ Below W.heap.size W w') :
  Calls Tryd.prog 68 #[.slice A l.length c, .func (.func 119) #[] #[.pointer (some ⟨xB0, 0, none⟩), .pointer (some ⟨xB1, 0, none⟩)]] w fun e w' => e = .returned (.bool (l.any p)) ∧ Below w.heap.size w w' := by
 have HI := Aside0.mk (index_fit A c l p xB0 xB1 w hx hl hp)
 clear hx hl hp
 go_enter Tryd.func68, Tryd.ntmps68
 go_wp2_with (go_at_call 93; refine HI.out.mono ?_; rintro e w3 ⟨z, rfl, hz, hb⟩)
 go_ret
 exact ⟨by rw [← hz]; rfl, hb⟩
def fitP (M : List Nat) (ar : Nat) (x : Int) : Bool := Go.bits .and .i64 (rd (gi M) x) (ar : Int) == 0
theorem fitP_all (G P M : List Nat) (s : Nat) (hM : ∀ x ∈ M, x < 512) (ha : Around G s < 512) : (!(gi (els (P.getD M.length 0 &&& (2 ^ M.length - 1)) 9)).any (fitP M (Around G s))) = fitB G P M s M.length := by
 unfold fitB gi
 rw [List.any_map, List.not_any_eq_all_not]
 congr 1
 funext j
 show (!(Go.bits .and .i64 (rd (gi M) (j : Int)) (Around G s : Int) == 0)) = _
 have hj : M.getD j 0 < 512 := by
  rw [List.getD_eq_getElem?_getD]
  by_cases h : j < M.length
  ·rw [List.getElem?_eq_getElem h]; exact hM _ (List.getElem_mem h)
  ·rw [List.getElem?_eq_none (by omega)]; show 0 < 512; omega
 rw [rd_gi, b_and _ _ (by omega) (by omega)]
 by_cases h : M.getD j 0 &&& Around G s = 0
 ·rw [h]; rfl
 ·have : ¬ ((M.getD j 0 &&& Around G s : Nat) : Int) = 0 := by omega
  rw [beq_eq_false_iff_ne.2 this, decide_eq_true h]
  rfl
theorem pow9 (k : Nat) (hk : k ≤ 9) : 2 ^ k - 1 < 2 ^ 62 ∧ 2 ^ k - 1 < 512 := by
 have h : 2 ^ k ≤ 2 ^ 9 := Nat.pow_le_pow_right (by omega) hk
 have h9 : (2 : Nat) ^ 9 = 512 := rfl
 have h0 := Nat.two_pow_pos k
 rw [h9] at h
 generalize 2 ^ k = T at *
 exact ⟨by omega, by omega⟩
set_option maxHeartbeats 4000000 in
set_option maxRecDepth 100000 in
theorem fits_calls (sB : Nat) (Ag : Option Addr) (cg : Nat) (G : List Nat) (hG : Gr 9 G) (hcg : G.length ≤ cg) (Ap : Option Addr) (cp : Nat) (P : List Nat) (Am : Option Addr) (cm : Nat) (M : List Nat) (s : Nat) (hs : s < 2 ^ G.length) (hk : M.length < P.length) (hPl : P.length ≤ 9) (hP : ∀ x ∈ P, x < 512) (hM : ∀ x ∈ M, x < 2 ^ G.length) (w : World) (hGL : GL w)
  (h0 : w.cell? ⟨sB, 0, none⟩ = some (.slice Ag G.length cg)) (h1 : w.cell? ⟨sB, 1, none⟩ = some (.slice Ap P.length cp)) (h3 : w.cell? ⟨sB, 3, none⟩ = some (.slice Am M.length cm))
  (hrg : Kd.C (Kd.int .i64) w Ag (gi G).length (gi G)) (hrp : Kd.C (Kd.int .i64) w Ap (gi P).length (gi P)) (hrm : Kd.C (Kd.int .i64) w Am (gi M).length (gi M)) :
  Calls Tryd.prog 110 #[.pointer (some ⟨sB, 0, none⟩), .int .i64 (s : Int), .int .i64 (M.length : Int)] w fun e w' => e = .returned (.bool (fitB G P M s M.length)) ∧ Below w.heap.size w w' := by
 have HRM := Aside0.mk hrm
 have HRP := Aside0.mk hrp
 have HRG := Aside0.mk hrg
 have HGL := Aside0.mk hGL
 have HH0 := Aside0.mk h0
 have HH1 := Aside0.mk h1
 have HH3 := Aside0.mk h3
 clear hrm hrp hrg hGL h0 h1 h3
 have hAs := small G hG.most (Around_lt hG s)
 have HCAR : Aside0 (∀ W, Below w.heap.size w W → Calls Tryd.prog 71 #[.slice Ag G.length cg, .int .i64 (s : Int)] W fun e w' => e = .returned (.int .i64 ((Around G s : Nat) : Int)) ∧ Below W.heap.size W w') := ⟨fun W hW => by
  obtain ⟨K, hK⟩ := around_ev G hG s hs
  have h := minor_town_around.calls K Ag cg (gi G) (s : Int) _ W (GL_below HGL.out hW) (Kd.C_below HRG.out hW) (by rw [gi_length]; exact hcg) (hK K (Nat.le_refl _))
  rw [gi_length] at h
  exact h⟩
 generalize HAD : Around G s = ar at *
 go_enter Tryd.func110, Tryd.ntmps110
 go_wp2_with (first
  | ((with_reducible refine gate_dst (N := 3) rfl ?_); refine box_event ?hg (N := 3) ?hd (cs := #[.pointer (some ⟨sB, 0, none⟩)]) (t := 113) ?hr ?_; (case hd => rfl); (case hg => rfl); (case hr => first | (go_simp; done) | (go_simp; rfl)); intro pB hga w7 hbox hb7; have HPB := Aside0.mk (show w.heap.size ≤ pB by rw [hga]; exact Nat.le_refl _); clear hga; have HBOX := Aside0.mk hbox; have HB7 := Aside0.mk hb7; have hz0 : w7.cell? ⟨pB, 0, none⟩ = some (.pointer (some ⟨sB, 0, none⟩)) := (blk_cell hbox 0).trans rfl; have hz1 : w7.cell? ⟨sB, 0, none⟩ = some (.slice Ag G.length cg) := (hb7.cell (World.block_lt_of_cell? w _ HH0.out)).trans HH0.out; clear hbox hb7)
  | (go_at_call 71; refine (HCAR.out _ HB7.out).mono ?_; rintro e w8 ⟨rfl, hb8⟩; have HB8 := Aside0.mk (below_step HB7.out hb8); have HB78 := Aside0.mk hb8; clear hb8))
 obtain ⟨w9, hw9⟩ : ∃ w9 : World, w9 = w8.alloc (Obj.cells #[.int .i64 (ar : Int)] 3) := ⟨_, rfl⟩
 have ha9 : w9.cell? ⟨w8.heap.size, 0, none⟩ = some (.int .i64 (ar : Int)) := by rw [hw9]; exact (blk_cell (show (w8.heap.push _)[w8.heap.size]? = _ from Array.getElem?_push_size) 0).trans rfl
 rw [← hw9]
 have HB89 : Aside0 (Below w8.heap.size w8 w9) := ⟨by rw [hw9]; exact below_alloc (Below.refl _ _) _⟩
 clear hw9
 have HB9 := Aside0.mk (below_step HB8.out HB89.out)
 have HB79 := Aside0.mk (below_step HB78.out HB89.out)
 have f0 : w9.cell? ⟨pB, 0, none⟩ = some (.pointer (some ⟨sB, 0, none⟩)) := (HB79.out.cell (World.block_lt_of_cell? w7 _ hz0)).trans hz0
 have f1 : w9.cell? ⟨sB, 1, none⟩ = some (.slice Ap P.length cp) := (HB9.out.cell (World.block_lt_of_cell? w _ HH1.out)).trans HH1.out
 obtain ⟨ad, e1, f2⟩ := Kd.at_int (Kd.C_below HRP.out HB9.out) (M.length : Int) (by omega) (by rw [gi_length]; omega)
 subst e1
 rw [rd_gi, Int.toNat_natCast] at f2
 have hlt9 : P.getD M.length 0 < 2 ^ 62 := by have := hP (P.getD M.length 0) (by rw [List.getD_eq_getElem?_getD, List.getElem?_eq_getElem hk]; exact List.getElem_mem hk); omega
 obtain ⟨N, ⟨hS1, hS2, hS3⟩, hNv⟩ := shJ M.length (by omega)
 have hpw : 2 ^ M.length ≤ 2 ^ 9 := Nat.pow_le_pow_right (by omega) (by omega)
 obtain ⟨N1, hN1⟩ : ∃ N1 : Int, wrap64 (N - 1) = N1 := ⟨_, rfl⟩
 have hN1v : N1 = ((2 ^ M.length - 1 : Nat) : Int) := by
  have hp0 := Nat.two_pow_pos M.length
  clear hS1 hS2 hS3
  generalize 2 ^ M.length = T at *
  rw [← hN1, hNv, w64_small _ (by omega) (by omega)]
  omega
 obtain ⟨q, hq⟩ : ∃ q : Nat, q = P.getD M.length 0 &&& (2 ^ M.length - 1) := ⟨_, rfl⟩
 have hq2 : Go.bits .and .i64 ((P.getD M.length 0 : Nat) : Int) N1 = (q : Int) := by
  rw [hN1v, b_and _ _ hlt9 (pow9 _ (by omega)).1, hq]
 have hq512 : q < 512 := by rw [hq]; exact Nat.lt_of_le_of_lt Nat.and_le_right (pow9 _ (by omega)).2
 have HQ := Aside0.mk hq
 have hin : ∀ j, j ∈ els q 9 → j < M.length := fun j hj => by
  have := (mem_els.1 hj).2
  rw [HQ.out, Nat.testBit_and, Bool.and_eq_true] at this
  exact (all_bit _ _).1 this.2
 have CND : Aside0 (∀ W, (W.cell? ⟨pB, 0, none⟩ = some (.pointer (some ⟨sB, 0, none⟩)) ∧ W.cell? ⟨sB, 1, none⟩ = some (.slice (some ad) P.length cp) ∧ W.cell? (ad.add M.length) = some (.int .i64 ((P.getD M.length 0 : Nat) : Int)) ∧ Below w9.heap.size w9 W) → Calls Tryd.prog 69 #[.int .i64 (q : Int)] W fun e w' => ∃ A c, e = .returned (.slice A (gi (els q 9)).length c) ∧ Kd.C (Kd.int .i64) w' A (gi (els q 9)).length (gi (els q 9)) ∧ (w'.cell? ⟨pB, 0, none⟩ = some (.pointer (some ⟨sB, 0, none⟩)) ∧ w'.cell? ⟨sB, 1, none⟩ = some (.slice (some ad) P.length cp) ∧ w'.cell? (ad.add M.length) = some (.int .i64 ((P.getD M.length 0 : Nat) : Int)) ∧ Below w9.heap.size w9 w')) := ⟨by
  rintro W ⟨s0, s1, s2, s3⟩
  obtain ⟨K, hK⟩ := nodes_ev q hq512
  refine (minor_nodes.calls K (q : Int) _ W (GL_below HGL.out (below_step HB9.out s3)) (hK K (Nat.le_refl _))).mono ?_
  rintro e w' ⟨u, rfl, hu, hb⟩
  obtain ⟨A, c, eu, hc, hC⟩ := Kd.R_reads hu
  subst eu
  exact ⟨A, c, rfl, hC, (hb.cell (World.block_lt_of_cell? W _ s0)).trans s0, (hb.cell (World.block_lt_of_cell? W _ s1)).trans s1, (hb.cell (World.block_lt_of_cell? W _ s2)).trans s2, below_step s3 hb⟩⟩
 have CCF : Aside0 (∀ W A c, (W.cell? ⟨pB, 0, none⟩ = some (.pointer (some ⟨sB, 0, none⟩)) ∧ W.cell? ⟨sB, 1, none⟩ = some (.slice (some ad) P.length cp) ∧ W.cell? (ad.add M.length) = some (.int .i64 ((P.getD M.length 0 : Nat) : Int)) ∧ Below w9.heap.size w9 W) → Kd.C (Kd.int .i64) W A (gi (els q 9)).length (gi (els q 9)) → Calls Tryd.prog 68 #[.slice A (gi (els q 9)).length c, .func (.func 119) #[] #[.pointer (some ⟨pB, 0, none⟩), .pointer (some ⟨w8.heap.size, 0, none⟩)]] W fun e w' => e = .returned (.bool ((gi (els q 9)).any (fitP M ar))) ∧ (w'.cell? ⟨pB, 0, none⟩ = some (.pointer (some ⟨sB, 0, none⟩)) ∧ w'.cell? ⟨sB, 1, none⟩ = some (.slice (some ad) P.length cp) ∧ w'.cell? (ad.add M.length) = some (.int .i64 ((P.getD M.length 0 : Nat) : Int)) ∧ Below w9.heap.size w9 w')) := ⟨by
  rintro W A c ⟨s0, s1, s2, s3⟩ hC
  refine (contains_fit A c _ (fitP M ar) pB w8.heap.size W hC (by rw [gi_length, els_length]; have := pc_le q 9; omega) ?_).mono ?_
  ·intro V hV x hx
   obtain ⟨j, hj, rfl⟩ := List.mem_map.1 hx
   have hjl := hin j hj
   have hB := below_step HB9.out (below_step s3 hV)
   have h3 := (hB.cell (World.block_lt_of_cell? w _ HH3.out)).trans HH3.out
   have hr := Kd.C_below HRM.out hB
   rw [gi_length] at hr
   have := fit1 pB w8.heap.size sB Am cm (gi M) (j : Int) (ar : Int) (by omega) (by rw [gi_length]; omega) V (by rw [gi_length]; exact hr) ((hV.cell (World.block_lt_of_cell? W _ s0)).trans s0) (((below_step s3 hV).cell (World.block_lt_of_cell? w9 _ ha9)).trans ha9) (by rw [gi_length]; exact h3)
   exact this
  ·rintro e w' ⟨rfl, hb⟩
   exact ⟨rfl, (hb.cell (World.block_lt_of_cell? W _ s0)).trans s0, (hb.cell (World.block_lt_of_cell? W _ s1)).trans s1, (hb.cell (World.block_lt_of_cell? W _ s2)).trans s2, below_step s3 hb⟩⟩
 have HFIN : Aside0 ((!(gi (els q 9)).any (fitP M ar)) = fitB G P M s M.length) := ⟨by
  rw [HQ.out, ← HAD]
  exact fitP_all G P M s (fun x hx => small G hG.most (hM x hx)) (by rw [HAD]; exact hAs)⟩
 have hk0 : (0 ≤ (M.length : Int)) = True := eq_true (by omega)
 have hk1 : ((M.length : Int) < (P.length : Int)) = True := eq_true (by omega)
 have hk2 : decide ((M.length : Int) < (P.length : Int)) = true := decide_eq_true (by omega)
 have hk3 : decide (0 ≤ (M.length : Int)) = true := decide_eq_true (by omega)
 have f0d : w9.drew.cell? ⟨pB, 0, none⟩ = some (.pointer (some ⟨sB, 0, none⟩)) := f0
 have f1d : w9.drew.cell? ⟨sB, 1, none⟩ = some (.slice (some ad) P.length cp) := f1
 have f2d : w9.drew.cell? (ad.add M.length) = some (.int .i64 ((P.getD M.length 0 : Nat) : Int)) := f2
 have fBd : Below w9.heap.size w9 w9.drew := below_drew (Below.refl _ _)
 clear hin hq hNv hpw hN1v hlt9 hq512 HQ hAs hM hG
 generalize (gi (els q 9)) = l at *
 generalize P.getD M.length 0 = pv at *
 refine start_ (n := 16) (S := fun w' => w'.cell? ⟨pB, 0, none⟩ = some (.pointer (some ⟨sB, 0, none⟩)) ∧ w'.cell? ⟨sB, 1, none⟩ = some (.slice (some ad) P.length cp) ∧ w'.cell? (ad.add M.length) = some (.int .i64 (pv : Int)) ∧ Below w9.heap.size w9 w') (ds := []) (Qbz 16 0) (by kernel_rfl) rfl rfl ⟨f0d, f1d, f2d, fBd⟩ (fun hHeld => ?_)
 refine pure_ (i := 4) (N := some 18) (v := ?_) (a' := ?_) (Qbz 16 16) rfl rfl (by kernel_rfl) (fun _ _ _ h => h) (Or.inl ⟨by rfl, ?_⟩) ?_ ?_
 rotate_left
 ·intro w'
  go_simp
  with_reducible rfl
 rotate_left
 ·simp only [Act.put, Qp1, Qp2, Qp3, i64_w, i32_w]
  rfl
 refine pure_ (i := 7) (N := some 21) (v := ?_) (a' := ?_) (Qbz 16 144) rfl rfl (by kernel_rfl) (fun _ _ _ h => h) (Or.inl ⟨by rfl, ?_⟩) ?_ ?_
 rotate_left
 ·intro w'
  go_simp
  with_reducible rfl
 rotate_left
 ·simp only [Act.put, Qp1, Qp2, Qp3, i64_w, i32_w]
  rfl
 refine pure_ (i := 8) (N := some 22) (v := ?_) (a' := ?_) (Qbz 16 400) rfl rfl (by kernel_rfl) (fun _ _ _ h => h) (Or.inl ⟨by rfl, ?_⟩) ?_ ?_
 rotate_left
 ·intro w'
  go_simp
  with_reducible rfl
 rotate_left
 ·simp only [Act.put, Qp1, Qp2, Qp3, i64_w, i32_w]
  rfl
 refine pure_ (i := 9) (N := some 23) (v := ?_) (a' := ?_) (Qbz 16 912) rfl rfl (by kernel_rfl) (fun _ _ _ h => h) (Or.inl ⟨by rfl, ?_⟩) ?_ ?_
 rotate_left
 ·intro w'
  go_simp
  with_reducible rfl
 rotate_left
 ·simp only [Act.put, Qp1, Qp2, Qp3, i64_w, i32_w]
  rfl
 refine pure_ (i := 12) (N := some 26) (v := ?_) (a' := ?_) (Qbz 16 5008) rfl rfl (by kernel_rfl) (fun _ _ _ h => h) (Or.inl ⟨by rfl, ?_⟩) ?_ ?_
 rotate_left
 ·intro w'
  go_simp
  with_reducible rfl
 rotate_left
 ·simp only [Act.put, Qp1, Qp2, Qp3, i64_w, i32_w]
  rfl
 refine take_ (i := 0) (N := some 14) (v := ?_) (a' := ?_) (Qbz 16 5009) rfl rfl (by kernel_rfl) (fun _ _ _ h => h) (Or.inl ⟨by rfl, ?_⟩) hHeld ?_ ?_
 rotate_left
 ·rintro w' ⟨s0, s1, s2, s3⟩
  go_simp
  with_reducible rfl
 rotate_left
 ·simp only [Act.put, Qp1, Qp2, Qp3, i64_w, i32_w]
  rfl
 refine pure_ (i := 1) (N := some 15) (v := ?_) (a' := ?_) (Qbz 16 5011) rfl rfl (by kernel_rfl) (fun _ _ _ h => h) (Or.inl ⟨by rfl, ?_⟩) ?_ ?_
 rotate_left
 ·intro w'
  go_simp
  with_reducible rfl
 rotate_left
 ·simp only [Act.put, Qp1, Qp2, Qp3, i64_w, i32_w]
  rfl
 refine pure_ (i := 2) (N := some 16) (v := ?_) (a' := ?_) (Qbz 16 5015) rfl rfl (by kernel_rfl) (fun _ _ _ h => h) (Or.inl ⟨by rfl, ?_⟩) ?_ ?_
 rotate_left
 ·intro w'
  go_simp
  with_reducible rfl
 rotate_left
 ·simp only [Act.put, Qp1, Qp2, Qp3, i64_w, i32_w]
  rfl
 refine take_ (i := 3) (N := some 17) (v := ?_) (a' := ?_) (Qbz 16 5023) rfl rfl (by kernel_rfl) (fun _ _ _ h => h) (Or.inl ⟨by rfl, ?_⟩) hHeld ?_ ?_
 rotate_left
 ·rintro w' ⟨s0, s1, s2, s3⟩
  go_simp
  with_reducible rfl
 rotate_left
 ·simp only [Act.put, Qp1, Qp2, Qp3, i64_w, i32_w]
  rfl
 refine pure_ (i := 5) (N := some 19) (v := ?_) (a' := ?_) (Qbz 16 5055) rfl rfl (by kernel_rfl) (fun _ _ _ h => h) (Or.inl ⟨by rfl, ?_⟩) ?_ ?_
 rotate_left
 ·intro w'
  go_simp
  with_reducible rfl
 rotate_left
 ·simp only [Act.put, Qp1, Qp2, Qp3, i64_w, i32_w]
  rfl
 refine take_ (i := 6) (N := some 20) (v := ?_) (a' := ?_) (Qbz 16 5119) rfl rfl (by kernel_rfl) (fun _ _ _ h => h) (Or.inl ⟨by rfl, ?_⟩) hHeld ?_ ?_
 rotate_left
 ·rintro w' ⟨s0, s1, s2, s3⟩
  go_simp
  with_reducible rfl
 rotate_left
 ·simp only [Act.put, Qp1, Qp2, Qp3, i64_w, i32_w]
  rfl
 refine pure_ (i := 10) (N := some 24) (v := ?_) (a' := ?_) (Qbz 16 6143) rfl rfl (by kernel_rfl) (fun _ _ _ h => h) (Or.inl ⟨by rfl, ?_⟩) ?_ ?_
 rotate_left
 ·intro w'
  go_simp
  with_reducible rfl
 rotate_left
 ·simp only [Act.put, Qp1, Qp2, Qp3, i64_w, i32_w]
  rfl
 refine one_ (i := 11) (N := some 25) (Qbz 16 8191) rfl rfl (by kernel_rfl) (by decide) (fun K hK => ?_)
 refine goes_ Tryd.func69 (by kernel_rfl) rfl #[.int .i64 (q : Int)] (by rfl) rfl rfl (by simp only [List.map_toArray, List.map_cons, List.map_nil]; rfl) ?_
 with_reducible refine (CND.out _ hHeld).mono ?_
 rintro e w10 ⟨A5, c5, rfl, hC5, g0, g1, g2, gB⟩
 refine ⟨_, rfl, ?_⟩
 refine hK.out _ _ ⟨g0, g1, g2, gB⟩ (fun hHeld => ?_)
 clear hK K
 refine norm_ (a' := ?_) ?_ ?_
 rotate_left
 ·show Act.put _ (some 25) _ = _
  simp only [Act.put, Qp1, Qp2, Qp3, i64_w, i32_w]
  rfl
 refine one_ (i := 13) (N := some 27) (Qbz 16 16383) rfl rfl (by kernel_rfl) (by decide) (fun K hK => ?_)
 refine goes_ Tryd.func68 (by kernel_rfl) rfl #[.slice A5 l.length c5, .func (.func 119) #[] #[.pointer (some ⟨pB, 0, none⟩), .pointer (some ⟨w8.heap.size, 0, none⟩)]] (by rfl) rfl rfl (by simp only [List.map_toArray, List.map_cons, List.map_nil]; rfl) ?_
 with_reducible refine (CCF.out _ _ _ hHeld hC5).mono ?_
 rintro e w11 ⟨rfl, k0, k1, k2, kB⟩
 refine ⟨_, rfl, ?_⟩
 refine hK.out _ _ ⟨k0, k1, k2, kB⟩ (fun hHeld => ?_)
 clear hK K
 refine norm_ (a' := ?_) ?_ ?_
 rotate_left
 ·show Act.put _ (some 27) _ = _
  simp only [Act.put, Qp1, Qp2, Qp3, i64_w, i32_w]
  rfl
 refine pure_ (i := 14) (N := some 28) (v := ?_) (a' := ?_) (Qbz 16 32767) rfl rfl (by kernel_rfl) (fun _ _ _ h => h) (Or.inl ⟨by rfl, ?_⟩) ?_ ?_
 rotate_left
 ·intro w'
  go_simp
  with_reducible rfl
 rotate_left
 ·simp only [Act.put, Qp1, Qp2, Qp3, i64_w, i32_w]
  rfl
 refine pure_ (i := 15) (N := some 6) (v := ?_) (a' := ?_) (Qbz 16 65535) rfl rfl (by kernel_rfl) (fun _ _ _ h => h) (Or.inl ⟨by rfl, ?_⟩) ?_ ?_
 rotate_left
 ·intro w'
  go_simp
  with_reducible rfl
 rotate_left
 ·simp only [Act.put, Qp1, Qp2, Qp3, i64_w, i32_w]
  rfl
 refine done_ (by kernel_rfl) ?_
 go_wp2
 go_ret
 exact ⟨by rw [← HFIN.out]; rfl, below_step HB9.out hHeld.2.2.2⟩
end Go.Proofs.YtjloppfdagfpmaaDoor.X
end
section
/- What a call that appends to a row within a struct keeps: small laws for worlds. -/
namespace Go.Proofs.YtjloppfdagfpmaaDoor.X
open Go.RowKit YtjloppfdagfpmaaDoorW.PrintWords YtjloppfdagfpmaaDoorW.PrintLast YtjloppfdagfpmaaDoorW.PrintMore
theorem own_lt2 {W : World} {base : Nat} {e : TypeId} {size : Nat} {v : Value} {k : Nat} {xs : List Value} (h : W.ownsRow base e size v k xs) (b : Nat) (hb : v.ownBlock = some b) : b < W.heap.size := by
 rcases h.2 with ⟨rfl, _⟩ | ⟨g, cap, cur, rfl, _, hg, _⟩
 ·simp [Value.ownBlock] at hb
 ·obtain rfl : g = b := by simpa [Value.ownBlock] using hb
  exact (Array.getElem?_eq_some_iff.1 hg).1
theorem own_base2 {W : World} {base : Nat} {e : TypeId} {size : Nat} {v : Value} {k : Nat} {xs : List Value} (h : W.ownsRow base e size v k xs) (b : Nat) (hb : v.ownBlock = some b) : base ≤ b := by
 rcases h.2 with ⟨rfl, _⟩ | ⟨g, cap, cur, rfl, hg, _⟩
 ·simp [Value.ownBlock] at hb
 ·obtain rfl : g = b := by simpa [Value.ownBlock] using hb
  exact hg
theorem own_kept {W V : World} {row : Option Nat} {base : Nat} {e : TypeId} {size : Nat} {v : Value} {k : Nat} {xs : List Value} (h : W.ownsRow base e size v k xs) (hg : W.grownBy V row) (hne : ∀ b, v.ownBlock = some b → some b ≠ row) : V.ownsRow base e size v k xs := by
 refine h.kept hg ?_
 rcases h.2 with ⟨rfl, _⟩ | ⟨g, cap, cur, rfl, _, _, _⟩
 ·exact .inl rfl
 ·exact .inr fun e' => hne g rfl e'
theorem grownBy_set (W : World) (a : Addr) (v : Value) : W.grownBy (W.setCell a v) (some a.block) :=
 ⟨rfl, rfl, rfl, (by simp [World.setCell]), fun k _ hk => Below.heap_setCell _ _ _ k (fun e => hk (by rw [e]))⟩
theorem own_ne_t {W : World} {base g : Nat} {e t : TypeId} {size : Nat} {v : Value} {k : Nat} {xs : List Value} {cs : Array Value} {fz : Nat × Nat} (h : W.ownsRow base e size v k xs) (hb : W.heap[g]? = some (.cells cs t fz)) (hne : e ≠ t) : some g ≠ v.ownBlock := by
 rcases h.2 with ⟨rfl, _⟩ | ⟨g2, cap, cur, rfl, _, hg, _⟩
 ·simp [Value.ownBlock]
 ·intro e2
  obtain rfl : g = g2 := by simpa [Value.ownBlock] using e2
  rw [hg] at hb
  injection hb with hb
  injection hb with _ h2
  exact hne h2
theorem ownsRow_form2 {W : World} {base : Nat} {e : TypeId} {size : Nat} {v : Value} {k : Nat} {xs : List Value} (h : W.ownsRow base e size v k xs) : ∃ A cap, v = .slice A k cap := by
 rcases h.2 with ⟨rfl, rfl⟩ | ⟨g, cap, cur, rfl, _⟩
 ·exact ⟨none, 0, rfl⟩
 ·exact ⟨_, cap, rfl⟩
theorem own_succ {W : World} {base : Nat} {e : TypeId} {size : Nat} {v : Value} {k : Nat} {xs : List Value} (h : W.ownsRow base e size v (k + 1) xs) : ∃ g cap, v = .slice (some ⟨g, 0, none⟩) (k + 1) cap := by
 rcases h.2 with ⟨_, h0⟩ | ⟨g, cap, cur, rfl, _⟩
 ·omega
 ·exact ⟨g, cap, rfl⟩
theorem C_of_row {W : World} {base : Nat} {A : Option Addr} {cap : Nat} {l : List Int} (h : W.ownsRow base 3 1 (.slice A l.length cap) l.length (l.map (Value.int .i64))) : l.length ≤ cap ∧ Kd.C (Kd.int .i64) W A l.length l :=
 (Kd.R_reads' (Kd.R_of_own (ok := fun _ => True) h (fun _ _ => trivial))).2
theorem grown_new {a b c : World} {r q : Option Nat} (h : a.grownBy b r) (k : b.grownBy c q) (hq : ∀ j, q = some j → a.heap.size ≤ j ∨ some j = r) : a.grownBy c r :=
 ⟨k.os.trans h.os, k.tape.trans h.tape, k.output.trans h.output, Nat.le_trans h.size k.size, fun i hi hne => (k.block i (Nat.lt_of_lt_of_le hi h.size) (fun e => (hq i e.symm).elim (fun h => by omega) hne)).trans (h.block i hi hne)⟩
end Go.Proofs.YtjloppfdagfpmaaDoor.X
end
section
/- (*minor.search).grow, by hand. -/
namespace Go.Proofs.YtjloppfdagfpmaaDoor.X
open Go.RowKit YtjloppfdagfpmaaDoorW.PrintWords YtjloppfdagfpmaaDoorW.PrintLast YtjloppfdagfpmaaDoorW.PrintMore YtjloppfdagfpmaaDoor.T
attribute [local go_sem] max2_int min2_int max_two min_two max_three min_three max_four min_four
structure SI (W0 W : World) (sB : Nat) (vT vP vS : Value) (M : List Nat) (v : Value) : Prop where
 blk : W.heap[sB]? = some (.cells #[vT, vP, vS, v] 115 (0, 0))
 own : W.ownsRow W0.heap.size 3 1 v M.length ((gi M).map (Value.int .i64))
 grown : W0.grownBy W (some sB)
theorem SI.low {W0 W V : World} {sB : Nat} {vT vP vS : Value} {M : List Nat} {v : Value} (h : SI W0 W sB vT vP vS M v) (hb : Below W.heap.size W V) : SI W0 V sB vT vP vS M v :=
 ⟨blk_below h.blk hb, own_kept h.own (grown_of_below hb none) (fun _ _ e => by cases e), grown_new h.grown (grown_of_below hb none) (fun _ e => by cases e)⟩
theorem SI.cell {W0 W : World} {sB : Nat} {vT vP vS : Value} {M : List Nat} {v : Value} (h : SI W0 W sB vT vP vS M v) (j : Nat) : W.cell? ⟨sB, j, none⟩ = #[vT, vP, vS, v][j]? := blk_cell h.blk j
theorem SI.push {W0 W w8 : World} {sB x : Nat} {vT vP vS : Value} {M : List Nat} {v : Value} {o : Obj} {g c : Nat} (h : SI W0 W sB vT vP vS M v) (hsB : sB < W0.heap.size) (hg : (W.alloc o).grownBy w8 v.ownBlock)
  (ho : w8.ownsRow W0.heap.size 3 1 (.slice (some ⟨g, 0, none⟩) (M.length + 1) c) (M.length + 1) ((gi M).map (Value.int .i64) ++ [.int .i64 (x : Int)])) :
  SI W0 (w8.setCell ⟨sB, 3, none⟩ (.slice (some ⟨g, 0, none⟩) (M.length + 1) c)) sB vT vP vS (M ++ [x]) (.slice (some ⟨g, 0, none⟩) (M.length + 1) c) := by
 have h1 := h.grown.size
 have hne : some sB ≠ v.ownBlock := fun e => by have := own_base2 h.own sB e.symm; omega
 have hb8 := blk_grown (blk_alloc h.blk o) hg hne
 refine ⟨?_, ?_, ?_⟩
 ·have := blk_set hb8 3 (.slice (some ⟨g, 0, none⟩) (M.length + 1) c)
  rw [this]
  rfl
 ·have e : (M ++ [x]).length = M.length + 1 := by simp
  rw [e, show (gi (M ++ [x])).map (Value.int .i64) = (gi M).map (Value.int .i64) ++ [.int .i64 (x : Int)] by simp [gi]]
  exact own_kept ho (grownBy_set w8 ⟨sB, 3, none⟩ _) (fun b hb e => by
   have := own_base2 ho b hb
   have e2 : b = sB := Option.some.inj e
   omega)
 ·refine grown_new (grown_new (grown_new h.grown (World.grownBy_alloc W o none) (fun _ e => by cases e)) hg (fun j e => .inl (own_base2 h.own j e))) (grownBy_set w8 ⟨sB, 3, none⟩ _) (fun j e => .inr e.symm)
theorem SI.pop {W0 W : World} {sB x : Nat} {vT vP vS : Value} {M : List Nat} {g n c : Nat} (h : SI W0 W sB vT vP vS (M ++ [x]) (.slice (some ⟨g, 0, none⟩) n c)) (hsB : sB < W0.heap.size) (hn : n = M.length + 1) :
  SI W0 (W.setCell ⟨sB, 3, none⟩ (.slice (some ⟨g, 0, none⟩) M.length c)) sB vT vP vS M (.slice (some ⟨g, 0, none⟩) M.length c) := by
 subst hn
 refine ⟨?_, ?_, ?_⟩
 ·have := blk_set h.blk 3 (.slice (some ⟨g, 0, none⟩) M.length c)
  rw [this]
  rfl
 ·have h2 := h.own
  rw [show (M ++ [x]).length = M.length + 1 by simp, show (gi (M ++ [x])).map (Value.int .i64) = (gi M).map (Value.int .i64) ++ [.int .i64 (x : Int)] by simp [gi]] at h2
  have h3 := ownsRow_pop (xs := (gi M).map (Value.int .i64)) (by simp [gi]) h2
  exact own_kept h3 (grownBy_set W ⟨sB, 3, none⟩ _) (fun b hb e => by
   have := own_base2 h3 b hb
   have e2 : b = sB := Option.some.inj e
   omega)
 ·exact grown_new h.grown (grownBy_set W ⟨sB, 3, none⟩ _) (fun j e => .inr e.symm)
theorem SI.cap {W0 W : World} {sB x : Nat} {vT vP vS : Value} {M : List Nat} {v : Value} (h : SI W0 W sB vT vP vS (M ++ [x]) v) : ∃ g c, v = .slice (some ⟨g, 0, none⟩) (M.length + 1) c ∧ M.length + 1 ≤ c := by
 have h2 := h.own
 rw [show (M ++ [x]).length = M.length + 1 by simp] at h2
 rcases h2.2 with ⟨_, h0⟩ | ⟨g, cap, cur, e, _, _, hc, _⟩
 ·omega
 ·exact ⟨g, cap, e, hc⟩
set_option maxHeartbeats 16000000 in
set_option maxRecDepth 100000 in
theorem grow_z (sB : Nat) (W0 : World) (hsB : sB < W0.heap.size) (Ag : Option Addr) (cg : Nat) (G : List Nat) (hG : Gr 9 G) (hcg : G.length ≤ cg) (Ap : Option Addr) (cp : Nat) (P : List Nat) (hPl : P.length ≤ 9) (hP : ∀ x ∈ P, x < 512) (As : Option Addr) (cs : Nat) (sets : List Nat) (hSl : sets.length ≤ 512) (hS : ∀ x ∈ sets, x < 2 ^ G.length)
  (hlow : ∀ W, W0.grownBy W (some sB) → GL W ∧ Kd.C (Kd.int .i64) W Ag (gi G).length (gi G) ∧ Kd.C (Kd.int .i64) W Ap (gi P).length (gi P) ∧ Kd.C (Kd.int .i64) W As (gi sets).length (gi sets))
  (d : Nat) (hd0 : d = 0) (ih : ∀ (M : List Nat) (used left : Nat) (v : Value) (w : World), M.length + d = P.length → (∀ x ∈ M, x < 2 ^ G.length) → used < 512 → left ≤ 9 → SI W0 w sB (.slice Ag G.length cg) (.slice Ap P.length cp) (.slice As sets.length cs) M v →
  Calls Tryd.prog 92 #[.pointer (some ⟨sB, 0, none⟩), .int .i64 (used : Int), .int .i64 (left : Int)] w fun e w' => e = .returned (.bool (growN G P sets d M used left).isSome) ∧ ∃ v', SI W0 w' sB (.slice Ag G.length cg) (.slice Ap P.length cp) (.slice As sets.length cs) ((growN G P sets d M used left).getD M) v') :
  ∀ (M : List Nat) (used left : Nat) (v : Value) (w : World), M.length + (d + 1) = P.length → (∀ x ∈ M, x < 2 ^ G.length) → used < 512 → left ≤ 9 → SI W0 w sB (.slice Ag G.length cg) (.slice Ap P.length cp) (.slice As sets.length cs) M v →
  Calls Tryd.prog 92 #[.pointer (some ⟨sB, 0, none⟩), .int .i64 (used : Int), .int .i64 (left : Int)] w fun e w' => e = .returned (.bool (growN G P sets (d + 1) M used left).isSome) ∧ ∃ v', SI W0 w' sB (.slice Ag G.length cg) (.slice Ap P.length cp) (.slice As sets.length cs) ((growN G P sets (d + 1) M used left).getD M) v' := by
 intro M used left v w hd hM hu hl hI
 have IH := Aside0.mk ih
 have HI := Aside0.mk hI
 have HLOW := Aside0.mk hlow
 have HM := Aside0.mk hM
 have HS := Aside0.mk hS
 have HG := Aside0.mk hG
 have HP := Aside0.mk hP
 obtain ⟨A3, c3, rfl⟩ := ownsRow_form2 hI.own
 have hz1 : w.cell? ⟨sB, 1, none⟩ = some (.slice Ap P.length cp) := (hI.cell 1).trans rfl
 have hz2 : w.cell? ⟨sB, 2, none⟩ = some (.slice As sets.length cs) := (hI.cell 2).trans rfl
 have hz3 : w.cell? ⟨sB, 3, none⟩ = some (.slice A3 M.length c3) := (hI.cell 3).trans rfl
 have hk1 : ((M.length : Int) == (P.length : Int)) = false := beq_eq_false_iff_ne.2 (by omega)
 obtain ⟨R, hR⟩ : ∃ R, growN G P sets (d + 1) M used left = R := ⟨_, rfl⟩
 obtain ⟨F, hF⟩ : ∃ F : Nat → Option (List Nat), F = fun s => if okB G P M used left d s then growN G P sets d (M ++ [s]) (used ||| s) (left - pc s 9) else none := ⟨_, rfl⟩
 have hRF : (sets.drop 0).findSome? F = R := by rw [← hR, hF]; rfl
 have HFE : Aside0 (∀ s, F s = if okB G P M used left d s then growN G P sets d (M ++ [s]) (used ||| s) (left - pc s 9) else none) := ⟨fun s => by rw [hF]⟩
 have HRF := Aside0.mk hRF
 rw [hR]
 clear hI hlow hM hS hP hG hF hRF hR ih
 go_enter Tryd.func92, Tryd.ntmps92
 go_wp2
 rw [show (P.length : Int) - (M.length : Int) - 1 = 0 by omega]
 go_loopg [36] sets.length (fun kq v36 w' => ∃ (i : Nat) (v1 : Value), v36 = .int .i64 (i : Int) ∧ i + kq = sets.length ∧ Aside0 ((sets.drop i).findSome? F = R) ∧ Aside0 (SI W0 w' sB (.slice Ag G.length cg) (.slice Ap P.length cp) (.slice As sets.length cs) M v1))
 case atStart => exact ⟨0, _, rfl, by omega, HRF, HI⟩
 case round =>
  clear HRF
  obtain ⟨i, v1, rfl, hi, HA, HX⟩ := hrel
  by_cases hil : i < sets.length
  ·have hi1 : ((i : Int) < (sets.length : Int)) = True := eq_true (by omega)
   have hi2 : decide ((i : Int) < (sets.length : Int)) = true := decide_eq_true (by omega)
   cases gk with
   | zero => omega
   | succ gi' =>
   obtain ⟨ad, e1, hgx⟩ := Kd.at_int (HLOW.out wr HX.out.grown).2.2.2 (i : Int) (by omega) (by rw [gi_length]; omega)
   subst e1
   rw [rd_gi, Int.toNat_natCast] at hgx
   have ha := HA.out
   rw [List.drop_eq_getElem_cons hil, List.findSome?_cons] at ha
   have hxm : sets[i] ∈ sets := List.getElem_mem hil
   have hxe : sets.getD i 0 = sets[i] := by rw [List.getD_eq_getElem?_getD, List.getElem?_eq_getElem hil]; rfl
   rw [hxe] at hgx
   have hxl := HS.out _ hxm
   generalize sets[i] = x at *
   have hx5 := small G HG.out.most hxl
   rw [HFE.out x] at ha
   have hgxd : ∀ m, (wr.drewN m).cell? (ad.add i) = some (.int .i64 (x : Int)) := fun m => hgx
   obtain ⟨A4, c4, e4⟩ := ownsRow_form2 HX.out.own
   subst e4
   have hy1 : wr.cell? ⟨sB, 1, none⟩ = some (.slice Ap P.length cp) := (HX.out.cell 1).trans rfl
   have hy3 : wr.cell? ⟨sB, 3, none⟩ = some (.slice A4 M.length c4) := (HX.out.cell 3).trans rfl
   have HCN := Aside0.mk (count_eq x hx5)
   have han : Go.bits .and .i64 (x : Int) (used : Int) = ((x &&& used : Nat) : Int) := b_and _ _ (by omega) (by omega)
   have hor : Go.bits .or .i64 (x : Int) (used : Int) = ((x ||| used : Nat) : Int) := b_or _ _ (by omega) (by omega)
   have hor2 : Go.bits .or .i64 (used : Int) (x : Int) = ((used ||| x : Nat) : Int) := b_or _ _ (by omega) (by omega)
   have horl : used ||| x < 512 := Nat.or_lt_two_pow (n := 9) (by omega) (by omega)
   have HFIT : Aside0 (∀ W, Below wr.heap.size wr W → Calls Tryd.prog 110 #[.pointer (some ⟨sB, 0, none⟩), .int .i64 (x : Int), .int .i64 (M.length : Int)] W fun e w' => e = .returned (.bool (fitB G P M x M.length)) ∧ Below W.heap.size W w') := ⟨fun W hW => by
    have hX := HX.out.low hW
    obtain ⟨q1, q2, q3, q4⟩ := HLOW.out W hX.grown
    have hro := hX.own
    have hlen : M.length = (gi M).length := (gi_length M).symm
    rw [hlen] at hro
    have hC := (C_of_row hro).2
    rw [gi_length] at hC
    exact fits_calls sB Ag cg G HG.out hcg Ap cp P A4 c4 M x hxl (by omega) hPl HP.out HM.out W q1 ((hX.cell 0).trans rfl) ((hX.cell 1).trans rfl) ((hX.cell 3).trans rfl) q2 q3 (by rw [gi_length]; exact hC)⟩
   have HOK : Aside0 (okB G P M used left d x = (decide (x &&& used = 0) && decide (pc x 9 + d ≤ left) && !(decide (d = 0) && decide (pc x 9 ≠ left)) && fitB G P M x M.length)) := ⟨rfl⟩
   have hpc := pc_le x 9
   have HXL := Aside0.mk hxl
   have HAH := Aside0.mk ha
   clear ha hxm hxe hxl HA
   by_cases ha0 : x &&& used = 0
   ·have ht1 : ((((x &&& used : Nat) : Int)) != 0) = false := by rw [ha0]; rfl
    by_cases hp1 : pc x 9 + d ≤ left
    ·have ht2 : decide ((left : Int) - (d : Int) < (pc x 9 : Int)) = false := decide_eq_false (by omega)
     by_cases hd3 : d = 0 ∧ pc x 9 ≠ left
     ·have ht3 : (((d : Nat) : Int) == 0) = true := beq_iff_eq.2 (by omega)
      have HA2 : Aside0 ((sets.drop (i + 1)).findSome? F = R) := ⟨by
       have := HAH.out
       rw [HOK.out, decide_eq_true hd3.1, decide_eq_true hd3.2] at this
       simpa using this⟩
      obtain ⟨hd31, hd32⟩ := hd3
      clear ha0
      go_wp2_with (go_at_call 109; refine (minor_count.calls _ _ _ HCN.out).mono ?_; rintro e w3 ⟨rfl, m, rfl⟩)
      go_roundg gi'
      case measure => omega
      case rel => exact ⟨i + 1, _, by go_num, by omega, HA2, ⟨HX.out.low (by repeat (first | exact Below.refl _ _ | refine pw_below_drewN ?_ _))⟩⟩
     ·have hd4 : d = 0 → pc x 9 = left := fun h => Classical.byContradiction fun h2 => hd3 ⟨h, h2⟩
      clear hd3
      cases hfb : fitB G P M x M.length
      ·rw [hfb] at HFIT
       have HA2 : Aside0 ((sets.drop (i + 1)).findSome? F = R) := ⟨by
        have := HAH.out
        rw [HOK.out, hfb] at this
        simpa using this⟩
       clear ha0 hfb HFE HOK HAH IH HLOW HM HS HG HP
       go_wp2_with (first
        | (go_at_call 109; refine (minor_count.calls _ _ _ HCN.out).mono ?_; rintro e w3 ⟨rfl, m, rfl⟩)
        | (go_at_call 110; refine (HFIT.out _ (pw_below_drewN (Below.refl _ _) _)).mono ?_; rintro e w3 ⟨rfl, hb⟩; have HB3 : Aside0 (Below wr.heap.size wr w3) := ⟨below_step (pw_below_drewN (Below.refl _ _) _) hb⟩; have HX3 := Aside0.mk (HX.out.low HB3.out); clear hb; have hc3 : w3.cell? ⟨sB, 3, none⟩ = some (.slice A4 M.length c4) := (HX3.out.cell 3).trans rfl))
       go_roundg gi'
       case measure => omega
       case rel => exact ⟨i + 1, _, by go_num, by omega, HA2, HX3⟩
      ·rw [hfb] at HFIT
       have hok : okB G P M used left d x = true := by
        rw [HOK.out, hfb, decide_eq_true ha0, decide_eq_true hp1]
        by_cases h0 : d = 0
        ·rw [hd4 h0]; simp
        ·simp [h0]
       have hFx : F x = growN G P sets d (M ++ [x]) (used ||| x) (left - pc x 9) := by rw [HFE.out x, if_pos hok]
       have ha2 := HAH.out
       rw [← HFE.out x] at ha2
       have HREC : Aside0 (∀ W v (a : Int), a = (left : Int) - (pc x 9 : Int) → SI W0 W sB (.slice Ag G.length cg) (.slice Ap P.length cp) (.slice (some ad) sets.length cs) (M ++ [x]) v → Calls Tryd.prog 92 #[.pointer (some ⟨sB, 0, none⟩), .int .i64 ((used ||| x : Nat) : Int), .int .i64 a] W fun e w' => e = .returned (.bool (F x).isSome) ∧ ∃ v', SI W0 w' sB (.slice Ag G.length cg) (.slice Ap P.length cp) (.slice (some ad) sets.length cs) ((F x).getD (M ++ [x])) v') := ⟨fun W v a ea hV => by
        rw [hFx, ea, show ((left : Int) - (pc x 9 : Int)) = ((left - pc x 9 : Nat) : Int) by omega]
        refine IH.out (M ++ [x]) (used ||| x) (left - pc x 9) v W (by simp; omega) (fun y hy => ?_) horl (by omega) hV
        rcases List.mem_append.1 hy with hy | hy
        ·exact HM.out y hy
        ·rw [List.mem_singleton.1 hy]; exact HXL.out⟩
       clear hFx hok ha0 hfb horl hor HFE HOK HAH IH HLOW HM HS HG HP
       obtain ⟨i3, hi3, hq0, hq1, hq2⟩ := info_parts info3
       cases hfx : F x with
       | none =>
        rw [hfx] at HREC ha2
        have HA2 : Aside0 ((sets.drop (i + 1)).findSome? F = R) := ⟨ha2⟩
        clear ha2 hfx
        go_wp2_with (first
         | (go_at_call 109; refine (minor_count.calls _ _ _ HCN.out).mono ?_; rintro e w3 ⟨rfl, m, rfl⟩)
         | (go_at_call 110; refine (HFIT.out _ (pw_below_drewN (Below.refl _ _) _)).mono ?_; rintro e w3 ⟨rfl, hb⟩; have HB3 : Aside0 (Below wr.heap.size wr w3) := ⟨below_step (pw_below_drewN (Below.refl _ _) _) hb⟩; have HX3 := Aside0.mk (HX.out.low HB3.out); clear hb; have hc3 : w3.cell? ⟨sB, 3, none⟩ = some (.slice A4 M.length c4) := (HX3.out.cell 3).trans rfl)
         | (at_builtin; refine wpList_append_own_at _ rfl _ _ 22 rfl W0.heap.size 3 i3 (.int .i64 0) 1 8 Tryd.underlying22 hi3 hq0 hq1 hq2 rfl (by decide) (.slice A4 M.length c4) M.length ((gi M).map (Value.int .i64)) rfl (HX3.out.own.alloc _) ⟨w3.heap.size, 0, none⟩ 1 1 [.int .i64 (x : Int)] rfl rfl (cell_one_new _ _ _) (by simp [Value.oneCell']) (by unfold maxLen; omega) (by omega) (by have := HX3.out.grown.size; simp; omega) ?_; intro v8 w8 hown8 hg8 _ _; obtain ⟨g8, cap8, rfl⟩ := own_succ hown8; have hne8 : some sB ≠ (Value.slice A4 M.length c4).ownBlock := (fun e => by have := own_base2 HX3.out.own sB e.symm; omega); have hb8 := blk_grown (blk_alloc HX3.out.blk _) hg8 hne8; have hc8 : w8.cell? ⟨sB, 3, none⟩ = some (.slice A4 M.length c4) := (blk_cell hb8 3).trans rfl; have hf8 := blk_frozen hb8 3; have HX8 := Aside0.mk (HX3.out.push hsB hg8 hown8); clear hb8 hown8 hg8)
         | (go_at_call 92; refine (HREC.out _ _ _ (by omega) (HX8.out.low (pw_below_drewN (Below.refl _ _) _))).mono ?_; rintro e w9 ⟨rfl, v9, hS9⟩; obtain ⟨g9, c9, rfl, hcap9⟩ := hS9.cap; have hl9 : w9.cell? ⟨sB, 3, none⟩ = some (.slice (some ⟨g9, 0, none⟩) (M.length + 1) c9) := (hS9.cell 3).trans rfl; have hf9 := blk_frozen hS9.blk 3; have HS9 := Aside0.mk hS9; clear hS9; have hkc1 : decide ((M.length : Int) ≤ (c9 : Int)) = true := decide_eq_true (by omega); have hkc2 : ((M.length : Int) ≤ (c9 : Int)) = True := eq_true (by omega)))
        go_roundg gi'
        case measure => omega
        case rel => exact ⟨i + 1, _, by go_num, by omega, HA2, ⟨HS9.out.pop hsB rfl⟩⟩
       | some Rr =>
        rw [hfx] at HREC ha2
        have hr2 : R = some Rr := ha2.symm
        subst hr2
        clear ha2 hfx
        go_wp2_with (first
         | (go_at_call 109; refine (minor_count.calls _ _ _ HCN.out).mono ?_; rintro e w3 ⟨rfl, m, rfl⟩)
         | (go_at_call 110; refine (HFIT.out _ (pw_below_drewN (Below.refl _ _) _)).mono ?_; rintro e w3 ⟨rfl, hb⟩; have HB3 : Aside0 (Below wr.heap.size wr w3) := ⟨below_step (pw_below_drewN (Below.refl _ _) _) hb⟩; have HX3 := Aside0.mk (HX.out.low HB3.out); clear hb; have hc3 : w3.cell? ⟨sB, 3, none⟩ = some (.slice A4 M.length c4) := (HX3.out.cell 3).trans rfl)
         | (at_builtin; refine wpList_append_own_at _ rfl _ _ 22 rfl W0.heap.size 3 i3 (.int .i64 0) 1 8 Tryd.underlying22 hi3 hq0 hq1 hq2 rfl (by decide) (.slice A4 M.length c4) M.length ((gi M).map (Value.int .i64)) rfl (HX3.out.own.alloc _) ⟨w3.heap.size, 0, none⟩ 1 1 [.int .i64 (x : Int)] rfl rfl (cell_one_new _ _ _) (by simp [Value.oneCell']) (by unfold maxLen; omega) (by omega) (by have := HX3.out.grown.size; simp; omega) ?_; intro v8 w8 hown8 hg8 _ _; obtain ⟨g8, cap8, rfl⟩ := own_succ hown8; have hne8 : some sB ≠ (Value.slice A4 M.length c4).ownBlock := (fun e => by have := own_base2 HX3.out.own sB e.symm; omega); have hb8 := blk_grown (blk_alloc HX3.out.blk _) hg8 hne8; have hc8 : w8.cell? ⟨sB, 3, none⟩ = some (.slice A4 M.length c4) := (blk_cell hb8 3).trans rfl; have hf8 := blk_frozen hb8 3; have HX8 := Aside0.mk (HX3.out.push hsB hg8 hown8); clear hb8 hown8 hg8)
         | (go_at_call 92; refine (HREC.out _ _ _ (by omega) (HX8.out.low (pw_below_drewN (Below.refl _ _) _))).mono ?_; rintro e w9 ⟨rfl, v9, hS9⟩))
        go_ret
        exact ⟨rfl, _, hS9⟩
    ·have ht2 : decide ((left : Int) - (d : Int) < (pc x 9 : Int)) = true := decide_eq_true (by omega)
     have HA2 : Aside0 ((sets.drop (i + 1)).findSome? F = R) := ⟨by
      have := HAH.out
      rw [HOK.out, decide_eq_false hp1] at this
      simpa using this⟩
     clear ha0
     go_wp2_with (go_at_call 109; refine (minor_count.calls _ _ _ HCN.out).mono ?_; rintro e w3 ⟨rfl, m, rfl⟩)
     go_roundg gi'
     case measure => omega
     case rel => exact ⟨i + 1, _, by go_num, by omega, HA2, ⟨HX.out.low (by repeat (first | exact Below.refl _ _ | refine pw_below_drewN ?_ _))⟩⟩
   ·have ht1 : ((((x &&& used : Nat) : Int)) != 0) = true := by simp; omega
    have HA2 : Aside0 ((sets.drop (i + 1)).findSome? F = R) := ⟨by
     have := HAH.out
     rw [HOK.out, decide_eq_false ha0] at this
     simpa using this⟩
    clear ha0
    go_wp2
    go_roundg gi'
    case measure => omega
    case rel => exact ⟨i + 1, _, by go_num, by omega, HA2, HX⟩
  ·have hi1 : ((i : Int) < (sets.length : Int)) = False := eq_false (by omega)
   have hi2 : decide ((i : Int) < (sets.length : Int)) = false := decide_eq_false (by omega)
   have ha := HA.out
   rw [List.drop_eq_nil_of_le (by omega)] at ha
   have hr : R = none := ha.symm
   subst hr
   clear ha HA
   go_wp2
   go_ret
   exact ⟨rfl, _, HX.out⟩
set_option maxHeartbeats 16000000 in
set_option maxRecDepth 100000 in
theorem grow_s (sB : Nat) (W0 : World) (hsB : sB < W0.heap.size) (Ag : Option Addr) (cg : Nat) (G : List Nat) (hG : Gr 9 G) (hcg : G.length ≤ cg) (Ap : Option Addr) (cp : Nat) (P : List Nat) (hPl : P.length ≤ 9) (hP : ∀ x ∈ P, x < 512) (As : Option Addr) (cs : Nat) (sets : List Nat) (hSl : sets.length ≤ 512) (hS : ∀ x ∈ sets, x < 2 ^ G.length)
  (hlow : ∀ W, W0.grownBy W (some sB) → GL W ∧ Kd.C (Kd.int .i64) W Ag (gi G).length (gi G) ∧ Kd.C (Kd.int .i64) W Ap (gi P).length (gi P) ∧ Kd.C (Kd.int .i64) W As (gi sets).length (gi sets))
  (d : Nat) (hd0 : 0 < d) (ih : ∀ (M : List Nat) (used left : Nat) (v : Value) (w : World), M.length + d = P.length → (∀ x ∈ M, x < 2 ^ G.length) → used < 512 → left ≤ 9 → SI W0 w sB (.slice Ag G.length cg) (.slice Ap P.length cp) (.slice As sets.length cs) M v →
  Calls Tryd.prog 92 #[.pointer (some ⟨sB, 0, none⟩), .int .i64 (used : Int), .int .i64 (left : Int)] w fun e w' => e = .returned (.bool (growN G P sets d M used left).isSome) ∧ ∃ v', SI W0 w' sB (.slice Ag G.length cg) (.slice Ap P.length cp) (.slice As sets.length cs) ((growN G P sets d M used left).getD M) v') :
  ∀ (M : List Nat) (used left : Nat) (v : Value) (w : World), M.length + (d + 1) = P.length → (∀ x ∈ M, x < 2 ^ G.length) → used < 512 → left ≤ 9 → SI W0 w sB (.slice Ag G.length cg) (.slice Ap P.length cp) (.slice As sets.length cs) M v →
  Calls Tryd.prog 92 #[.pointer (some ⟨sB, 0, none⟩), .int .i64 (used : Int), .int .i64 (left : Int)] w fun e w' => e = .returned (.bool (growN G P sets (d + 1) M used left).isSome) ∧ ∃ v', SI W0 w' sB (.slice Ag G.length cg) (.slice Ap P.length cp) (.slice As sets.length cs) ((growN G P sets (d + 1) M used left).getD M) v' := by
 intro M used left v w hd hM hu hl hI
 have IH := Aside0.mk ih
 have HI := Aside0.mk hI
 have HLOW := Aside0.mk hlow
 have HM := Aside0.mk hM
 have HS := Aside0.mk hS
 have HG := Aside0.mk hG
 have HP := Aside0.mk hP
 obtain ⟨A3, c3, rfl⟩ := ownsRow_form2 hI.own
 have hz1 : w.cell? ⟨sB, 1, none⟩ = some (.slice Ap P.length cp) := (hI.cell 1).trans rfl
 have hz2 : w.cell? ⟨sB, 2, none⟩ = some (.slice As sets.length cs) := (hI.cell 2).trans rfl
 have hz3 : w.cell? ⟨sB, 3, none⟩ = some (.slice A3 M.length c3) := (hI.cell 3).trans rfl
 have hk1 : ((M.length : Int) == (P.length : Int)) = false := beq_eq_false_iff_ne.2 (by omega)
 obtain ⟨R, hR⟩ : ∃ R, growN G P sets (d + 1) M used left = R := ⟨_, rfl⟩
 obtain ⟨F, hF⟩ : ∃ F : Nat → Option (List Nat), F = fun s => if okB G P M used left d s then growN G P sets d (M ++ [s]) (used ||| s) (left - pc s 9) else none := ⟨_, rfl⟩
 have hRF : (sets.drop 0).findSome? F = R := by rw [← hR, hF]; rfl
 have HFE : Aside0 (∀ s, F s = if okB G P M used left d s then growN G P sets d (M ++ [s]) (used ||| s) (left - pc s 9) else none) := ⟨fun s => by rw [hF]⟩
 have HRF := Aside0.mk hRF
 rw [hR]
 clear hI hlow hM hS hP hG hF hRF hR ih
 go_enter Tryd.func92, Tryd.ntmps92
 go_wp2
 go_loopg [36] sets.length (fun kq v36 w' => ∃ (i : Nat) (v1 : Value), v36 = .int .i64 (i : Int) ∧ i + kq = sets.length ∧ Aside0 ((sets.drop i).findSome? F = R) ∧ Aside0 (SI W0 w' sB (.slice Ag G.length cg) (.slice Ap P.length cp) (.slice As sets.length cs) M v1))
 case atStart => exact ⟨0, _, rfl, by omega, HRF, HI⟩
 case round =>
  clear HRF
  obtain ⟨i, v1, rfl, hi, HA, HX⟩ := hrel
  by_cases hil : i < sets.length
  ·have hi1 : ((i : Int) < (sets.length : Int)) = True := eq_true (by omega)
   have hi2 : decide ((i : Int) < (sets.length : Int)) = true := decide_eq_true (by omega)
   cases gk with
   | zero => omega
   | succ gi' =>
   obtain ⟨ad, e1, hgx⟩ := Kd.at_int (HLOW.out wr HX.out.grown).2.2.2 (i : Int) (by omega) (by rw [gi_length]; omega)
   subst e1
   rw [rd_gi, Int.toNat_natCast] at hgx
   have ha := HA.out
   rw [List.drop_eq_getElem_cons hil, List.findSome?_cons] at ha
   have hxm : sets[i] ∈ sets := List.getElem_mem hil
   have hxe : sets.getD i 0 = sets[i] := by rw [List.getD_eq_getElem?_getD, List.getElem?_eq_getElem hil]; rfl
   rw [hxe] at hgx
   have hxl := HS.out _ hxm
   generalize sets[i] = x at *
   have hx5 := small G HG.out.most hxl
   rw [HFE.out x] at ha
   have hgxd : ∀ m, (wr.drewN m).cell? (ad.add i) = some (.int .i64 (x : Int)) := fun m => hgx
   obtain ⟨A4, c4, e4⟩ := ownsRow_form2 HX.out.own
   subst e4
   have hy1 : wr.cell? ⟨sB, 1, none⟩ = some (.slice Ap P.length cp) := (HX.out.cell 1).trans rfl
   have hy3 : wr.cell? ⟨sB, 3, none⟩ = some (.slice A4 M.length c4) := (HX.out.cell 3).trans rfl
   have HCN := Aside0.mk (count_eq x hx5)
   have han : Go.bits .and .i64 (x : Int) (used : Int) = ((x &&& used : Nat) : Int) := b_and _ _ (by omega) (by omega)
   have hor : Go.bits .or .i64 (x : Int) (used : Int) = ((x ||| used : Nat) : Int) := b_or _ _ (by omega) (by omega)
   have hor2 : Go.bits .or .i64 (used : Int) (x : Int) = ((used ||| x : Nat) : Int) := b_or _ _ (by omega) (by omega)
   have horl : used ||| x < 512 := Nat.or_lt_two_pow (n := 9) (by omega) (by omega)
   have HFIT : Aside0 (∀ W, Below wr.heap.size wr W → Calls Tryd.prog 110 #[.pointer (some ⟨sB, 0, none⟩), .int .i64 (x : Int), .int .i64 (M.length : Int)] W fun e w' => e = .returned (.bool (fitB G P M x M.length)) ∧ Below W.heap.size W w') := ⟨fun W hW => by
    have hX := HX.out.low hW
    obtain ⟨q1, q2, q3, q4⟩ := HLOW.out W hX.grown
    have hro := hX.own
    have hlen : M.length = (gi M).length := (gi_length M).symm
    rw [hlen] at hro
    have hC := (C_of_row hro).2
    rw [gi_length] at hC
    exact fits_calls sB Ag cg G HG.out hcg Ap cp P A4 c4 M x hxl (by omega) hPl HP.out HM.out W q1 ((hX.cell 0).trans rfl) ((hX.cell 1).trans rfl) ((hX.cell 3).trans rfl) q2 q3 (by rw [gi_length]; exact hC)⟩
   have HOK : Aside0 (okB G P M used left d x = (decide (x &&& used = 0) && decide (pc x 9 + d ≤ left) && !(decide (d = 0) && decide (pc x 9 ≠ left)) && fitB G P M x M.length)) := ⟨rfl⟩
   have hpc := pc_le x 9
   have HXL := Aside0.mk hxl
   have HAH := Aside0.mk ha
   clear ha hxm hxe hxl HA
   by_cases ha0 : x &&& used = 0
   ·have ht1 : ((((x &&& used : Nat) : Int)) != 0) = false := by rw [ha0]; rfl
    by_cases hp1 : pc x 9 + d ≤ left
    ·have ht2 : decide ((left : Int) - (d : Int) < (pc x 9 : Int)) = false := decide_eq_false (by omega)
     by_cases hd3 : d = 0 ∧ pc x 9 ≠ left
     ·omega
     ·have hd4 : d = 0 → pc x 9 = left := fun h => Classical.byContradiction fun h2 => hd3 ⟨h, h2⟩
      clear hd3
      cases hfb : fitB G P M x M.length
      ·rw [hfb] at HFIT
       have HA2 : Aside0 ((sets.drop (i + 1)).findSome? F = R) := ⟨by
        have := HAH.out
        rw [HOK.out, hfb] at this
        simpa using this⟩
       clear ha0 hfb HFE HOK HAH IH HLOW HM HS HG HP
       go_wp2_with (first
        | (go_at_call 109; refine (minor_count.calls _ _ _ HCN.out).mono ?_; rintro e w3 ⟨rfl, m, rfl⟩)
        | (go_at_call 110; refine (HFIT.out _ (pw_below_drewN (Below.refl _ _) _)).mono ?_; rintro e w3 ⟨rfl, hb⟩; have HB3 : Aside0 (Below wr.heap.size wr w3) := ⟨below_step (pw_below_drewN (Below.refl _ _) _) hb⟩; have HX3 := Aside0.mk (HX.out.low HB3.out); clear hb; have hc3 : w3.cell? ⟨sB, 3, none⟩ = some (.slice A4 M.length c4) := (HX3.out.cell 3).trans rfl))
       go_roundg gi'
       case measure => omega
       case rel => exact ⟨i + 1, _, by go_num, by omega, HA2, HX3⟩
      ·rw [hfb] at HFIT
       have hok : okB G P M used left d x = true := by
        rw [HOK.out, hfb, decide_eq_true ha0, decide_eq_true hp1]
        by_cases h0 : d = 0
        ·rw [hd4 h0]; simp
        ·simp [h0]
       have hFx : F x = growN G P sets d (M ++ [x]) (used ||| x) (left - pc x 9) := by rw [HFE.out x, if_pos hok]
       have ha2 := HAH.out
       rw [← HFE.out x] at ha2
       have HREC : Aside0 (∀ W v (a : Int), a = (left : Int) - (pc x 9 : Int) → SI W0 W sB (.slice Ag G.length cg) (.slice Ap P.length cp) (.slice (some ad) sets.length cs) (M ++ [x]) v → Calls Tryd.prog 92 #[.pointer (some ⟨sB, 0, none⟩), .int .i64 ((used ||| x : Nat) : Int), .int .i64 a] W fun e w' => e = .returned (.bool (F x).isSome) ∧ ∃ v', SI W0 w' sB (.slice Ag G.length cg) (.slice Ap P.length cp) (.slice (some ad) sets.length cs) ((F x).getD (M ++ [x])) v') := ⟨fun W v a ea hV => by
        rw [hFx, ea, show ((left : Int) - (pc x 9 : Int)) = ((left - pc x 9 : Nat) : Int) by omega]
        refine IH.out (M ++ [x]) (used ||| x) (left - pc x 9) v W (by simp; omega) (fun y hy => ?_) horl (by omega) hV
        rcases List.mem_append.1 hy with hy | hy
        ·exact HM.out y hy
        ·rw [List.mem_singleton.1 hy]; exact HXL.out⟩
       clear hFx hok ha0 hfb horl hor HFE HOK HAH IH HLOW HM HS HG HP
       obtain ⟨i3, hi3, hq0, hq1, hq2⟩ := info_parts info3
       cases hfx : F x with
       | none =>
        rw [hfx] at HREC ha2
        have HA2 : Aside0 ((sets.drop (i + 1)).findSome? F = R) := ⟨ha2⟩
        clear ha2 hfx
        go_wp2_with (first
         | (go_at_call 109; refine (minor_count.calls _ _ _ HCN.out).mono ?_; rintro e w3 ⟨rfl, m, rfl⟩)
         | (go_at_call 110; refine (HFIT.out _ (pw_below_drewN (Below.refl _ _) _)).mono ?_; rintro e w3 ⟨rfl, hb⟩; have HB3 : Aside0 (Below wr.heap.size wr w3) := ⟨below_step (pw_below_drewN (Below.refl _ _) _) hb⟩; have HX3 := Aside0.mk (HX.out.low HB3.out); clear hb; have hc3 : w3.cell? ⟨sB, 3, none⟩ = some (.slice A4 M.length c4) := (HX3.out.cell 3).trans rfl)
         | (at_builtin; refine wpList_append_own_at _ rfl _ _ 22 rfl W0.heap.size 3 i3 (.int .i64 0) 1 8 Tryd.underlying22 hi3 hq0 hq1 hq2 rfl (by decide) (.slice A4 M.length c4) M.length ((gi M).map (Value.int .i64)) rfl (HX3.out.own.alloc _) ⟨w3.heap.size, 0, none⟩ 1 1 [.int .i64 (x : Int)] rfl rfl (cell_one_new _ _ _) (by simp [Value.oneCell']) (by unfold maxLen; omega) (by omega) (by have := HX3.out.grown.size; simp; omega) ?_; intro v8 w8 hown8 hg8 _ _; obtain ⟨g8, cap8, rfl⟩ := own_succ hown8; have hne8 : some sB ≠ (Value.slice A4 M.length c4).ownBlock := (fun e => by have := own_base2 HX3.out.own sB e.symm; omega); have hb8 := blk_grown (blk_alloc HX3.out.blk _) hg8 hne8; have hc8 : w8.cell? ⟨sB, 3, none⟩ = some (.slice A4 M.length c4) := (blk_cell hb8 3).trans rfl; have hf8 := blk_frozen hb8 3; have HX8 := Aside0.mk (HX3.out.push hsB hg8 hown8); clear hb8 hown8 hg8)
         | (go_at_call 92; refine (HREC.out _ _ _ (by omega) (HX8.out.low (pw_below_drewN (Below.refl _ _) _))).mono ?_; rintro e w9 ⟨rfl, v9, hS9⟩; obtain ⟨g9, c9, rfl, hcap9⟩ := hS9.cap; have hl9 : w9.cell? ⟨sB, 3, none⟩ = some (.slice (some ⟨g9, 0, none⟩) (M.length + 1) c9) := (hS9.cell 3).trans rfl; have hf9 := blk_frozen hS9.blk 3; have HS9 := Aside0.mk hS9; clear hS9; have hkc1 : decide ((M.length : Int) ≤ (c9 : Int)) = true := decide_eq_true (by omega); have hkc2 : ((M.length : Int) ≤ (c9 : Int)) = True := eq_true (by omega)))
        go_roundg gi'
        case measure => omega
        case rel => exact ⟨i + 1, _, by go_num, by omega, HA2, ⟨HS9.out.pop hsB rfl⟩⟩
       | some Rr =>
        rw [hfx] at HREC ha2
        have hr2 : R = some Rr := ha2.symm
        subst hr2
        clear ha2 hfx
        go_wp2_with (first
         | (go_at_call 109; refine (minor_count.calls _ _ _ HCN.out).mono ?_; rintro e w3 ⟨rfl, m, rfl⟩)
         | (go_at_call 110; refine (HFIT.out _ (pw_below_drewN (Below.refl _ _) _)).mono ?_; rintro e w3 ⟨rfl, hb⟩; have HB3 : Aside0 (Below wr.heap.size wr w3) := ⟨below_step (pw_below_drewN (Below.refl _ _) _) hb⟩; have HX3 := Aside0.mk (HX.out.low HB3.out); clear hb; have hc3 : w3.cell? ⟨sB, 3, none⟩ = some (.slice A4 M.length c4) := (HX3.out.cell 3).trans rfl)
         | (at_builtin; refine wpList_append_own_at _ rfl _ _ 22 rfl W0.heap.size 3 i3 (.int .i64 0) 1 8 Tryd.underlying22 hi3 hq0 hq1 hq2 rfl (by decide) (.slice A4 M.length c4) M.length ((gi M).map (Value.int .i64)) rfl (HX3.out.own.alloc _) ⟨w3.heap.size, 0, none⟩ 1 1 [.int .i64 (x : Int)] rfl rfl (cell_one_new _ _ _) (by simp [Value.oneCell']) (by unfold maxLen; omega) (by omega) (by have := HX3.out.grown.size; simp; omega) ?_; intro v8 w8 hown8 hg8 _ _; obtain ⟨g8, cap8, rfl⟩ := own_succ hown8; have hne8 : some sB ≠ (Value.slice A4 M.length c4).ownBlock := (fun e => by have := own_base2 HX3.out.own sB e.symm; omega); have hb8 := blk_grown (blk_alloc HX3.out.blk _) hg8 hne8; have hc8 : w8.cell? ⟨sB, 3, none⟩ = some (.slice A4 M.length c4) := (blk_cell hb8 3).trans rfl; have hf8 := blk_frozen hb8 3; have HX8 := Aside0.mk (HX3.out.push hsB hg8 hown8); clear hb8 hown8 hg8)
         | (go_at_call 92; refine (HREC.out _ _ _ (by omega) (HX8.out.low (pw_below_drewN (Below.refl _ _) _))).mono ?_; rintro e w9 ⟨rfl, v9, hS9⟩))
        go_ret
        exact ⟨rfl, _, hS9⟩
    ·have ht2 : decide ((left : Int) - (d : Int) < (pc x 9 : Int)) = true := decide_eq_true (by omega)
     have HA2 : Aside0 ((sets.drop (i + 1)).findSome? F = R) := ⟨by
      have := HAH.out
      rw [HOK.out, decide_eq_false hp1] at this
      simpa using this⟩
     clear ha0
     go_wp2_with (go_at_call 109; refine (minor_count.calls _ _ _ HCN.out).mono ?_; rintro e w3 ⟨rfl, m, rfl⟩)
     go_roundg gi'
     case measure => omega
     case rel => exact ⟨i + 1, _, by go_num, by omega, HA2, ⟨HX.out.low (by repeat (first | exact Below.refl _ _ | refine pw_below_drewN ?_ _))⟩⟩
   ·have ht1 : ((((x &&& used : Nat) : Int)) != 0) = true := by simp; omega
    have HA2 : Aside0 ((sets.drop (i + 1)).findSome? F = R) := ⟨by
     have := HAH.out
     rw [HOK.out, decide_eq_false ha0] at this
     simpa using this⟩
    clear ha0
    go_wp2
    go_roundg gi'
    case measure => omega
    case rel => exact ⟨i + 1, _, by go_num, by omega, HA2, HX⟩
  ·have hi1 : ((i : Int) < (sets.length : Int)) = False := eq_false (by omega)
   have hi2 : decide ((i : Int) < (sets.length : Int)) = false := decide_eq_false (by omega)
   have ha := HA.out
   rw [List.drop_eq_nil_of_le (by omega)] at ha
   have hr : R = none := ha.symm
   subst hr
   clear ha HA
   go_wp2
   go_ret
   exact ⟨rfl, _, HX.out⟩
set_option maxHeartbeats 4000000 in
set_option maxRecDepth 100000 in
theorem grow_calls (sB : Nat) (W0 : World) (hsB : sB < W0.heap.size) (Ag : Option Addr) (cg : Nat) (G : List Nat) (hG : Gr 9 G) (hcg : G.length ≤ cg) (Ap : Option Addr) (cp : Nat) (P : List Nat) (hPl : P.length ≤ 9) (hP : ∀ x ∈ P, x < 512) (As : Option Addr) (cs : Nat) (sets : List Nat) (hSl : sets.length ≤ 512) (hS : ∀ x ∈ sets, x < 2 ^ G.length)
  (hlow : ∀ W, W0.grownBy W (some sB) → GL W ∧ Kd.C (Kd.int .i64) W Ag (gi G).length (gi G) ∧ Kd.C (Kd.int .i64) W Ap (gi P).length (gi P) ∧ Kd.C (Kd.int .i64) W As (gi sets).length (gi sets)) :
  ∀ (d : Nat) (M : List Nat) (used left : Nat) (v : Value) (w : World), M.length + d = P.length → (∀ x ∈ M, x < 2 ^ G.length) → used < 512 → left ≤ 9 → SI W0 w sB (.slice Ag G.length cg) (.slice Ap P.length cp) (.slice As sets.length cs) M v →
  Calls Tryd.prog 92 #[.pointer (some ⟨sB, 0, none⟩), .int .i64 (used : Int), .int .i64 (left : Int)] w fun e w' => e = .returned (.bool (growN G P sets d M used left).isSome) ∧ ∃ v', SI W0 w' sB (.slice Ag G.length cg) (.slice Ap P.length cp) (.slice As sets.length cs) ((growN G P sets d M used left).getD M) v' := by
 intro d
 induction d with
 | zero =>
  intro M used left v w hd hM hu hl hI
  have HI := Aside0.mk hI
  obtain ⟨A3, c3, rfl⟩ := ownsRow_form2 hI.own
  have hz1 : w.cell? ⟨sB, 1, none⟩ = some (.slice Ap P.length cp) := (hI.cell 1).trans rfl
  have hz3 : w.cell? ⟨sB, 3, none⟩ = some (.slice A3 M.length c3) := (hI.cell 3).trans rfl
  have hk1 : ((M.length : Int) == (P.length : Int)) = true := beq_iff_eq.2 (by omega)
  clear hI hlow hM hS hP hd
  go_enter Tryd.func92, Tryd.ntmps92
  go_wp2
  go_ret
  exact ⟨rfl, _, HI.out⟩
 | succ d ih =>
  rcases Nat.eq_zero_or_pos d with hd0 | hd0
  ·exact grow_z sB W0 hsB Ag cg G hG hcg Ap cp P hPl hP As cs sets hSl hS hlow d hd0 ih
  ·exact grow_s sB W0 hsB Ag cg G hG hcg Ap cp P hPl hP As cs sets hSl hS hlow d hd0 ih
end Go.Proofs.YtjloppfdagfpmaaDoor.X
end
section
/- (minor.town).find, by hand. -/
namespace Go.Proofs.YtjloppfdagfpmaaDoor.X
open Go.RowKit YtjloppfdagfpmaaDoorW.PrintWords YtjloppfdagfpmaaDoorW.PrintLast YtjloppfdagfpmaaDoorW.PrintMore YtjloppfdagfpmaaDoor.T
attribute [local go_sem] max2_int min2_int max_two min_two max_three min_three max_four min_four
structure FS (w W : World) (sB : Nat) (vT vP : Value) (l : List Nat) (vS : Value) : Prop where
 blk : W.heap[sB]? = some (.cells #[vT, vP, vS, .slice none 0 0] 115 (0, 0))
 own : W.ownsRow (w.heap.size + 1) 3 1 vS l.length ((gi l).map (Value.int .i64))
 below : Below w.heap.size w W
theorem FS.low {w W V : World} {sB : Nat} {vT vP vS : Value} {l : List Nat} (h : FS w W sB vT vP l vS) (hb : Below W.heap.size W V) : FS w V sB vT vP l vS :=
 ⟨blk_below h.blk hb, own_kept h.own (grown_of_below hb none) (fun _ _ e => by cases e), below_step h.below hb⟩
theorem FS.push {w W w8 : World} {sB x : Nat} {vT vP vS : Value} {l : List Nat} {o : Obj} {g c : Nat} (h : FS w W sB vT vP l vS) (hsB : sB = w.heap.size) (hg : (W.alloc o).grownBy w8 vS.ownBlock)
  (ho : w8.ownsRow (w.heap.size + 1) 3 1 (.slice (some ⟨g, 0, none⟩) (l.length + 1) c) (l.length + 1) ((gi l).map (Value.int .i64) ++ [.int .i64 (x : Int)])) :
  FS w (w8.setCell ⟨sB, 2, none⟩ (.slice (some ⟨g, 0, none⟩) (l.length + 1) c)) sB vT vP (l ++ [x]) (.slice (some ⟨g, 0, none⟩) (l.length + 1) c) := by
 have hne : some sB ≠ vS.ownBlock := fun e => by have := own_base2 h.own sB e.symm; omega
 have hb8 := blk_grown (blk_alloc h.blk o) hg hne
 refine ⟨?_, ?_, ?_⟩
 ·have := blk_set hb8 2 (.slice (some ⟨g, 0, none⟩) (l.length + 1) c)
  rw [this]
  rfl
 ·have e : (l ++ [x]).length = l.length + 1 := by simp
  rw [e, show (gi (l ++ [x])).map (Value.int .i64) = (gi l).map (Value.int .i64) ++ [.int .i64 (x : Int)] by simp [gi]]
  exact own_kept ho (grownBy_set w8 ⟨sB, 2, none⟩ _) (fun b hb e => by
   have := own_base2 ho b hb
   have e2 : b = sB := Option.some.inj e
   omega)
 ·refine below_set (((below_alloc h.below o).grown hg (by have := h.below.size; simp; omega) (fun k e => ?_))) (by omega)
  have := own_base2 h.own k e
  omega
theorem range_filter (f : Nat → Bool) (i : Nat) : (List.range (i + 1)).filter f = (List.range i).filter f ++ (if f i then [i] else []) := by
 rw [List.range_succ, List.filter_append]
 cases h : f i <;> simp [h]
set_option maxHeartbeats 8000000 in
set_option maxRecDepth 100000 in
theorem find_calls (A0 : Option Addr) (c0 : Nat) (G : List Nat) (hG : Gr 9 G) (hc0 : G.length ≤ c0) (A1 : Option Addr) (c1 : Nat) (P : List Nat) (hP1 : 1 ≤ P.length) (hPl : P.length ≤ 9) (hP : ∀ x ∈ P, x < 512) (w : World) (hGL : GL w)
  (hr0 : Kd.C (Kd.int .i64) w A0 (gi G).length (gi G)) (hr1 : Kd.C (Kd.int .i64) w A1 (gi P).length (gi P)) :
  Calls Tryd.prog 64 #[.slice A0 G.length c0, .slice A1 P.length c1] w fun e w' => ∃ v, e = .returned v ∧ Kd.R (Kd.int .i64) 3 w' w.heap.size (fun _ => True) v ((findN G P).elim [] gi) ∧ ((findN G P = none ∧ v = .slice none 0 0) ∨ ((findN G P).isSome = true ∧ ∃ a n c, v = .slice (some a) n c)) ∧ Below w.heap.size w w' := by
 have HG := Aside0.mk hG
 have HP := Aside0.mk hP
 have HGL := Aside0.mk hGL
 have HR0 := Aside0.mk hr0
 have HR1 := Aside0.mk hr1
 have hn := hG.most
 obtain ⟨A, hA⟩ : ∃ A, 2 ^ G.length = A + 1 := ⟨2 ^ G.length - 1, by have := Nat.two_pow_pos G.length; omega⟩
 have hA9 : A ≤ 511 := by
  have h9 : 2 ^ G.length ≤ 2 ^ 9 := Nat.pow_le_pow_right (by omega) hn
  rw [hA] at h9
  have e9 : (2 : Nat) ^ 9 = 512 := rfl
  omega
 have HALL : Aside0 (minor_town_all.f (gi G) = some (A : Int)) := ⟨by rw [all_eq G hn, hA]; rfl⟩
 have HA := Aside0.mk hA
 have HL0 := Aside0.mk (gi_length G)
 have CALL : Aside0 (∀ W, Below w.heap.size w W → Calls Tryd.prog 66 #[.slice A0 G.length c0] W fun e w' => e = .returned (.int .i64 (A : Int)) ∧ Below W.heap.size W w') := ⟨fun W hW => by
  have := minor_town_all.calls A0 c0 (gi G) _ W (Kd.C_below HR0.out hW) (by rw [gi_length]; exact hc0) HALL.out
  rw [gi_length] at this
  exact this.mono fun e w' ⟨h, m, hm⟩ => ⟨h, by rw [hm]; exact pw_below_drewN (Below.refl _ _) m⟩⟩
 have CCON : Aside0 (∀ W (i : Nat), Below w.heap.size w W → i ≤ A → Calls Tryd.prog 67 #[.slice A0 G.length c0, .int .i64 (i : Int)] W fun e w' => e = .returned (.bool (conB G i)) ∧ Below W.heap.size W w') := ⟨fun W i hW hi => by
  obtain ⟨K, hK⟩ := connected_ev G HG.out i (by rw [HA.out]; omega)
  have := minor_town_connected.calls K A0 c0 (gi G) (i : Int) _ W (GL_below HGL.out hW) (Kd.C_below HR0.out hW) (by rw [gi_length]; exact hc0) (hK K (Nat.le_refl _))
  rw [gi_length] at this
  exact this⟩
 obtain ⟨T, hT⟩ : ∃ T, T = G.length + 1 - P.length := ⟨_, rfl⟩
 obtain ⟨F, hF⟩ : ∃ F : Nat → Option (List Nat), F = fun z => growN G P (setsN G) P.length [] 0 z := ⟨_, rfl⟩
 have HFE : Aside0 (∀ z, F z = growN G P (setsN G) P.length [] 0 z) := ⟨fun z => by rw [hF]⟩
 obtain ⟨R, hR⟩ : ∃ R, findN G P = R := ⟨_, rfl⟩
 have HRF : Aside0 (((List.range' P.length T).drop 0).findSome? F = R) := ⟨by rw [← hR, hF, hT]; rfl⟩
 rw [hR]
 obtain ⟨i3, hi3, hq0, hq1, hq2⟩ := info_parts info3
 clear hF hR hA hG hP hGL hr0 hr1
 go_enter Tryd.func64, Tryd.ntmps64
 go_wp2_with ((with_reducible refine gate_dst (N := 11) rfl ?_); refine box_event ?hg (N := 11) ?hd (cs := #[.slice A0 G.length c0, .slice A1 P.length c1, .slice none 0 0, .slice none 0 0]) (t := 115) ?hr ?_; (case hd => rfl); (case hg => rfl); (case hr => first | (go_simp; done) | (go_simp; rfl)); intro sB hga w7 hbox hb7; have HSB := Aside0.mk hga; have HF7 : Aside0 (FS w w7 sB (.slice A0 G.length c0) (.slice A1 P.length c1) [] (.slice none 0 0)) := ⟨⟨hbox, World.ownsRow_nil _ _ _ _, hb7⟩⟩; clear hga hbox hb7)
 go_loopg [6] (A + 1) (fun kq v6 w' => ∃ (i : Nat) (vS : Value), v6 = .int .i64 (i : Int) ∧ i + kq = A + 2 ∧ 1 ≤ i ∧ i ≤ A + 1 ∧ Aside0 (FS w w' sB (.slice A0 G.length c0) (.slice A1 P.length c1) ((List.range i).filter (conB G)) vS))
 case atStart => exact ⟨1, _, rfl, by omega, by omega, by omega, HF7⟩
 case round =>
  clear HF7
  obtain ⟨i, vS, rfl, hi, hi1, hi2, HX⟩ := hrel
  by_cases hil : i ≤ A
  ·have hj1 : ((i : Int) ≤ (A : Int)) = True := eq_true (by omega)
   have hj2 : decide ((i : Int) ≤ (A : Int)) = true := decide_eq_true (by omega)
   cases gk with
   | zero => omega
   | succ gi' =>
   have hrf := range_filter (conB G) i
   obtain ⟨AS, cS, rfl⟩ := ownsRow_form2 HX.out.own
   have HCI := Aside0.mk (CCON.out · i · hil)
   obtain ⟨l, hl⟩ : ∃ l, (List.range i).filter (conB G) = l := ⟨_, rfl⟩
   rw [hl] at hrf HX
   have hll : l.length ≤ 512 := by rw [← hl]; exact Nat.le_trans (List.length_filter_le _ _) (by rw [List.length_range]; omega)
   rw [hl] at *
   cases hcb : conB G i
   ·rw [hcb] at HCI
    have HRF2 : Aside0 ((List.range (i + 1)).filter (conB G) = l) := ⟨by rw [hrf, hcb]; simp⟩
    clear hrf hcb hl
    go_wp2_with (first
     | (go_at_call 66; refine (CALL.out _ HX.out.below).mono ?_; rintro e w3 ⟨rfl, hb⟩; have HX3 := Aside0.mk (HX.out.low hb); clear hb)
     | (go_at_call 67; refine (HCI.out _ HX3.out.below).mono ?_; rintro e w4 ⟨rfl, hb⟩; have HX4 := Aside0.mk (HX3.out.low hb); clear hb))
    go_roundg gi'
    case measure => omega
    case rel => exact ⟨i + 1, _, by go_num, by omega, by omega, by omega, by rw [HRF2.out]; exact HX4⟩
   ·rw [hcb] at HCI
    have HRF2 : Aside0 ((List.range (i + 1)).filter (conB G) = l ++ [i]) := ⟨by rw [hrf, hcb]; simp⟩
    clear hrf hcb hl
    go_wp2_with (first
     | (go_at_call 66; refine (CALL.out _ HX.out.below).mono ?_; rintro e w3 ⟨rfl, hb⟩; have HX3 := Aside0.mk (HX.out.low hb); clear hb)
     | (go_at_call 67; refine (HCI.out _ HX3.out.below).mono ?_; rintro e w4 ⟨rfl, hb⟩; have HX4 := Aside0.mk (HX3.out.low hb); clear hb; have hc4 : w4.cell? ⟨sB, 2, none⟩ = some (.slice AS l.length cS) := (blk_cell HX4.out.blk 2).trans rfl)
     | (at_builtin; refine wpList_append_own_at _ rfl _ _ 22 rfl (w.heap.size + 1) 3 i3 (.int .i64 0) 1 8 Tryd.underlying22 hi3 hq0 hq1 hq2 rfl (by decide) (.slice AS l.length cS) l.length ((gi l).map (Value.int .i64)) rfl (HX4.out.own.alloc _) ⟨w4.heap.size, 0, none⟩ 1 1 [.int .i64 (i : Int)] rfl rfl (cell_one_new _ _ _) (by simp [Value.oneCell']) (by unfold maxLen; omega) (by omega) (by have := HX4.out.below.size; have := HSB.out; have := blk_lt HX4.out.blk; simp; omega) ?_; intro v8 w8 hown8 hg8 _ _; obtain ⟨g8, cap8, rfl⟩ := own_succ hown8; have hne8 : some sB ≠ (Value.slice AS l.length cS).ownBlock := (fun e => by have := own_base2 HX4.out.own sB e.symm; have := HSB.out; omega); have hb8 := blk_grown (blk_alloc HX4.out.blk _) hg8 hne8; have hc8 : w8.cell? ⟨sB, 2, none⟩ = some (.slice AS l.length cS) := (blk_cell hb8 2).trans rfl; have hf8 := blk_frozen hb8 2; have HX8 := Aside0.mk (HX4.out.push HSB.out hg8 hown8); clear hb8 hown8 hg8))
    go_roundg gi'
    case measure => omega
    case rel => exact ⟨i + 1, _, by go_num, by omega, by omega, by omega, by rw [HRF2.out]; exact HX8⟩
  ·have hj1 : ((i : Int) ≤ (A : Int)) = False := eq_false (by omega)
   have hj2 : decide ((i : Int) ≤ (A : Int)) = false := decide_eq_false (by omega)
   obtain rfl : i = A + 1 := by omega
   have hsets : (List.range (A + 1)).filter (conB G) = setsN G := by rw [← HA.out]; rfl
   rw [hsets] at HX
   have hsl : ∀ x ∈ setsN G, x < 2 ^ G.length := fun x hx => List.mem_range.1 (List.mem_filter.1 hx).1
   have HSL := Aside0.mk hsl
   have hll : (setsN G).length ≤ 512 := by rw [← hsets]; exact Nat.le_trans (List.length_filter_le _ _) (by rw [List.length_range]; omega)
   clear hsets hsl
   generalize setsN G = SS at *
   obtain ⟨AS, cS, rfl⟩ := ownsRow_form2 HX.out.own
   go_wp2_with ((go_at_call 66; refine (CALL.out _ HX.out.below).mono ?_; rintro e w3 ⟨rfl, hb⟩; have HX3 := Aside0.mk (HX.out.low hb); clear hb))
   have HLOW : Aside0 (∀ W, w3.grownBy W (some sB) → GL W ∧ Kd.C (Kd.int .i64) W A0 (gi G).length (gi G) ∧ Kd.C (Kd.int .i64) W A1 (gi P).length (gi P) ∧ Kd.C (Kd.int .i64) W AS (gi SS).length (gi SS)) := ⟨fun W hW => by
    have hB : Below w.heap.size w W := HX3.out.below.grown hW HX3.out.below.size (fun k e => by rw [← Option.some.inj e, HSB.out]; exact Nat.le_refl _)
    refine ⟨GL_below HGL.out hB, Kd.C_below HR0.out hB, Kd.C_below HR1.out hB, ?_⟩
    have ho := own_kept HX3.out.own hW (fun b hb e => by
     have := own_base2 HX3.out.own b hb
     have e2 : b = sB := Option.some.inj e
     have := HSB.out
     omega)
    rw [← gi_length SS] at ho
    exact (C_of_row ho).2⟩
   have hsB3 := blk_lt HX3.out.blk
   have HGROW : Aside0 (∀ W v (z : Nat), z ≤ 9 → SI w3 W sB (.slice A0 G.length c0) (.slice A1 P.length c1) (.slice AS SS.length cS) [] v → Calls Tryd.prog 92 #[.pointer (some ⟨sB, 0, none⟩), .int .i64 0, .int .i64 (z : Int)] W fun e w' => e = .returned (.bool (F z).isSome) ∧ ∃ v', SI w3 w' sB (.slice A0 G.length c0) (.slice A1 P.length c1) (.slice AS SS.length cS) ((F z).getD []) v') := ⟨fun W v z hz hV => by
    have := grow_calls sB w3 hsB3 A0 c0 G HG.out hc0 A1 c1 P hPl HP.out AS cS SS hll HSL.out HLOW.out P.length [] 0 z v W (by simp) (by simp) (by omega) hz hV
    rw [HFE.out z]
    exact this⟩
   have HS0 : Aside0 (SI w3 w3 sB (.slice A0 G.length c0) (.slice A1 P.length c1) (.slice AS SS.length cS) [] (.slice none 0 0)) := ⟨⟨HX3.out.blk, World.ownsRow_nil _ _ _ _, ⟨rfl, rfl, rfl, Nat.le_refl _, fun _ _ _ => rfl⟩⟩⟩
   have HFIN : Aside0 (∀ W, w3.grownBy W (some sB) → Below w.heap.size w W) := ⟨fun W hW => HX3.out.below.grown hW HX3.out.below.size (fun k e => by rw [← Option.some.inj e, HSB.out]; exact Nat.le_refl _)⟩
   have HB3 : Aside0 (w.heap.size ≤ w3.heap.size) := ⟨HX3.out.below.size⟩
   have HFL : Aside0 (∀ z Rr, F z = some Rr → 1 ≤ Rr.length) := ⟨fun z Rr h => by
    rw [HFE.out z] at h
    obtain ⟨Q, h1, h2, _⟩ := growN_some _ _ _ _ _ _ _ _ h
    rw [h2, List.nil_append]
    omega⟩
   clear HX CALL CCON HX3 HLOW HSL HALL HFE
   go_loopg [7] T (fun kq v7 w' => ∃ (z : Nat) (v3 : Value), v7 = .int .i64 (z : Int) ∧ z + kq = P.length + T ∧ P.length ≤ z ∧ Aside0 (((List.range' P.length T).drop (z - P.length)).findSome? F = R) ∧ Aside0 (SI w3 w' sB (.slice A0 G.length c0) (.slice A1 P.length c1) (.slice AS SS.length cS) [] v3))
   case atStart => exact ⟨P.length, _, rfl, by omega, by omega, by rw [Nat.sub_self]; exact HRF, HS0⟩
   case round =>
    clear HRF HS0
    obtain ⟨z, v3, rfl, hz, hz1, HA2, HS⟩ := hrel
    by_cases hzl : z ≤ G.length
    ·have hj1 : ((z : Int) ≤ (G.length : Int)) = True := eq_true (by omega)
     have hj2 : decide ((z : Int) ≤ (G.length : Int)) = true := decide_eq_true (by omega)
     cases gk with
     | zero => omega
     | succ gi' =>
     have ha := HA2.out
     have hkl : z - P.length < (List.range' P.length T).length := by rw [List.length_range']; omega
     rw [List.drop_eq_getElem_cons hkl, List.findSome?_cons, List.getElem_range', show P.length + 1 * (z - P.length) = z by omega, show z - P.length + 1 = z + 1 - P.length by omega] at ha
     clear hkl HA2
     have HG1 := Aside0.mk (HGROW.out · · z (by omega) ·)
     cases hfz : F z with
     | none =>
      rw [hfz] at HG1 ha
      have HA3 : Aside0 (((List.range' P.length T).drop (z + 1 - P.length)).findSome? F = R) := ⟨ha⟩
      clear ha hfz
      go_wp2_with ((go_at_call 92; refine (HG1.out _ _ HS.out).mono ?_; rintro e w5 ⟨rfl, v5, hS5⟩; have HS5 := Aside0.mk hS5; clear hS5))
      go_roundg gi'
      case measure => omega
      case rel => exact ⟨z + 1, v5, by go_num, by omega, by omega, HA3, HS5⟩
     | some Rr =>
      rw [hfz] at HG1 ha
      have hr2 : R = some Rr := ha.symm
      subst hr2
      have hl1 := HFL.out z Rr hfz
      clear ha hfz
      go_wp2_with ((go_at_call 92; refine (HG1.out _ _ HS.out).mono ?_; rintro e w5 ⟨rfl, v5, hS5⟩; have hS5b : SI w3 w5 sB (.slice A0 G.length c0) (.slice A1 P.length c1) (.slice AS SS.length cS) Rr v5 := hS5; obtain ⟨A5, c5, rfl⟩ := ownsRow_form2 hS5b.own; have hc5 : w5.cell? ⟨sB, 3, none⟩ = some (.slice A5 Rr.length c5) := (blk_cell hS5b.blk 3).trans rfl; have HS5 := Aside0.mk hS5b; clear hS5 hS5b))
      go_ret
      have ho := HS5.out.own
      refine ⟨_, rfl, ?_, .inr ⟨rfl, ?_⟩, HFIN.out _ HS5.out.grown⟩
      ·have h2 : w5.ownsRow w3.heap.size 3 1 (.slice A5 Rr.length c5) (gi Rr).length ((gi Rr).map (Value.int .i64)) := by rw [gi_length]; exact ho
       exact Kd.R_lower (Kd.R_of_own (ok := fun _ => True) h2 (fun _ _ => trivial)) HB3.out
      ·obtain ⟨k, hk⟩ : ∃ k, Rr.length = k + 1 := ⟨Rr.length - 1, by omega⟩
       rw [hk] at ho
       obtain ⟨g, c, e⟩ := own_succ ho
       rw [hk, e]
       exact ⟨_, _, _, rfl⟩
    ·have hj1 : ((z : Int) ≤ (G.length : Int)) = False := eq_false (by omega)
     have hj2 : decide ((z : Int) ≤ (G.length : Int)) = false := decide_eq_false (by omega)
     have ha := HA2.out
     rw [List.drop_eq_nil_of_le (by rw [List.length_range']; omega)] at ha
     have hr2 : R = none := ha.symm
     subst hr2
     clear ha HA2
     go_wp2
     go_ret
     exact ⟨_, rfl, Kd.R_nil _ _ _ _ _, rfl, HFIN.out _ HS.out.grown⟩
end Go.Proofs.YtjloppfdagfpmaaDoor.X
end
section
namespace Go.Proofs.YtjloppfdagfpmaaDoor.X
open Go.RowKit YtjloppfdagfpmaaDoorW.PrintWords YtjloppfdagfpmaaDoorW.PrintLast YtjloppfdagfpmaaDoorW.PrintMore
attribute [local go_sem] max2_int min2_int max_two min_two max_three min_three max_four min_four
/-! ### minor_read: function 63 -/
mutual
def minor_read.j0 : Nat → List Int → Int → Bool → Option (List Int × Bool)
 | 0, _, _, _ => none
 | k + 1, x0, x6, x18 => if x18 = true then (some (([] : List Int), false)) else (minor_read.l0 k x0 x6 x0 (x0.length : Int) 0)
def minor_read.l0 : Nat → List Int → Int → List Int → Int → Int → Option (List Int × Bool)
 | 0, _, _, _, _, _ => none
 | k + 1, x0, x6, x19, x20, x21 => if x21 < x20 then (if 0 ≤ x21 then (if x21 < (x19.length : Int) then (if (rd x19 x21) < 0 then (minor_read.j2 k x0 x6 x21 (rd x19 x21) x19 x20 x21 true) else (if 0 ≤ x6 then (if (rd x19 x21) ≥ (shl .i64 1 x6) then (minor_read.j2 k x0 x6 x21 (rd x19 x21) x19 x20 x21 true) else (minor_read.j2 k x0 x6 x21 (rd x19 x21) x19 x20 x21 ((Go.bits .and .i64 (shr .i64 (rd x19 x21) x21) 1) == 1))) else (none))) else (none)) else (none)) else (some (x0, true))
def minor_read.j2 : Nat → List Int → Int → Int → Int → List Int → Int → Int → Bool → Option (List Int × Bool)
 | 0, _, _, _, _, _, _, _, _ => none
 | k + 1, x0, x6, x7, x8, x19, x20, x21, x40 => if x40 = true then (some (([] : List Int), false)) else (minor_read.l1 k x0 x6 x7 x8 x19 x20 x21 x6 0)
def minor_read.l1 : Nat → List Int → Int → Int → Int → List Int → Int → Int → Int → Int → Option (List Int × Bool)
 | 0, _, _, _, _, _, _, _, _, _ => none
 | k + 1, x0, x6, x7, x8, x19, x20, x21, x41, x42 => if x42 < x41 then (if 0 ≤ x42 then (if x42 < (x0.length : Int) then (if 0 ≤ x7 then (if (Go.bits .and .i64 (shr .i64 x8 x42) 1) = (Go.bits .and .i64 (shr .i64 (rd x0 x42) x7) 1) then (minor_read.l1 k x0 x6 x7 x8 x19 x20 x21 x41 (wrap64 (x42 + 1))) else (some (([] : List Int), false))) else (none)) else (none)) else (none)) else (minor_read.l0 k x0 x6 x19 x20 (wrap64 (x21 + 1)))
end
def minor_read.f (k : Nat) (l0 : List Int) (a1 : Int) : Option (List Int × Bool) := if (l0.length : Int) < 1 then (minor_read.j0 k l0 (l0.length : Int) true) else (minor_read.j0 k l0 (l0.length : Int) (decide ((l0.length : Int) > a1)))
set_option maxHeartbeats 8000000 in
set_option maxRecDepth 100000 in
theorem minor_read.calls (k : Nat) (P0_ : Nat → Prop) (A0 : Option Addr) (c0 : Nat) (l0 : List Int) (a1 : Int) (r1 : List Int) (r2 : Bool) (w : World) (hs0 : Kd.V (Kd.int .i64) 3 w w.heap.size (fun k_ => P0_ k_) (.slice A0 l0.length c0) l0) (h : minor_read.f k l0 a1 = some (r1, r2)) :
  Calls Tryd.prog 63 #[.slice A0 l0.length c0, .int .i64 a1] w fun e w' => ∃ v0_ : Value, e = .returned (.tuple #[v0_, .bool r2]) ∧ Kd.V (Kd.int .i64) 3 w' w.heap.size (fun k_ => (P0_ k_ ∨ w.heap.size ≤ k_)) v0_ r1 ∧ Below w.heap.size w w' := by
 have HO0 := Aside0.mk (show Kd.V (Kd.int .i64) 3 w w.heap.size (fun k_ => (P0_ k_ ∨ w.heap.size ≤ k_)) (.slice A0 l0.length c0) l0 from Kd.V_mono hs0 (fun k_ hk => .inl hk))
 have HB := Aside0.mk (Below.refl w.heap.size w)
 have H : (if (l0.length : Int) < 1 then (minor_read.j0 k l0 (l0.length : Int) true) else (minor_read.j0 k l0 (l0.length : Int) (decide ((l0.length : Int) > a1)))) = some (r1, r2) := h
 clear h
 have HC3 := Aside0.mk H
 clear H
 go_enter Tryd.func63, Tryd.ntmps63
 go_upto_region 2 with (fail)
 repeat (go_quiet (fail); go_upto_region 2 with (fail))
 go_cut [18] (fun v18 wc => ∃ (kq : Nat) (x18_2 : Bool), v18 = .bool x18_2 ∧ Aside0 (minor_read.j0 kq l0 (l0.length : Int) x18_2 = some (r1, r2)) ∧ Aside0 (kq ≤ k) ∧ Aside0 (Kd.V (Kd.int .i64) 3 wc w.heap.size (fun k_ => (P0_ k_ ∨ w.heap.size ≤ k_)) (.slice A0 l0.length c0) l0) ∧ Aside0 (Below w.heap.size w wc))
 case first =>
  have H := HC3.out
  clear HC3
  by_cases c4 : (l0.length : Int) < 1
  ·rw [if_pos c4] at H
   have c4b0 : decide ((l0.length : Int) < 1) = true := decide_eq_true c4
   have c4b1 : decide (l0.length < 1) = true := decide_eq_true (by omega)
   clear c4
   (first | rw [c4b0] | (simp only [i64_w, i32_w]; rw [c4b0]) | skip)
   have H' := Aside0.mk H
   clear H
   go_wp2
   repeat (go_quiet (fail); try go_wp2)
   go_meet
   case rel => exact ⟨_, (true), (by first | rfl | (simp; done) | (simp [*]; done)), H', ⟨by first | omega | exact Nat.le_refl _⟩, ⟨by (with_reducible repeat (first | apply Kd.V_alloc | apply Kd.V_drewN | apply Kd.V_drew)); exact HO0.out⟩, ⟨by repeat (first | (with_reducible first | exact HB.out | apply below_alloc | apply pw_below_drewN | apply below_drew1) | exact HB.out)⟩⟩
  ·rw [if_neg c4] at H
   have c4b0 : decide ((l0.length : Int) < 1) = false := decide_eq_false c4
   have c4b1 : decide (l0.length < 1) = false := decide_eq_false (by omega)
   clear c4
   (first | rw [c4b0] | (simp only [i64_w, i32_w]; rw [c4b0]) | skip)
   have H' := Aside0.mk H
   clear H
   go_wp2
   repeat (go_quiet (fail); try go_wp2)
   go_meet
   case rel => exact ⟨_, (decide ((l0.length : Int) > a1)), (by first | rfl | (simp; done) | (simp [*]; done)), H', ⟨by first | omega | exact Nat.le_refl _⟩, ⟨by (with_reducible repeat (first | apply Kd.V_alloc | apply Kd.V_drewN | apply Kd.V_drew)); exact HO0.out⟩, ⟨by repeat (first | (with_reducible first | exact HB.out | apply below_alloc | apply pw_below_drewN | apply below_drew1) | exact HB.out)⟩⟩
 case rest =>
  clear HC3
  try clear p2
  try clear c4
  try clear c4b0
  try clear c4b1
  obtain ⟨kq, x18_2, rfl, HA, HJ2, HO_0, HB⟩ := hcut
  cases kq with
  | zero => exact absurd HA.out (by simp [minor_read.j0])
  | succ kj2 =>
   have H := HA.out
   clear HA
   simp only [minor_read.j0] at H
   by_cases c5 : x18_2 = true
   ·subst c5
    have H1 : (some (([] : List Int), false)) = some (r1, r2) := by rw [if_pos rfl] at H; exact H
    clear H
    have H := H1
    clear H1
    simp only [Option.some.injEq, Prod.mk.injEq] at H
    obtain ⟨rfl, rfl⟩ := H
    go_wp2
    repeat (go_quiet (fail); try go_wp2)
    go_ret2
    exact ⟨_, by first | rfl | (simp [errW_none, errW_some] <;> rfl) | (simp [*, errW_none, errW_some] <;> rfl), Kd.V_nil _ _ _ _ _, by repeat (first | (with_reducible first | exact HB.out | apply below_alloc | apply pw_below_drewN | apply below_drew1) | exact HB.out)⟩
   ·replace c5 := Bool.eq_false_iff.mpr c5
    subst c5
    have H1 : (minor_read.l0 kj2 l0 (l0.length : Int) l0 (l0.length : Int) 0) = some (r1, r2) := by rw [if_neg (show ¬ (false = true) by decide)] at H; exact H
    clear H
    have H := H1
    clear H1
    have H' := Aside0.mk H
    clear H
    go_wp2
    repeat (go_quiet (fail); try go_wp2)
    go_loopg [21] kj2 (fun kq v21 w' => ∃ (x21_2 : Int), v21 = .int .i64 x21_2 ∧ Aside0 (minor_read.l0 kq l0 (l0.length : Int) l0 (l0.length : Int) x21_2 = some (r1, r2)) ∧ Aside0 (kq ≤ kj2) ∧ Aside0 (Kd.V (Kd.int .i64) 3 w' w.heap.size (fun k_ => (P0_ k_ ∨ w.heap.size ≤ k_)) (.slice A0 l0.length c0) l0) ∧ Aside0 (Kd.V (Kd.int .i64) 3 w' w.heap.size (fun k_ => (P0_ k_ ∨ w.heap.size ≤ k_)) (.slice A0 l0.length c0) l0) ∧ Aside0 (Below w.heap.size w w'))
    case atStart => exact ⟨(0), (by first | rfl | (simp; done) | (simp [*]; done)), H', ⟨Nat.le_refl _⟩, ⟨by (with_reducible repeat (first | apply Kd.V_alloc | apply Kd.V_drewN | apply Kd.V_drew)); exact HO_0.out⟩, ⟨by (with_reducible repeat (first | apply Kd.V_alloc | apply Kd.V_drewN | apply Kd.V_drew)); exact HO_0.out⟩, ⟨by repeat (first | (with_reducible first | exact HB.out | apply below_alloc | apply pw_below_drewN | apply below_drew1) | exact HB.out)⟩⟩
    case round =>
     clear H'
     try clear p2
     try clear c4
     try clear c4b0
     try clear c4b1
     try clear c5
     try clear p2
     obtain ⟨x21_2, rfl, HA, HK2, HO_0, HO_19, HB⟩ := hrel
     cases gk with
     | zero => exact absurd HA.out (by simp [minor_read.l0])
     | succ k2 =>
      have H := HA.out
      clear HA
      simp only [minor_read.l0] at H
      by_cases c6 : x21_2 < (l0.length : Int)
      ·rw [if_pos c6] at H
       have c6b0 : decide (x21_2 < (l0.length : Int)) = true := decide_eq_true c6
       clear c6
       by_cases c7 : 0 ≤ x21_2
       ·rw [if_pos c7] at H
        have c7b0 : decide (0 ≤ x21_2) = true := decide_eq_true c7
        clear c7
        by_cases c8 : x21_2 < (l0.length : Int)
        ·rw [if_pos c8] at H
         have c8b0 : decide (x21_2 < (l0.length : Int)) = true := decide_eq_true c8
         clear c8
         have HC9 := Aside0.mk H
         clear H
         have p104 : 0 ≤ (x21_2 : Int) := of_decide_eq_true (by first | (with_reducible assumption) | assumption)
         have q104 : x21_2 < (l0.length : Int) := of_decide_eq_true (by first | (with_reducible assumption) | assumption)
         obtain ⟨ad104, e104, hx104_0⟩ := Kd.at_int (Kd.V_reads' HO_19.out).2.2 x21_2 p104 q104
         cases e104
         replace p104 := eq_true p104
         replace q104 := eq_true q104
         go_upto_region 7 with (fail)
         repeat (go_quiet (fail); go_upto_region 7 with (fail))
         go_cut [40] (fun v40 wc => ∃ (kq : Nat) (x40_8 : Bool), v40 = .bool x40_8 ∧ Aside0 (minor_read.j2 kq l0 (l0.length : Int) x21_2 (rd l0 x21_2) l0 (l0.length : Int) x21_2 x40_8 = some (r1, r2)) ∧ Aside0 (kq ≤ k2) ∧ Aside0 (Kd.V (Kd.int .i64) 3 wc w.heap.size (fun k_ => (P0_ k_ ∨ w.heap.size ≤ k_)) (.slice (some ad104) l0.length c0) l0) ∧ Aside0 (Kd.V (Kd.int .i64) 3 wc w.heap.size (fun k_ => (P0_ k_ ∨ w.heap.size ≤ k_)) (.slice (some ad104) l0.length c0) l0) ∧ Aside0 (Below w.heap.size w wc))
         case first =>
          have H := HC9.out
          clear HC9
          by_cases c10 : (rd l0 x21_2) < 0
          ·rw [if_pos c10] at H
           have c10b0 : decide ((rd l0 x21_2) < 0) = true := decide_eq_true c10
           clear c10
           (first | rw [c10b0] | (simp only [i64_w, i32_w]; rw [c10b0]) | skip)
           have H' := Aside0.mk H
           clear H
           go_wp2
           repeat (go_quiet (fail); try go_wp2)
           go_meet
           case rel => exact ⟨_, (true), (by first | rfl | (simp; done) | (simp [*]; done)), H', ⟨by have := HJ2.out; have := HK2.out; first | omega | exact Nat.le_refl _⟩, ⟨by (with_reducible repeat (first | apply Kd.V_alloc | apply Kd.V_drewN | apply Kd.V_drew)); exact HO_0.out⟩, ⟨by (with_reducible repeat (first | apply Kd.V_alloc | apply Kd.V_drewN | apply Kd.V_drew)); exact HO_19.out⟩, ⟨by repeat (first | (with_reducible first | exact HB.out | apply below_alloc | apply pw_below_drewN | apply below_drew1) | exact HB.out)⟩⟩
          ·rw [if_neg c10] at H
           have c10b0 : decide ((rd l0 x21_2) < 0) = false := decide_eq_false c10
           clear c10
           (first | rw [c10b0] | (simp only [i64_w, i32_w]; rw [c10b0]) | skip)
           by_cases c11 : 0 ≤ (l0.length : Int)
           ·rw [if_pos c11] at H
            have c11b0 := eq_true c11
            have c11b1 : decide (0 ≤ (l0.length : Int)) = true := decide_eq_true c11
            clear c11
            obtain ⟨ji12, hji12⟩ : ∃ j_ : Int, (shl .i64 1 (l0.length : Int)) = j_ := ⟨_, rfl⟩
            replace H : (if (rd l0 x21_2) ≥ (ji12) then (minor_read.j2 k2 l0 (l0.length : Int) x21_2 (rd l0 x21_2) l0 (l0.length : Int) x21_2 true) else (minor_read.j2 k2 l0 (l0.length : Int) x21_2 (rd l0 x21_2) l0 (l0.length : Int) x21_2 ((Go.bits .and .i64 (shr .i64 (rd l0 x21_2) x21_2) 1) == 1))) = some (r1, r2) := by first | (rw [hji12] at H; exact H) | (simp only [hji12] at H ⊢; exact H)
            have hji12_ : (IntKind.i64.wrap (1 * 2 ^ min (l0.length : Int).toNat 64)) = ji12 := hji12
            have hji12z : (l0.length : Int) ≤ 64 → (IntKind.i64.wrap (1 * 2 ^ (l0.length : Int).toNat)) = ji12 := shl_small hji12
            have hji12p : (IntKind.i64.wrap (1 * 2 ^ min l0.length 64)) = ji12 := hji12_
            have hji12q : (l0.length : Int) ≤ 64 → (IntKind.i64.wrap (1 * 2 ^ l0.length)) = ji12 := hji12z
            have hji12r : (IntKind.i64.wrap (2 ^ min l0.length 64)) = ji12 := by have h_ := hji12p; rw [Int.one_mul] at h_; exact h_
            have hji12s : (l0.length : Int) ≤ 64 → (IntKind.i64.wrap (2 ^ l0.length)) = ji12 := fun hle_ => by have h_ := hji12q hle_; rw [Int.one_mul] at h_; exact h_
            have hji12u : (IntKind.i64.wrap (2 ^ min (l0.length : Int).toNat 64)) = ji12 := by have h_ := hji12_; rw [Int.one_mul] at h_; exact h_
            have hji12v : (l0.length : Int) ≤ 64 → (IntKind.i64.wrap (2 ^ (l0.length : Int).toNat)) = ji12 := fun hle_ => by have h_ := hji12z hle_; rw [Int.one_mul] at h_; exact h_
            have hji12y : (wrap64 (1 * 2 ^ min (l0.length : Int).toNat 64)) = ji12 := (i64_w _).symm.trans hji12_
            have hji12x : (l0.length : Int) ≤ 64 → (wrap64 (1 * 2 ^ (l0.length : Int).toNat)) = ji12 := fun h_ => (i64_w _).symm.trans (hji12z h_)
            by_cases c13 : (rd l0 x21_2) ≥ (ji12)
            ·rw [if_pos c13] at H
             have c13b0 : decide ((ji12) ≤ (rd l0 x21_2)) = true := decide_eq_true c13
             clear c13
             have H' := Aside0.mk H
             clear H
             go_wp2
             repeat (go_quiet (fail); try go_wp2)
             go_meet
             case rel => exact ⟨_, (true), (by first | rfl | (simp; done) | (simp [*]; done)), H', ⟨by have := HJ2.out; have := HK2.out; first | omega | exact Nat.le_refl _⟩, ⟨by (with_reducible repeat (first | apply Kd.V_alloc | apply Kd.V_drewN | apply Kd.V_drew)); exact HO_0.out⟩, ⟨by (with_reducible repeat (first | apply Kd.V_alloc | apply Kd.V_drewN | apply Kd.V_drew)); exact HO_19.out⟩, ⟨by repeat (first | (with_reducible first | exact HB.out | apply below_alloc | apply pw_below_drewN | apply below_drew1) | exact HB.out)⟩⟩
            ·rw [if_neg c13] at H
             have c13b0 : decide ((ji12) ≤ (rd l0 x21_2)) = false := decide_eq_false c13
             clear c13
             have c14b0 := eq_true (of_decide_eq_true (by first | (with_reducible assumption) | assumption) : 0 ≤ x21_2)
             obtain ⟨ji15, hji15⟩ : ∃ j_ : Int, (shr .i64 (rd l0 x21_2) x21_2) = j_ := ⟨_, rfl⟩
             replace H : (minor_read.j2 k2 l0 (l0.length : Int) x21_2 (rd l0 x21_2) l0 (l0.length : Int) x21_2 ((Go.bits .and .i64 (ji15) 1) == 1)) = some (r1, r2) := by first | (rw [hji15] at H; exact H) | (simp only [hji15] at H ⊢; exact H)
             have hji15_ : ((rd l0 x21_2) / 2 ^ min x21_2.toNat 64) = ji15 := hji15
             have hji15z : x21_2 ≤ 64 → ((rd l0 x21_2) / 2 ^ x21_2.toNat) = ji15 := shr_small hji15
             have H' := Aside0.mk H
             clear H
             go_wp2
             repeat (go_quiet (fail); try go_wp2)
             go_meet
             case rel => exact ⟨_, (((Go.bits .and .i64 (ji15) 1) == 1)), (by first | rfl | (simp; done) | (simp only [← hji15] <;> (first | rfl | simp)) | (simp [*]; done)), H', ⟨by have := HJ2.out; have := HK2.out; first | omega | exact Nat.le_refl _⟩, ⟨by (with_reducible repeat (first | apply Kd.V_alloc | apply Kd.V_drewN | apply Kd.V_drew)); exact HO_0.out⟩, ⟨by (with_reducible repeat (first | apply Kd.V_alloc | apply Kd.V_drewN | apply Kd.V_drew)); exact HO_19.out⟩, ⟨by repeat (first | (with_reducible first | exact HB.out | apply below_alloc | apply pw_below_drewN | apply below_drew1) | exact HB.out)⟩⟩
           ·rw [if_neg c11] at H
            exact absurd H (by simp)
         case rest =>
          clear HC9
          try clear c1
          try clear p1
          try clear q1
          try clear hx1
          try clear p2
          try clear c4
          try clear c4b0
          try clear c4b1
          try clear c5
          try clear c6
          try clear c6b0
          try clear p6
          try clear c7
          try clear c7b0
          try clear c8
          try clear c8b0
          try clear c10
          try clear c10b0
          try clear p10
          try clear q10
          try clear hx10
          try clear c11
          try clear c11b0
          try clear c11b1
          try clear c13
          try clear c13b0
          try clear c14
          try clear c14b0
          try clear hx104_0
          try clear p104
          try clear p2
          try clear q104
          obtain ⟨kq, x40_8, rfl, HA, HJ8, HO_0, HO_19, HB⟩ := hcut
          cases kq with
          | zero => exact absurd HA.out (by simp [minor_read.j2])
          | succ kj8 =>
           have H := HA.out
           clear HA
           simp only [minor_read.j2] at H
           by_cases c16 : x40_8 = true
           ·subst c16
            have H1 : (some (([] : List Int), false)) = some (r1, r2) := by rw [if_pos rfl] at H; exact H
            clear H
            have H := H1
            clear H1
            simp only [Option.some.injEq, Prod.mk.injEq] at H
            obtain ⟨rfl, rfl⟩ := H
            go_wp2
            repeat (go_quiet (fail); try go_wp2)
            go_ret2
            exact ⟨_, by first | rfl | (simp [errW_none, errW_some] <;> rfl) | (simp [*, errW_none, errW_some] <;> rfl), Kd.V_nil _ _ _ _ _, by repeat (first | (with_reducible first | exact HB.out | apply below_alloc | apply pw_below_drewN | apply below_drew1) | exact HB.out)⟩
           ·replace c16 := Bool.eq_false_iff.mpr c16
            subst c16
            have H1 : (minor_read.l1 kj8 l0 (l0.length : Int) x21_2 (rd l0 x21_2) l0 (l0.length : Int) x21_2 (l0.length : Int) 0) = some (r1, r2) := by rw [if_neg (show ¬ (false = true) by decide)] at H; exact H
            clear H
            have H := H1
            clear H1
            have H' := Aside0.mk H
            clear H
            go_wp2
            repeat (go_quiet (fail); try go_wp2)
            go_loopg [42] kj8 (fun kq v42 w' => ∃ (x42_4 : Int), v42 = .int .i64 x42_4 ∧ Aside0 (minor_read.l1 kq l0 (l0.length : Int) x21_2 (rd l0 x21_2) l0 (l0.length : Int) x21_2 (l0.length : Int) x42_4 = some (r1, r2)) ∧ Aside0 (kq ≤ kj8) ∧ Aside0 (Kd.V (Kd.int .i64) 3 w' w.heap.size (fun k_ => (P0_ k_ ∨ w.heap.size ≤ k_)) (.slice (some ad104) l0.length c0) l0) ∧ Aside0 (Kd.V (Kd.int .i64) 3 w' w.heap.size (fun k_ => (P0_ k_ ∨ w.heap.size ≤ k_)) (.slice (some ad104) l0.length c0) l0) ∧ Aside0 (Below w.heap.size w w'))
            case atStart => exact ⟨(0), (by first | rfl | (simp; done) | (simp [*]; done)), H', ⟨Nat.le_refl _⟩, ⟨by (with_reducible repeat (first | apply Kd.V_alloc | apply Kd.V_drewN | apply Kd.V_drew)); exact HO_0.out⟩, ⟨by (with_reducible repeat (first | apply Kd.V_alloc | apply Kd.V_drewN | apply Kd.V_drew)); exact HO_19.out⟩, ⟨by repeat (first | (with_reducible first | exact HB.out | apply below_alloc | apply pw_below_drewN | apply below_drew1) | exact HB.out)⟩⟩
            case round =>
             clear H'
             try clear c1
             try clear p1
             try clear q1
             try clear hx1
             try clear p2
             try clear c4
             try clear c4b0
             try clear c4b1
             try clear c5
             try clear c6
             try clear c6b0
             try clear p6
             try clear c7
             try clear c7b0
             try clear c8
             try clear c8b0
             try clear c10
             try clear c10b0
             try clear p10
             try clear q10
             try clear hx10
             try clear c11
             try clear c11b0
             try clear c11b1
             try clear c13
             try clear c13b0
             try clear c14
             try clear c14b0
             try clear c16
             try clear hx104_0
             try clear p1
             try clear p10
             try clear p104
             try clear p2
             try clear p6
             try clear q1
             try clear q10
             try clear q104
             obtain ⟨x42_4, rfl, HA, HK4, HO_0, HO_19, HB⟩ := hrel
             cases gk with
             | zero => exact absurd HA.out (by simp [minor_read.l1])
             | succ k4 =>
              have H := HA.out
              clear HA
              simp only [minor_read.l1] at H
              by_cases c17 : x42_4 < (l0.length : Int)
              ·rw [if_pos c17] at H
               have c17b0 : decide (x42_4 < (l0.length : Int)) = true := decide_eq_true c17
               clear c17
               by_cases c18 : 0 ≤ x42_4
               ·rw [if_pos c18] at H
                have c18b0 := eq_true c18
                have c18b1 : decide (0 ≤ x42_4) = true := decide_eq_true c18
                clear c18
                obtain ⟨ji19, hji19⟩ : ∃ j_ : Int, (shr .i64 (rd l0 x21_2) x42_4) = j_ := ⟨_, rfl⟩
                replace H : (if x42_4 < (l0.length : Int) then (if 0 ≤ x21_2 then (if (Go.bits .and .i64 (ji19) 1) = (Go.bits .and .i64 (shr .i64 (rd l0 x42_4) x21_2) 1) then (minor_read.l1 k4 l0 (l0.length : Int) x21_2 (rd l0 x21_2) l0 (l0.length : Int) x21_2 (l0.length : Int) (wrap64 (x42_4 + 1))) else (some (([] : List Int), false))) else (none)) else (none)) = some (r1, r2) := by first | (rw [hji19] at H; exact H) | (simp only [hji19] at H ⊢; exact H)
                have hji19_ : ((rd l0 x21_2) / 2 ^ min x42_4.toNat 64) = ji19 := hji19
                have hji19z : x42_4 ≤ 64 → ((rd l0 x21_2) / 2 ^ x42_4.toNat) = ji19 := shr_small hji19
                by_cases c20 : x42_4 < (l0.length : Int)
                ·rw [if_pos c20] at H
                 have c20b0 : decide (x42_4 < (l0.length : Int)) = true := decide_eq_true c20
                 clear c20
                 by_cases c21 : 0 ≤ x21_2
                 ·rw [if_pos c21] at H
                  have c21b0 := eq_true c21
                  have c21b1 : decide (0 ≤ x21_2) = true := decide_eq_true c21
                  clear c21
                  obtain ⟨ji22, hji22⟩ : ∃ j_ : Int, (shr .i64 (rd l0 x42_4) x21_2) = j_ := ⟨_, rfl⟩
                  replace H : (if (Go.bits .and .i64 (ji19) 1) = (Go.bits .and .i64 (ji22) 1) then (minor_read.l1 k4 l0 (l0.length : Int) x21_2 (rd l0 x21_2) l0 (l0.length : Int) x21_2 (l0.length : Int) (wrap64 (x42_4 + 1))) else (some (([] : List Int), false))) = some (r1, r2) := by first | (rw [hji22] at H; exact H) | (simp only [hji22] at H ⊢; exact H)
                  have hji22_ : ((rd l0 x42_4) / 2 ^ min x21_2.toNat 64) = ji22 := hji22
                  have hji22z : x21_2 ≤ 64 → ((rd l0 x42_4) / 2 ^ x21_2.toNat) = ji22 := shr_small hji22
                  by_cases c23 : (Go.bits .and .i64 (ji19) 1) = (Go.bits .and .i64 (ji22) 1)
                  ·rw [if_pos c23] at H
                   have c23b0 : ((Go.bits .and .i64 (ji19) 1) == (Go.bits .and .i64 (ji22) 1)) = true := beq_iff_eq.mpr c23
                   have c23b1 : ((Go.bits .and .i64 (ji19) 1) != (Go.bits .and .i64 (ji22) 1)) = false := bne_eq_false_iff_eq.mpr c23
                   clear c23
                   have H' := Aside0.mk H
                   clear H
                   have p105 : 0 ≤ (x42_4 : Int) := of_decide_eq_true (by first | (with_reducible assumption) | assumption)
                   have q105 : x42_4 < (l0.length : Int) := of_decide_eq_true (by first | (with_reducible assumption) | assumption)
                   obtain ⟨ad105, e105, hx105_0⟩ := Kd.at_int (Kd.V_reads' HO_0.out).2.2 x42_4 p105 q105
                   obtain rfl : ad104 = ad105 := (by injection e105)
                   replace p105 := eq_true p105
                   replace q105 := eq_true q105
                   go_wp2
                   repeat (go_quiet (fail); try go_wp2)
                   go_roundg k4
                   case measure => have := HJ2.out; have := HK2.out; have := HJ8.out; have := HK4.out; omega
                   case rel => exact ⟨(wrap64 (x42_4 + 1)), (by first | rfl | (simp; done) | (simp [*]; done)), H', ⟨by have := HJ2.out; have := HK2.out; have := HJ8.out; have := HK4.out; omega⟩, ⟨by (with_reducible repeat (first | apply Kd.V_alloc | apply Kd.V_drewN | apply Kd.V_drew)); exact HO_0.out⟩, ⟨by (with_reducible repeat (first | apply Kd.V_alloc | apply Kd.V_drewN | apply Kd.V_drew)); exact HO_19.out⟩, ⟨by repeat (first | (with_reducible first | exact HB.out | apply below_alloc | apply pw_below_drewN | apply below_drew1) | exact HB.out)⟩⟩
                  ·rw [if_neg c23] at H
                   have c23b0 : ((Go.bits .and .i64 (ji19) 1) == (Go.bits .and .i64 (ji22) 1)) = false := beq_eq_false_iff_ne.mpr c23
                   have c23b1 : ((Go.bits .and .i64 (ji19) 1) != (Go.bits .and .i64 (ji22) 1)) = true := bne_iff_ne.mpr c23
                   simp only [Option.some.injEq, Prod.mk.injEq] at H
                   obtain ⟨rfl, rfl⟩ := H
                   have p105 : 0 ≤ (x42_4 : Int) := of_decide_eq_true (by first | (with_reducible assumption) | assumption)
                   have q105 : x42_4 < (l0.length : Int) := of_decide_eq_true (by first | (with_reducible assumption) | assumption)
                   obtain ⟨ad105, e105, hx105_0⟩ := Kd.at_int (Kd.V_reads' HO_0.out).2.2 x42_4 p105 q105
                   obtain rfl : ad104 = ad105 := (by injection e105)
                   replace p105 := eq_true p105
                   replace q105 := eq_true q105
                   go_wp2
                   repeat (go_quiet (fail); try go_wp2)
                   go_ret2
                   exact ⟨_, by first | rfl | (simp [errW_none, errW_some] <;> rfl) | (simp only [← hji19, ← hji22]; first | rfl | (simp [errW_none, errW_some] <;> rfl)) | (simp [*, errW_none, errW_some] <;> rfl), Kd.V_nil _ _ _ _ _, by repeat (first | (with_reducible first | exact HB.out | apply below_alloc | apply pw_below_drewN | apply below_drew1) | exact HB.out)⟩
                 ·rw [if_neg c21] at H
                  exact absurd H (by simp)
                ·rw [if_neg c20] at H
                 exact absurd H (by simp)
               ·rw [if_neg c18] at H
                exact absurd H (by simp)
              ·rw [if_neg c17] at H
               have c17b0 : decide (x42_4 < (l0.length : Int)) = false := decide_eq_false c17
               clear c17
               have H' := Aside0.mk H
               clear H
               go_wp2
               repeat (go_quiet (fail); try go_wp2)
               go_roundg k4
               case measure => have := HJ2.out; have := HK2.out; have := HJ8.out; have := HK4.out; omega
               case rel => exact ⟨(wrap64 (x21_2 + 1)), (by first | rfl | (simp; done) | (simp [*]; done)), H', ⟨by have := HJ2.out; have := HK2.out; have := HJ8.out; have := HK4.out; omega⟩, ⟨by (with_reducible repeat (first | apply Kd.V_alloc | apply Kd.V_drewN | apply Kd.V_drew)); exact HO_0.out⟩, ⟨by (with_reducible repeat (first | apply Kd.V_alloc | apply Kd.V_drewN | apply Kd.V_drew)); exact HO_19.out⟩, ⟨by repeat (first | (with_reducible first | exact HB.out | apply below_alloc | apply pw_below_drewN | apply below_drew1) | exact HB.out)⟩⟩
        ·rw [if_neg c8] at H
         exact absurd H (by simp)
       ·rw [if_neg c7] at H
        exact absurd H (by simp)
      ·rw [if_neg c6] at H
       have c6b0 : decide (x21_2 < (l0.length : Int)) = false := decide_eq_false c6
       clear c6
       simp only [Option.some.injEq, Prod.mk.injEq] at H
       obtain ⟨rfl, rfl⟩ := H
       go_wp2
       repeat (go_quiet (fail); try go_wp2)
       go_ret2
       exact ⟨_, by first | rfl | (simp [errW_none, errW_some] <;> rfl) | (simp [*, errW_none, errW_some] <;> rfl), by (with_reducible repeat (first | apply Kd.V_alloc | apply Kd.V_drewN | apply Kd.V_drew)); exact HO_0.out, by repeat (first | (with_reducible first | exact HB.out | apply below_alloc | apply pw_below_drewN | apply below_drew1) | exact HB.out)⟩
end Go.Proofs.YtjloppfdagfpmaaDoor.X
end
section
/- (minor) What read tells: a graph that is valid, or nothing. -/
namespace Go.Proofs.YtjloppfdagfpmaaDoor.X
open Go.RowKit YtjloppfdagfpmaaDoorW.PrintWords YtjloppfdagfpmaaDoorW.PrintLast YtjloppfdagfpmaaDoorW.PrintMore YtjloppfdagfpmaaDoor.T
theorem read_l1 (g : List Int) (hn : g.length ≤ 9) (i : Nat) (hi : i < g.length) (r : List Int × Bool)
  (hrest : Ev (fun k => minor_read.l0 k g (g.length : Int) g (g.length : Int) ((i + 1 : Nat) : Int)) r) :
  ∀ d j, j + d = g.length → Ev (fun k => minor_read.l1 k g (g.length : Int) (i : Int) (rd g (i : Int)) g (g.length : Int) (i : Int) (g.length : Int) (j : Int))
   (cond (allFrom (fun j => decide (ibit (rd g (i : Int)) j = ibit (rd g (j : Int)) i)) g.length d j) r (([] : List Int), false)) := by
 intro d
 induction d with
 | zero =>
  intro j hj
  refine Ev.step (fun k => ?_) hrest
  rw [minor_read.l1, if_neg (by omega), wrap_succ i (by omega)]
 | succ d ih =>
  intro j hj
  simp only [allFrom]
  by_cases hb : ibit (rd g (i : Int)) j = ibit (rd g (j : Int)) i
  ·refine Ev.step (f := fun k => minor_read.l1 k g (g.length : Int) (i : Int) (rd g (i : Int)) g (g.length : Int) (i : Int) (g.length : Int) ((j + 1 : Nat) : Int)) (fun k => ?_) ?_
   ·rw [minor_read.l1, if_pos (by omega), if_pos (by omega), if_pos (by omega), if_pos (by omega), wrap_succ j (by omega)]
    exact if_pos hb
   ·have := ih (j + 1) (by omega)
    simpa [hb] using this
  ·refine Ev.step (f := fun _ => some (([] : List Int), false)) (fun k => ?_) (Ev.some (by simp [hb]))
   rw [minor_read.l1, if_pos (by omega), if_pos (by omega), if_pos (by omega), if_pos (by omega)]
   exact if_neg hb
theorem read_l0 (g : List Int) (hn : g.length ≤ 9) :
  ∀ d i, i + d = g.length → Ev (fun k => minor_read.l0 k g (g.length : Int) g (g.length : Int) (i : Int)) (cond (allFrom (rowOk g) g.length d i) (g, true) (([] : List Int), false)) := by
 intro d
 induction d with
 | zero =>
  intro i hi
  refine Ev.step (f := fun _ => some (g, true)) (fun k => ?_) (Ev.some (by simp [allFrom]))
  rw [minor_read.l0, if_neg (by omega)]
 | succ d ih =>
  intro i hi
  have stop : ∀ k, minor_read.j2 (k + 1) g (g.length : Int) (i : Int) (rd g (i : Int)) g (g.length : Int) (i : Int) true = some (([] : List Int), false) := fun k => by
   rw [minor_read.j2, if_pos rfl]
  simp only [allFrom, rowOk]
  by_cases h1 : rd g (i : Int) < 0
  ·refine Ev.step (fun k => ?_) (f := fun k => minor_read.j2 k g (g.length : Int) (i : Int) (rd g (i : Int)) g (g.length : Int) (i : Int) true) ?_
   ·rw [minor_read.l0, if_pos (by omega), if_pos (by omega), if_pos (by omega), if_pos h1]
   ·exact Ev.step stop (Ev.some (by simp [h1]))
  ·by_cases h2 : rd g (i : Int) ≥ shl .i64 1 (g.length : Int)
   ·refine Ev.step (fun k => ?_) (f := fun k => minor_read.j2 k g (g.length : Int) (i : Int) (rd g (i : Int)) g (g.length : Int) (i : Int) true) ?_
    ·rw [minor_read.l0, if_pos (by omega), if_pos (by omega), if_pos (by omega), if_neg h1, if_pos (by omega), if_pos h2]
    ·exact Ev.step stop (Ev.some (by simp [h2]))
   ·refine Ev.step (fun k => ?_) (f := fun k => minor_read.j2 k g (g.length : Int) (i : Int) (rd g (i : Int)) g (g.length : Int) (i : Int) (ibit (rd g (i : Int)) i == 1)) ?_
    ·rw [minor_read.l0, if_pos (by omega), if_pos (by omega), if_pos (by omega), if_neg h1, if_pos (by omega), if_neg h2]
     rfl
    ·by_cases h3 : (ibit (rd g (i : Int)) i == 1) = true
     ·simp only [h3]
      exact Ev.step stop (Ev.some (by simp))
     ·refine Ev.step (fun k => by rw [minor_read.j2, if_neg h3]) ?_
      have := read_l1 g hn i (by omega) _ (ih (i + 1) (by omega)) g.length 0 (by omega)
      have h3' : (ibit (rd g (i : Int)) i == 1) = false := by simpa using h3
      simp only [h1, h2, h3', decide_false, Bool.not_false, Bool.true_and]
      cases h4 : allFrom (fun j => decide (ibit (rd g (i : Int)) j = ibit (rd g (j : Int)) i)) g.length g.length 0
      ·simpa [h4] using this
      ·simpa [h4] using this
theorem read_ev (m : Nat) (hm : m ≤ 9) (g : List Int) (hg : g.length < 2 ^ 60) : Ev (fun k => minor_read.f k g (m : Int)) (cond (chk m g) (g, true) (([] : List Int), false)) := by
 have stop : ∀ k, minor_read.j0 (k + 1) g (g.length : Int) true = some (([] : List Int), false) := fun k => by
  rw [minor_read.j0, if_pos rfl]
 by_cases h1 : g.length < 1
 ·refine Ev.congr (f := fun k => minor_read.j0 k g (g.length : Int) true) (fun k => ?_) (Ev.step stop (Ev.some ?_))
  ·rw [minor_read.f, if_pos (by omega)]
  ·have : ¬ 1 ≤ g.length := by omega
   simp [chk, this]
 ·refine Ev.congr (f := fun k => minor_read.j0 k g (g.length : Int) (decide ((g.length : Int) > (m : Int)))) (fun k => ?_) ?_
  ·rw [minor_read.f, if_neg (by omega)]
  ·by_cases h2 : g.length ≤ m
   ·have e : decide ((g.length : Int) > (m : Int)) = false := decide_eq_false (by omega)
    rw [e]
    refine Ev.step (fun k => by rw [minor_read.j0, if_neg (by simp)]) ?_
    have := read_l0 g (by omega) g.length 0 (by omega)
    have h3 : decide (1 ≤ g.length) = true := decide_eq_true (by omega)
    simpa [chk, h2, h3] using this
   ·have e : decide ((g.length : Int) > (m : Int)) = true := decide_eq_true (by omega)
    rw [e]
    refine Ev.step stop (Ev.some ?_)
    simp [chk, h2]
end Go.Proofs.YtjloppfdagfpmaaDoor.X
end
section
/- minor.Model, by hand: what read tells, and the search. -/
namespace Go.Proofs.YtjloppfdagfpmaaDoor.X
open Go.RowKit YtjloppfdagfpmaaDoorW.PrintWords YtjloppfdagfpmaaDoorW.PrintLast YtjloppfdagfpmaaDoorW.PrintMore YtjloppfdagfpmaaDoor.T
theorem gi_toNat (G : List Nat) : (gi G).map Int.toNat = G := by
 unfold gi
 rw [List.map_map]
 exact (List.map_congr_left (fun x _ => Int.toNat_natCast x)).trans (List.map_id _)
theorem read_yes (m : Nat) (hm : m ≤ 9) {G : List Nat} (hG : Gr m G) (A0 : Option Addr) (c0 : Nat) (w : World) (hr0 : Kd.C (Kd.int .i64) w A0 (gi G).length (gi G)) (hc0 : G.length ≤ c0) :
  Calls Tryd.prog 63 #[.slice A0 G.length c0, .int .i64 (m : Int)] w fun e w' => ∃ A1 c1, e = .returned (.tuple #[.slice A1 G.length c1, .bool true]) ∧ G.length ≤ c1 ∧ Kd.C (Kd.int .i64) w' A1 (gi G).length (gi G) ∧ Below w.heap.size w w' := by
 obtain ⟨K, hK⟩ := read_ev m hm (gi G) (by rw [gi_length]; have := hG.most; omega)
 have hk := hK K (Nat.le_refl _)
 rw [(chk_iff m (by omega) _).2 ⟨G, rfl, hG⟩] at hk
 have hl := gi_length G
 have := minor_read.calls K (fun k_ => k_ < w.heap.size) A0 c0 (gi G) (m : Int) (gi G) true w (Kd.V_mk (by rw [hl]; exact hc0) (Kd.F_below (Kd.C_F (Kd.heap_int .i64) hr0) (Below.refl _ _))) hk
 rw [hl] at this
 refine this.mono ?_
 rintro e w' ⟨v, rfl, hv, hb⟩
 obtain ⟨A1, c1, rfl⟩ := Kd.V_slice hv
 have h2 := Kd.V_reads' hv
 rw [hl] at *
 exact ⟨A1, c1, rfl, h2.2.1, h2.2.2, hb⟩
theorem read_no (m : Nat) (hm : m ≤ 9) {g : List Int} (hl : g.length < 2 ^ 60) (hg : chk m g = false) (A0 : Option Addr) (c0 : Nat) (w : World) (hr0 : Kd.C (Kd.int .i64) w A0 g.length g) (hc0 : g.length ≤ c0) :
  Calls Tryd.prog 63 #[.slice A0 g.length c0, .int .i64 (m : Int)] w fun e w' => ∃ v, e = .returned (.tuple #[v, .bool false]) ∧ Below w.heap.size w w' := by
 obtain ⟨K, hK⟩ := read_ev m hm g hl
 have hk := hK K (Nat.le_refl _)
 rw [hg] at hk
 refine (minor_read.calls K (fun k_ => k_ < w.heap.size) A0 c0 g (m : Int) [] false w (Kd.V_mk hc0 (Kd.F_below (Kd.C_F (Kd.heap_int .i64) hr0) (Below.refl _ _))) hk).mono ?_
 rintro e w' ⟨v, rfl, hv, hb⟩
 exact ⟨v, rfl, hb⟩
theorem read_any (m : Nat) (hm : m ≤ 9) {g : List Int} (hl : g.length < 2 ^ 60) (A0 : Option Addr) (c0 : Nat) (w : World) (hr0 : Kd.C (Kd.int .i64) w A0 g.length g) (hc0 : g.length ≤ c0) :
  Calls Tryd.prog 63 #[.slice A0 g.length c0, .int .i64 (m : Int)] w fun e w' => ∃ v, e = .returned (.tuple #[v, .bool (chk m g)]) ∧ (chk m g = true → ∃ A1 c1, v = .slice A1 g.length c1 ∧ g.length ≤ c1 ∧ Kd.C (Kd.int .i64) w' A1 g.length g) ∧ Below w.heap.size w w' := by
 cases h : chk m g
 ·refine (read_no m hm hl h A0 c0 w hr0 hc0).mono ?_
  rintro e w' ⟨v, rfl, hb⟩
  exact ⟨v, rfl, (fun h => by cases h), hb⟩
 ·obtain ⟨G, rfl, hG⟩ := (chk_iff m (by omega) _).1 h
  have := read_yes m hm hG A0 c0 w hr0 (by rw [gi_length] at hc0; exact hc0)
  rw [gi_length] at *
  refine this.mono ?_
  rintro e w' ⟨A1, c1, rfl, h1, h2, hb⟩
  exact ⟨_, rfl, fun _ => ⟨A1, c1, rfl, h1, h2⟩, hb⟩
def minor_Model.f (g p : List Int) : Option (List Int × Int) :=
 if g.length < 1000 ∧ p.length < 1000 then some (if (chk 8 g && chk 6 p) = true then ((findN (g.map Int.toNat) (p.map Int.toNat)).elim ([], 4) fun M => (gi M, 0)) else ([], 2)) else none
set_option maxHeartbeats 4000000 in
set_option maxRecDepth 100000 in
theorem minor_Model.calls (A0 : Option Addr) (c0 : Nat) (l0 : List Int) (A1 : Option Addr) (c1 : Nat) (l1 : List Int) (r1 : List Int) (r2 : Int) (w : World) (hGL : GL w) (hr0 : Kd.C (Kd.int .i64) w A0 l0.length l0) (hc0 : l0.length ≤ c0) (hr1 : Kd.C (Kd.int .i64) w A1 l1.length l1) (hc1 : l1.length ≤ c1) (h : minor_Model.f l0 l1 = some (r1, r2)) :
  Calls Tryd.prog 21 #[.slice A0 l0.length c0, .slice A1 l1.length c1] w fun e w' => ∃ v, e = .returned (.tuple #[v, .int .i64 r2]) ∧ Kd.R (Kd.int .i64) 3 w' w.heap.size (fun _ => True) v r1 ∧ Below w.heap.size w w' := by
 unfold minor_Model.f at h
 by_cases hlen : l0.length < 1000 ∧ l1.length < 1000
 ·rw [if_pos hlen] at h
  have h := Option.some.inj h
  have HC1 : Aside0 (∀ W, Below w.heap.size w W → Calls Tryd.prog 63 #[.slice A0 l0.length c0, .int .i64 8] W fun e w' => ∃ v, e = .returned (.tuple #[v, .bool (chk 8 l0)]) ∧ (chk 8 l0 = true → ∃ A1 c1, v = .slice A1 l0.length c1 ∧ l0.length ≤ c1 ∧ Kd.C (Kd.int .i64) w' A1 l0.length l0) ∧ Below W.heap.size W w') := ⟨fun W hW => read_any 8 (by omega) (by omega) A0 c0 W (Kd.C_below hr0 hW) hc0⟩
  have HC2 : Aside0 (∀ W, Below w.heap.size w W → Calls Tryd.prog 63 #[.slice A1 l1.length c1, .int .i64 6] W fun e w' => ∃ v, e = .returned (.tuple #[v, .bool (chk 6 l1)]) ∧ (chk 6 l1 = true → ∃ A c, v = .slice A l1.length c ∧ l1.length ≤ c ∧ Kd.C (Kd.int .i64) w' A l1.length l1) ∧ Below W.heap.size W w') := ⟨fun W hW => read_any 6 (by omega) (by omega) A1 c1 W (Kd.C_below hr1 hW) hc1⟩
  have HGL := Aside0.mk hGL
  cases hg : chk 8 l0
  ·rw [hg] at h HC1
   injection h with h1 h2
   subst h1 h2
   clear hg hr0 hr1
   go_enter Tryd.func21, Tryd.ntmps21
   go_wp2_with (first
    | (go_at_call 63; refine (HC2.out _ HB1.out).mono ?_; rintro e w2 ⟨v2, rfl, _, hb2⟩; have HB2 := Aside0.mk (below_step HB1.out hb2); clear hb2)
    | (go_at_call 63; refine (HC1.out _ (Below.refl _ _)).mono ?_; rintro e w1 ⟨v1, rfl, _, hb1⟩; have HB1 := Aside0.mk hb1; clear hb1))
   go_ret2
   exact ⟨_, rfl, Kd.R_nil _ _ _ _ _, HB2.out⟩
  ·cases hp : chk 6 l1
   ·rw [hg, hp] at h
    rw [hg] at HC1
    rw [hp] at HC2
    injection h with h1 h2
    subst h1 h2
    clear hg hp hr0 hr1
    go_enter Tryd.func21, Tryd.ntmps21
    go_wp2_with (first
     | (go_at_call 63; refine (HC2.out _ HB1.out).mono ?_; rintro e w2 ⟨v2, rfl, _, hb2⟩; have HB2 := Aside0.mk (below_step HB1.out hb2); clear hb2)
     | (go_at_call 63; refine (HC1.out _ (Below.refl _ _)).mono ?_; rintro e w1 ⟨v1, rfl, _, hb1⟩; have HB1 := Aside0.mk hb1; clear hb1))
    go_ret2
    exact ⟨_, rfl, Kd.R_nil _ _ _ _ _, HB2.out⟩
   ·rw [hg, hp] at h
    rw [hg] at HC1
    rw [hp] at HC2
    obtain ⟨G, rfl, hG⟩ := (chk_iff 8 (by omega) _).1 hg
    obtain ⟨P, rfl, hP⟩ := (chk_iff 6 (by omega) _).1 hp
    rw [gi_toNat, gi_toNat] at h
    simp only [gi_length] at HC1 HC2 hr0 hr1 hc0 hc1 ⊢
    have hn := hG.most
    have hpn := hP.most
    have HFD : Aside0 (∀ W A c A' c', Below w.heap.size w W → G.length ≤ c → Kd.C (Kd.int .i64) W A G.length (gi G) → Kd.C (Kd.int .i64) W A' P.length (gi P) → Calls Tryd.prog 64 #[.slice A G.length c, .slice A' P.length c'] W fun e w' => ∃ v, e = .returned v ∧ Kd.R (Kd.int .i64) 3 w' W.heap.size (fun _ => True) v ((findN G P).elim [] gi) ∧ ((findN G P = none ∧ v = .slice none 0 0) ∨ ((findN G P).isSome = true ∧ ∃ a n c, v = .slice (some a) n c)) ∧ Below W.heap.size W w') := ⟨fun W A c A' c' hW hc hA hA' =>
     find_calls A c G (gr_mono hG (by omega)) hc A' c' P hP.pos (by omega) (fun x hx => small P (by omega) (by
      obtain ⟨i, hi, e⟩ := List.getElem_of_mem hx
      have := hP.row i
      rw [List.getD_eq_getElem?_getD, List.getElem?_eq_getElem hi] at this
      rw [← e]
      exact this)) W (GL_below HGL.out hW) (by rw [gi_length]; exact hA) (by rw [gi_length]; exact hA')⟩
    clear hg hp hr0 hr1 hG hP hGL
    cases hf : findN G P with
    | none =>
     rw [hf] at HFD h
     injection h with h1 h2
     subst h1 h2
     clear hf
     have heq_ := fun (w : World) (a : Option Addr) (n c : Nat) => Lib.run_eql_slice_nil (P := Tryd.prog) w 22 3 a n c 0 0 Tryd.underlying22
     go_enter Tryd.func21, Tryd.ntmps21
     go_wp2_with (first
      | (go_at_call 63; refine (HC2.out _ HB1.out).mono ?_; rintro e w2 ⟨v2, rfl, hv2, hb2⟩; obtain ⟨A6, c6, rfl, hc6, hC6⟩ := hv2 trivial; have HB2 := Aside0.mk (below_step HB1.out hb2); have HB12 := Aside0.mk hb2; have HC6 := Aside0.mk hC6; clear hb2 hv2 hC6)
      | (go_at_call 63; refine (HC1.out _ (Below.refl _ _)).mono ?_; rintro e w1 ⟨v1, rfl, hv1, hb1⟩; obtain ⟨A5, c5, rfl, hc5, hC5⟩ := hv1 trivial; have HB1 := Aside0.mk hb1; have HC5 := Aside0.mk hC5; clear hb1 hv1 hC5)
      | (go_at_call 64; refine (HFD.out _ _ _ _ _ HB2.out hc5 (Kd.C_below HC5.out HB12.out) HC6.out).mono ?_; rintro e w3 ⟨v3, rfl, _, hv3, hb3⟩; have hv4 : v3 = .slice none 0 0 := hv3.elim (fun h => h.2) (fun h => by cases h.1); subst hv4; have HB3 := Aside0.mk (below_step HB2.out hb3); clear hb3))
     go_ret2
     exact ⟨_, rfl, Kd.R_nil _ _ _ _ _, HB3.out⟩
    | some M =>
     rw [hf] at HFD h
     injection h with h1 h2
     subst h1 h2
     clear hf
     have heq_ := fun (w : World) (a : Option Addr) (n c : Nat) => Lib.run_eql_slice_nil (P := Tryd.prog) w 22 3 a n c 0 0 Tryd.underlying22
     go_enter Tryd.func21, Tryd.ntmps21
     go_wp2_with (first
      | (go_at_call 63; refine (HC2.out _ HB1.out).mono ?_; rintro e w2 ⟨v2, rfl, hv2, hb2⟩; obtain ⟨A6, c6, rfl, hc6, hC6⟩ := hv2 trivial; have HB2 := Aside0.mk (below_step HB1.out hb2); have HB12 := Aside0.mk hb2; have HC6 := Aside0.mk hC6; clear hb2 hv2 hC6)
      | (go_at_call 63; refine (HC1.out _ (Below.refl _ _)).mono ?_; rintro e w1 ⟨v1, rfl, hv1, hb1⟩; obtain ⟨A5, c5, rfl, hc5, hC5⟩ := hv1 trivial; have HB1 := Aside0.mk hb1; have HC5 := Aside0.mk hC5; clear hb1 hv1 hC5)
      | (go_at_call 64; refine (HFD.out _ _ _ _ _ HB2.out hc5 (Kd.C_below HC5.out HB12.out) HC6.out).mono ?_; rintro e w3 ⟨v3, rfl, hR3, hv3, hb3⟩; obtain ⟨a3, n3, c3, rfl⟩ : ∃ a n c, v3 = .slice (some a) n c := hv3.elim (fun h => by cases h.1) (fun h => h.2); have HB3 := Aside0.mk (below_step HB2.out hb3); have HR3 := Aside0.mk hR3; clear hb3 hR3))
     go_ret2
     exact ⟨_, rfl, Kd.R_lower HR3.out HB2.out.size, HB3.out⟩
 ·rw [if_neg hlen] at h
  cases h
end Go.Proofs.YtjloppfdagfpmaaDoor.X
end
section
namespace Go.Proofs.YtjloppfdagfpmaaDoor.X
open Go.RowKit YtjloppfdagfpmaaDoorW.PrintWords YtjloppfdagfpmaaDoorW.PrintLast YtjloppfdagfpmaaDoorW.PrintMore
attribute [local go_sem] max2_int min2_int max_two min_two max_three min_three max_four min_four
/-! ### slices_Equal_int_int: function 27 -/
def slices_Equal_int_int.l0 : Nat → List Int → List Int → Int → Int → Option (Bool)
 | 0, _, _, _, _ => none
 | k + 1, x0, x1, x12, x13 => if x13 < x12 then (if 0 ≤ x13 then (if x13 < (x0.length : Int) then (if x13 < (x1.length : Int) then (if (rd x0 x13) = (rd x1 x13) then (slices_Equal_int_int.l0 k x0 x1 x12 (wrap64 (x13 + 1))) else (some false)) else (none)) else (none)) else (none)) else (some true)
def slices_Equal_int_int.f (k : Nat) (l0 : List Int) (l1 : List Int) : Option (Bool) := if (l0.length : Int) = (l1.length : Int) then (slices_Equal_int_int.l0 k l0 l1 (l0.length : Int) 0) else (some false)
theorem slices_Equal_int_int.mono_l : ∀ k, (∀ y0 y1 y2 y3, LeO (slices_Equal_int_int.l0 k y0 y1 y2 y3) (slices_Equal_int_int.l0 (k + 1) y0 y1 y2 y3))
 | 0 => fun _ _ _ _ r h => by simp [slices_Equal_int_int.l0] at h
 | k + 1 => by
  have ih0 := slices_Equal_int_int.mono_l k
  ·intro y0 y1 y2 y3
   unfold slices_Equal_int_int.l0
   repeat' first
   | (with_reducible exact ih0 _ _ _ _)
   | (with_reducible exact LeO.refl _)
   | (with_reducible exact LeO.none _)
   | (with_reducible refine LeO.ite ?_ ?_)
   | (with_reducible refine LeO.bind ?_ (fun _ => ?_))
   | exact ih0 _ _ _ _
   | exact LeO.none _
   | refine LeO.ite ?_ ?_
   | refine LeO.bind ?_ (fun _ => ?_)
theorem slices_Equal_int_int.mono : ∀ a0 a1 k, LeO (slices_Equal_int_int.f k a0 a1) (slices_Equal_int_int.f (k + 1) a0 a1) := by
 intro a0 a1 k
 have ih0 := slices_Equal_int_int.mono_l k
 unfold slices_Equal_int_int.f
 repeat' first
   | (with_reducible exact ih0 _ _ _ _)
   | (with_reducible exact LeO.refl _)
   | (with_reducible exact LeO.none _)
   | (with_reducible refine LeO.ite ?_ ?_)
   | (with_reducible refine LeO.bind ?_ (fun _ => ?_))
   | exact ih0 _ _ _ _
   | exact LeO.none _
   | refine LeO.ite ?_ ?_
   | refine LeO.bind ?_ (fun _ => ?_)
set_option maxHeartbeats 8000000 in
set_option maxRecDepth 100000 in
theorem slices_Equal_int_int.calls (k : Nat) (A0 : Option Addr) (c0 : Nat) (l0 : List Int) (A1 : Option Addr) (c1 : Nat) (l1 : List Int) (r : Bool) (w : World) (hr0 : Kd.C (Kd.int .i64) w A0 l0.length l0) (hc0 : l0.length ≤ c0) (hr1 : Kd.C (Kd.int .i64) w A1 l1.length l1) (hc1 : l1.length ≤ c1) (h : slices_Equal_int_int.f k l0 l1 = some r) :
  Calls Tryd.prog 27 #[.slice A0 l0.length c0, .slice A1 l1.length c1] w fun e w' => e = .returned (.bool r) ∧ Drawn0 w w' := by
 have HR0 := Aside0.mk hr0
 have HC0 := Aside0.mk hc0
 clear hr0 hc0
 have HR1 := Aside0.mk hr1
 have HC1 := Aside0.mk hc1
 clear hr1 hc1
 have H : (if (l0.length : Int) = (l1.length : Int) then (slices_Equal_int_int.l0 k l0 l1 (l0.length : Int) 0) else (some false)) = some r := h
 clear h
 by_cases c3 : (l0.length : Int) = (l1.length : Int)
 ·rw [if_pos c3] at H
  have c3b0 : ((l0.length : Int) == (l1.length : Int)) = true := beq_iff_eq.mpr c3
  have c3b1 : ((l0.length : Int) != (l1.length : Int)) = false := bne_eq_false_iff_eq.mpr c3
  have c3b2 : (l0.length == l1.length) = true := by first | simpa using c3 | (simp at c3 ⊢; omega)
  clear c3
  have H' := Aside0.mk H
  clear H
  go_enter Tryd.func27, Tryd.ntmps27
  go_wp2
  repeat (go_quiet (fail); try go_wp2)
  go_loopg [13] k (fun kq v13 w' => ∃ (x13_1 : Int), v13 = .int .i64 x13_1 ∧ Aside0 (slices_Equal_int_int.l0 kq l0 l1 (l0.length : Int) x13_1 = some r) ∧ Aside0 (kq ≤ k) ∧ Drawn0 w w')
  case atStart => exact ⟨(0), (by first | rfl | (simp; done) | (simp [*]; done)), H', ⟨Nat.le_refl _⟩, by repeat (first | exact Drawn0.refl _ | apply Drawn0.step)⟩
  case round =>
   clear H'
   try clear c1
   try clear c2
   try clear p2
   try clear c3
   try clear c3b0
   try clear c3b1
   try clear c3b2
   obtain ⟨x13_1, rfl, HA, HK1, ⟨m1, rfl⟩⟩ := hrel
   cases gk with
   | zero => exact absurd HA.out (by simp [slices_Equal_int_int.l0])
   | succ k1 =>
    have H := HA.out
    clear HA
    simp only [slices_Equal_int_int.l0] at H
    by_cases c4 : x13_1 < (l0.length : Int)
    ·rw [if_pos c4] at H
     have c4b0 : decide (x13_1 < (l0.length : Int)) = true := decide_eq_true c4
     clear c4
     by_cases c5 : 0 ≤ x13_1
     ·rw [if_pos c5] at H
      have c5b0 : decide (0 ≤ x13_1) = true := decide_eq_true c5
      clear c5
      by_cases c6 : x13_1 < (l0.length : Int)
      ·rw [if_pos c6] at H
       have c6b0 : decide (x13_1 < (l0.length : Int)) = true := decide_eq_true c6
       clear c6
       by_cases c7 : x13_1 < (l1.length : Int)
       ·rw [if_pos c7] at H
        have c7b0 : decide (x13_1 < (l1.length : Int)) = true := decide_eq_true c7
        clear c7
        by_cases c8 : (rd l0 x13_1) = (rd l1 x13_1)
        ·rw [if_pos c8] at H
         have c8b0 : ((rd l0 x13_1) == (rd l1 x13_1)) = true := beq_iff_eq.mpr c8
         have c8b1 : ((rd l0 x13_1) != (rd l1 x13_1)) = false := bne_eq_false_iff_eq.mpr c8
         clear c8
         have H' := Aside0.mk H
         clear H
         have p127 : 0 ≤ (x13_1 : Int) := of_decide_eq_true (by first | (with_reducible assumption) | assumption)
         have q127 : x13_1 < (l0.length : Int) := of_decide_eq_true (by first | (with_reducible assumption) | assumption)
         obtain ⟨ad127, e127, hx127_0⟩ := Kd.at_int HR0.out x13_1 p127 q127
         cases e127
         replace p127 := eq_true p127
         replace q127 := eq_true q127
         have p128 : 0 ≤ (x13_1 : Int) := of_decide_eq_true (by first | (with_reducible assumption) | assumption)
         have q128 : x13_1 < (l1.length : Int) := of_decide_eq_true (by first | (with_reducible assumption) | assumption)
         obtain ⟨ad128, e128, hx128_0⟩ := Kd.at_int HR1.out x13_1 p128 q128
         cases e128
         replace p128 := eq_true p128
         replace q128 := eq_true q128
         go_wp2
         repeat (go_quiet (fail); try go_wp2)
         go_roundg k1
         case measure => have := HK1.out; omega
         case rel => exact ⟨(wrap64 (x13_1 + 1)), (by first | rfl | (simp; done) | (simp [*]; done)), H', ⟨by have := HK1.out; omega⟩, by repeat (first | exact Drawn0.refl _ | apply Drawn0.step)⟩
        ·rw [if_neg c8] at H
         have c8b0 : ((rd l0 x13_1) == (rd l1 x13_1)) = false := beq_eq_false_iff_ne.mpr c8
         have c8b1 : ((rd l0 x13_1) != (rd l1 x13_1)) = true := bne_iff_ne.mpr c8
         obtain rfl := Option.some.inj H
         have p127 : 0 ≤ (x13_1 : Int) := of_decide_eq_true (by first | (with_reducible assumption) | assumption)
         have q127 : x13_1 < (l0.length : Int) := of_decide_eq_true (by first | (with_reducible assumption) | assumption)
         obtain ⟨ad127, e127, hx127_0⟩ := Kd.at_int HR0.out x13_1 p127 q127
         cases e127
         replace p127 := eq_true p127
         replace q127 := eq_true q127
         have p128 : 0 ≤ (x13_1 : Int) := of_decide_eq_true (by first | (with_reducible assumption) | assumption)
         have q128 : x13_1 < (l1.length : Int) := of_decide_eq_true (by first | (with_reducible assumption) | assumption)
         obtain ⟨ad128, e128, hx128_0⟩ := Kd.at_int HR1.out x13_1 p128 q128
         cases e128
         replace p128 := eq_true p128
         replace q128 := eq_true q128
         go_wp2
         repeat (go_quiet (fail); try go_wp2)
         go_ret
         exact ⟨by first | rfl | (simp; done) | (simp [*]; done), by repeat (first | exact Drawn0.refl _ | apply Drawn0.step)⟩
       ·rw [if_neg c7] at H
        exact absurd H (by simp)
      ·rw [if_neg c6] at H
       exact absurd H (by simp)
     ·rw [if_neg c5] at H
      exact absurd H (by simp)
    ·rw [if_neg c4] at H
     have c4b0 : decide (x13_1 < (l0.length : Int)) = false := decide_eq_false c4
     clear c4
     obtain rfl := Option.some.inj H
     go_wp2
     repeat (go_quiet (fail); try go_wp2)
     go_ret
     exact ⟨by first | rfl | (simp; done) | (simp [*]; done), by repeat (first | exact Drawn0.refl _ | apply Drawn0.step)⟩
 ·rw [if_neg c3] at H
  have c3b0 : ((l0.length : Int) == (l1.length : Int)) = false := beq_eq_false_iff_ne.mpr c3
  have c3b1 : ((l0.length : Int) != (l1.length : Int)) = true := bne_iff_ne.mpr c3
  have c3b2 : (l0.length == l1.length) = false := by first | simpa using c3 | (simp at c3 ⊢; omega)
  obtain rfl := Option.some.inj H
  go_enter Tryd.func27, Tryd.ntmps27
  go_wp2
  repeat (go_quiet (fail); try go_wp2)
  go_ret
  exact ⟨by first | rfl | (simp; done) | (simp [*]; done), by repeat (first | exact Drawn0.refl _ | apply Drawn0.step)⟩
end Go.Proofs.YtjloppfdagfpmaaDoor.X
end
