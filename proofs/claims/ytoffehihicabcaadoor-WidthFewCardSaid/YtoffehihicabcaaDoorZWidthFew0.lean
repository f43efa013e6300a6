/- Part 0 of what WidthFew rests on: contracts of the functions that it reaches, and what they compute, in plain words. -/
import Derived.Test.YtoffehihicabcaaDoorProg
import Derived.Below
import Derived.Deep.Draws
import Derived.Deep.AppendLies
import Derived.Maps.AppendAt
import Derived.OwnWalk
import Derived.Laws.BytesArg
import Derived.Laws.MakeOwn
import Derived.Laws.OwnMore
import Derived.Deep.OwnRows
import Derived.Tactics
import Derived.Lib.ConvBytes
import Derived.Laws.Slices
import Derived.WalkKit
import Derived.KernelRfl
import Derived.RowKit3
import Derived.Deep.LoopGhost
import Derived.Deep.QuietTactic
import Derived.BigQuiet
import Derived.WideLaws
import Derived.Deep.DeepCutAuto
import Derived.Deep.CutBlock
import Derived.Deep.RegionHeld3
import Derived.Laws.Rows
import Derived.Lib.AppendStr
import Derived.ArgAppend
import Derived.Laws.IdiomCopy
import Derived.OrdersHeld
import Derived.Laws.BitsLemmas
import Derived.RowKit
import Derived.Test.YtoffehihicabcaaDoorWWords
import Derived.Test.YtoffehihicabcaaDoorWLast
import Derived.Test.YtoffehihicabcaaDoorWTab
import Derived.Test.YtoffehihicabcaaDoorWQPut
import Derived.Test.YtoffehihicabcaaDoorWApart
import Derived.Test.YtoffehihicabcaaDoorWArr
import Derived.Test.YtoffehihicabcaaDoorWZeros
import Derived.Test.YtoffehihicabcaaDoorWFoot
import Derived.Test.YtoffehihicabcaaDoorWKept
import Derived.Test.YtoffehihicabcaaDoorWShare
import Derived.Test.YtoffehihicabcaaDoorWN
import Derived.Laws.StructEq
import Derived.Test.YtoffehihicabcaaDoorWRepsOne
import Derived.Test.YtoffehihicabcaaDoorWGuard
import Derived.Test.YtoffehihicabcaaDoorWNEv
import Derived.Test.YtoffehihicabcaaDoorWMore
import Derived.Laws.Bits64b
import Derived.Lib.TrailingZeros
import Derived.Test.YtoffehihicabcaaDoorRows
import Derived.ChangeSame
import Derived.ChangeVars
import Derived.JoinedOf
import Derived.LaidLaws
import Derived.LaidHandle
import Derived.Lib.LaidTab
import Derived.Stop.LaidErr
import Derived.WalkSpells
import Derived.Maps.OwnIn
import Derived.WalkSmall
import Derived.Shelf.Slices.Delete
import Derived.Maps.OwnOps
import Derived.Maps.OwnSet
import Derived.Maps.Ext
import Derived.Laws.EntriesVeiled
import Derived.Carry
set_option linter.unusedVariables false
set_option linter.unusedSimpArgs false
namespace Go.Proofs.YtoffehihicabcaaDoor.X
def Qbz (n k : Nat) : Array Bool := ((List.range n).map fun i => k.testBit i).toArray
theorem Qp1 {α : Type} (l : List α) (i : Nat) (a : α) : l.toArray.setIfInBounds i a = (l.set i a).toArray := List.setIfInBounds_toArray ..
theorem Qp2 {α : Type} (a b : α) (t : List α) : (a :: t).set 0 b = b :: t := rfl
theorem Qp3 {α : Type} (a b : α) (t : List α) (n : Nat) : (a :: t).set (n + 1) b = a :: t.set n b := rfl
theorem Qaw {p : Prop} (h : p := by repeat (first | (with_reducible first | exact HB.out | apply below_alloc | apply pw_below_drewN | apply below_drew1) | exact HB.out)) : p := h
theorem Qro {p q : Prop} (h : q) (f : q → p := by intro hz_; (with_reducible repeat (first | apply Kd.R_alloc | apply Kd.R_drewN | apply Kd.R_drew)); exact hz_) : p := f h
theorem Qbl {p q : Prop} (h : q) (f : q → p := by intro hz_; (with_reducible repeat (first | refine blk_drewN ?_ _ | refine blk_drew ?_ | refine blk_alloc ?_ _)); exact hz_) : p := f h
theorem Qao {p : Prop} (h : p := by exact any_of HT_.out (by kernel_rfl)) : p := h
theorem Qas {p : Prop} (h : p := by first | (with_reducible assumption) | assumption) : p := h
theorem Qrs {p : Prop} (h : p := by first | rfl | (simp; done) | (simp [*]; done)) : p := h
theorem Qag {p q : Prop} (g : q) (h : q → p := by intro hg_; repeat (first | (with_reducible first | exact HB.out | apply below_alloc | apply pw_below_drewN | apply below_drew1 | refine below_set ?_ hg_) | exact HB.out)) : p := h g
theorem Qah {p q r : Prop} (g : q) (g2 : r) (h : q → r → p := by intro hg_ hh_; repeat (first | (with_reducible first | exact HB.out | apply below_alloc | apply pw_below_drewN | apply below_drew1 | refine below_set ?_ hg_ | refine below_set ?_ hh_) | exact HB.out)) : p := h g g2
theorem Qls {p : Prop} (h : p := by (try simp only [List.map_toArray, List.map_cons, List.map_nil]); first | done | rfl | (simp only [List.length_drop, List.length_take]; rfl)) : p := h
theorem Qlg {p : Prop} (h : p := by repeat (first | (with_reducible exact HGL.out) | (with_reducible exact GL_below HGL.out HB.out) | (with_reducible refine GL_alloc ?_ _) | (with_reducible refine GL_drewN ?_ _) | (with_reducible refine GL_drew ?_))) : p := h
theorem Qsc {p q : Prop} (h : q) (f : q → p := by intro hz_; repeat (first | exact hz_ | (with_reducible refine Kd.C_alloc ?_ _) | (with_reducible refine Kd.C_drewN ?_ _) | (with_reducible refine Kd.C_drew ?_))) : p := f h
end Go.Proofs.YtoffehihicabcaaDoor.X
section
namespace Go.Proofs.YtoffehihicabcaaDoor.X
open Go.RowKit YtoffehihicabcaaDoorW.PrintWords YtoffehihicabcaaDoorW.PrintLast YtoffehihicabcaaDoorW.PrintMore
attribute [local go_sem] max2_int min2_int max_two min_two max_three min_three max_four min_four
noncomputable section
def errW : Option Int → Value
 | none => .nilIface
 | some c => .iface 0 (.int .i64 c)
theorem errW_none : errW none = .nilIface := rfl
theorem errW_some (c : Int) : errW (some c) = .iface 0 (.int .i64 c) := rfl
theorem info3 : (Tryd.prog.info? 3).map (fun i => (i.zero, i.size, i.bytes)) = some (some (.int .i64 0), 1, 8) := by kernel_rfl
end
end Go.Proofs.YtoffehihicabcaaDoor.X
end
section
namespace Go.Proofs.YtoffehihicabcaaDoor.X
open Go.RowKit YtoffehihicabcaaDoorW.PrintWords YtoffehihicabcaaDoorW.PrintLast YtoffehihicabcaaDoorW.PrintMore
def GL (w : World) : Prop := ∀ j, j < 64 → w.cell? ⟨1, j, none⟩ = some (.int .u8 ((Lib.deBruijn64tab.getD j 0 : Nat) : Int))
theorem GL_below {w w1 : World} (h : GL w) (hb : Below w.heap.size w w1) : GL w1 := fun j hj => (hb.cell (World.block_lt_of_cell? w _ (h j hj))).trans (h j hj)
theorem GL_alloc {w : World} (h : GL w) (o : Obj) : GL (w.alloc o) := GL_below h (below_alloc (Below.refl _ _) o)
theorem GL_drewN {w : World} (h : GL w) (n : Nat) : GL (w.drewN n) := GL_below h (pw_below_drewN (Below.refl _ _) n)
theorem GL_drew {w : World} (h : GL w) : GL w.drew := GL_below h (below_drew1 (Below.refl _ _))
theorem tz_key (x a : Nat) (hx : x < 18446744073709551616) (hx0 : x ≠ 0) (hlow : x &&& (18446744073709551616 - x) = a) :
  IntKind.u64.wrap (bits BinOp.and IntKind.u64 (x : Int) (IntKind.u64.wrap (-(x : Int))) * 285870213051353865) / 288230376151711744 = ((a * 285870213051353865 % 18446744073709551616 / 288230376151711744 : Nat) : Int) := by
 rw [show IntKind.u64.wrap (-(x : Int)) = ((18446744073709551616 - x : Nat) : Int) by rw [IntKind.wrap_u64]; omega]
 rw [bits_and_u64_nat x _ hx (by omega), hlow, IntKind.wrap_u64]
 omega
set_option maxHeartbeats 1000000 in
theorem tz64_core (x k idx : Nat) (w : World) (hx0 : ((x : Int) == 0) = false)
  (key : IntKind.u64.wrap (bits BinOp.and IntKind.u64 (x : Int) (IntKind.u64.wrap (-(x : Int))) * 285870213051353865) / 288230376151711744 = (idx : Int))
  (hi : idx < 64) (hk : k < 64) (hcell : w.cell? ⟨1, idx, none⟩ = some (.int .u8 k)) :
  Calls Tryd.prog 133 #[.int .u64 x] w fun e w' => e = .returned (.int .i64 k) ∧ w = w' := by
 go_enter Tryd.func133, Tryd.ntmps133
 go_wp2_with (simp only [key])
 go_ret
 exact ⟨rfl, rfl⟩
theorem tz64_zero (w : World) :
  Calls Tryd.prog 133 #[.int .u64 0] w fun e w' => e = .returned (.int .i64 64) ∧ w = w' := by
 go_enter Tryd.func133, Tryd.ntmps133
 go_wp2
 go_ret
 exact ⟨rfl, rfl⟩
theorem tz64 (x : Nat) (hx : x < 18446744073709551616) (w : World) (hT : GL w) :
  Calls Tryd.prog 133 #[.int .u64 x] w fun e w' => e = .returned (.int .i64 (Lib.ctz 64 x)) ∧ w = w' := by
 by_cases hx0 : x = 0
 ·subst hx0
  exact tz64_zero w
 ·obtain ⟨hlow, hk⟩ := Lib.lowest_bit 64 x hx0 hx
  obtain ⟨hi, htab⟩ := Lib.deBruijn64_at _ hk
  have hcell := hT _ hi
  rw [htab] at hcell
  exact tz64_core x _ _ w (by simp; omega) (tz_key x _ hx hx0 hlow) hi hk hcell
def bits_TrailingZeros.f (a : Int) : Option Int := if 0 ≤ a then (if a < 18446744073709551616 then some ((Lib.ctz 64 a.toNat : Nat) : Int) else none) else none
theorem bits_TrailingZeros.calls (a0 : Int) (r : Int) (w : World) (hGL : GL w) (h : bits_TrailingZeros.f a0 = some r) :
  Calls Tryd.prog 117 #[.int .u64 a0] w fun e w' => e = .returned (.int .i64 r) ∧ Drawn0 w w' := by
 unfold bits_TrailingZeros.f at h
 by_cases h0 : 0 ≤ a0
 ·rw [if_pos h0] at h
  by_cases h1 : a0 < 18446744073709551616
  ·rw [if_pos h1] at h
   have h := Option.some.inj h
   subst h
   obtain ⟨x, rfl⟩ := Int.eq_ofNat_of_zero_le h0
   have hx : x < 18446744073709551616 := by omega
   have HG := Aside0.mk hGL
   clear hGL h0 h1
   rw [Int.toNat_natCast]
   go_enter Tryd.func117, Tryd.ntmps117
   go_wp2_with (go_at_call 133; (with_reducible refine (tz64 _ hx _ HG.out).mono ?_); rintro e w' ⟨rfl, rfl⟩)
   go_ret
   exact ⟨rfl, ⟨0, rfl⟩⟩
  ·rw [if_neg h1] at h
   cases h
 ·rw [if_neg h0] at h
  cases h
end Go.Proofs.YtoffehihicabcaaDoor.X
end
section
namespace Go.Proofs.YtoffehihicabcaaDoor.X
open Go.ChangeShapes Go.WideShapes Go.RowKit
theorem own : ownKnob Tryd.prog.godebug = none := by kernel_rfl
theorem laidOut : laidOutB Tryd.prog = true := by kernel_rfl
def LAID : List (String × DataW Unit) := [("math/bits.deBruijn32tab", Rows.laid_math_bits_deBruijn32tab), ("math/bits.deBruijn64tab", Rows.laid_math_bits_deBruijn64tab)]
theorem g64 : Tryd.prog.globalNamed "math/bits.deBruijn64tab" = some 1 := by kernel_rfl
theorem t64 : (Tryd.prog.globals[1]?).map (·.type) = some 127 := by kernel_rfl
def z64 : List Int := Lib.deBruijn64tab.map fun (x : Nat) => (x : Int)
theorem d64 {H : Type} : (Rows.laid_math_bits_deBruijn64tab : DataW H) = Lib.tabData .u8 z64 := by rfl
theorem gl_of_laid {W : World} (h : laidMetH Tryd.prog LAID W) : GL W := by
 have h0 : laidMet Tryd.prog LAID W := h
 have h1 : laidMet Tryd.prog [("math/bits.deBruijn64tab", Lib.tabData .u8 z64)] W := by
  have := laidMet.tail h0
  rw [d64] at this
  exact this
 have h2 := Lib.tabIs_of_head g64 t64 Tryd.underlying127 (by kernel_rfl) (by kernel_rfl) (by kernel_rfl) h1
 intro j hj
 have := h2.cell g64 j (by simpa [z64, Lib.deBruijn64tab] using hj)
 rw [this]
 congr 2
 unfold z64
 rw [List.getD_eq_getElem?_getD, List.getElem?_map, List.getD_eq_getElem?_getD]
 cases Lib.deBruijn64tab[j]? <;> rfl
noncomputable def laidWorld (os : Os) : World :=
 let w0 := World.holding Tryd.prog os ⟨#[], #[], []⟩
 { w0 with heap := (w0.heap.modify 0 fun
   | .cells _ t frozen => .cells ((Lib.deBruijn32tab.map fun (x : Nat) => Value.int .u8 (x : Int)).toArray) t frozen
   | o => o).modify 1 fun
   | .cells _ t frozen => .cells ((Lib.deBruijn64tab.map fun (x : Nat) => Value.int .u8 (x : Int)).toArray) t frozen
   | o => o }
theorem laidWorld_met (os : Os) (args : Array Value) : laidMetH Tryd.prog LAID ((laidWorld os).forCall (fun _ _ => 0) ⟨#[], args, []⟩).memory :=
 show laidMet Tryd.prog LAID _ from laidMet_of_run' 8 (by kernel_rfl) (by kernel_rfl)
end Go.Proofs.YtoffehihicabcaaDoor.X
end
section
namespace Go.Proofs.YtoffehihicabcaaDoor.X
open Go.RowKit YtoffehihicabcaaDoorW.PrintWords YtoffehihicabcaaDoorW.PrintLast YtoffehihicabcaaDoorW.PrintMore
attribute [local go_sem] max2_int min2_int max_two min_two max_three min_three max_four min_four
noncomputable section
mutual
def width_read.j0 : Nat → List Int → Int → Bool → Option (List Int × Bool)
 | 0, _, _, _ => none
 | k + 1, x0, x4, x15 => if x15 = true then (some (([] : List Int), false)) else (width_read.l0 k x0 x4 x0 (x0.length : Int) 0)
def width_read.l0 : Nat → List Int → Int → List Int → Int → Int → Option (List Int × Bool)
 | 0, _, _, _, _, _ => none
 | k + 1, x0, x4, x16, x17, x18 => if x18 < x17 then (if 0 ≤ x18 then (if x18 < (x16.length : Int) then (if (rd x16 x18) < 0 then (width_read.j2 k x0 x4 x18 (rd x16 x18) x16 x17 x18 true) else (if 0 ≤ x4 then (if (rd x16 x18) ≥ (shl .i64 1 x4) then (width_read.j2 k x0 x4 x18 (rd x16 x18) x16 x17 x18 true) else (width_read.j2 k x0 x4 x18 (rd x16 x18) x16 x17 x18 ((Go.bits .and .i64 (shr .i64 (rd x16 x18) x18) 1) == 1))) else (none))) else (none)) else (none)) else (some (x0, true))
def width_read.j2 : Nat → List Int → Int → Int → Int → List Int → Int → Int → Bool → Option (List Int × Bool)
 | 0, _, _, _, _, _, _, _, _ => none
 | k + 1, x0, x4, x5, x6, x16, x17, x18, x37 => if x37 = true then (some (([] : List Int), false)) else (width_read.l1 k x0 x4 x5 x6 x16 x17 x18 x4 0)
def width_read.l1 : Nat → List Int → Int → Int → Int → List Int → Int → Int → Int → Int → Option (List Int × Bool)
 | 0, _, _, _, _, _, _, _, _, _ => none
 | k + 1, x0, x4, x5, x6, x16, x17, x18, x38, x39 => if x39 < x38 then (if 0 ≤ x39 then (if x39 < (x0.length : Int) then (if 0 ≤ x5 then (if (Go.bits .and .i64 (shr .i64 x6 x39) 1) = (Go.bits .and .i64 (shr .i64 (rd x0 x39) x5) 1) then (width_read.l1 k x0 x4 x5 x6 x16 x17 x18 x38 (wrap64 (x39 + 1))) else (some (([] : List Int), false))) else (none)) else (none)) else (none)) else (width_read.l0 k x0 x4 x16 x17 (wrap64 (x18 + 1)))
end
def width_read.f (k : Nat) (l0 : List Int) : Option (List Int × Bool) := if (l0.length : Int) < 1 then (width_read.j0 k l0 (l0.length : Int) true) else (width_read.j0 k l0 (l0.length : Int) (decide ((l0.length : Int) > 9)))
theorem width_read.mono_l : ∀ k, (∀ y0 y1 y2, LeO (width_read.j0 k y0 y1 y2) (width_read.j0 (k + 1) y0 y1 y2)) ∧ (∀ y0 y1 y2 y3 y4, LeO (width_read.l0 k y0 y1 y2 y3 y4) (width_read.l0 (k + 1) y0 y1 y2 y3 y4)) ∧ (∀ y0 y1 y2 y3 y4 y5 y6 y7, LeO (width_read.j2 k y0 y1 y2 y3 y4 y5 y6 y7) (width_read.j2 (k + 1) y0 y1 y2 y3 y4 y5 y6 y7)) ∧ (∀ y0 y1 y2 y3 y4 y5 y6 y7 y8, LeO (width_read.l1 k y0 y1 y2 y3 y4 y5 y6 y7 y8) (width_read.l1 (k + 1) y0 y1 y2 y3 y4 y5 y6 y7 y8))
 | 0 => ⟨fun _ _ _ r h => by simp [width_read.j0] at h, fun _ _ _ _ _ r h => by simp [width_read.l0] at h, fun _ _ _ _ _ _ _ _ r h => by simp [width_read.j2] at h, fun _ _ _ _ _ _ _ _ _ r h => by simp [width_read.l1] at h⟩
 | k + 1 => by
  obtain ⟨ih0, ih1, ih2, ih3⟩ := width_read.mono_l k
  refine ⟨?_, ?_, ?_, ?_⟩
  ·intro y0 y1 y2
   unfold width_read.j0
   repeat' first
   | (with_reducible exact ih0 _ _ _)
   | (with_reducible exact ih1 _ _ _ _ _)
   | (with_reducible exact ih2 _ _ _ _ _ _ _ _)
   | (with_reducible exact ih3 _ _ _ _ _ _ _ _ _)
   | (with_reducible exact LeO.refl _)
   | (with_reducible exact LeO.none _)
   | (with_reducible refine LeO.ite ?_ ?_)
   | (with_reducible refine LeO.bind ?_ (fun _ => ?_))
   | exact ih0 _ _ _
   | exact ih1 _ _ _ _ _
   | exact ih2 _ _ _ _ _ _ _ _
   | exact ih3 _ _ _ _ _ _ _ _ _
   | exact LeO.none _
   | refine LeO.ite ?_ ?_
   | refine LeO.bind ?_ (fun _ => ?_)
  ·intro y0 y1 y2 y3 y4
   unfold width_read.l0
   repeat' first
   | (with_reducible exact ih0 _ _ _)
   | (with_reducible exact ih1 _ _ _ _ _)
   | (with_reducible exact ih2 _ _ _ _ _ _ _ _)
   | (with_reducible exact ih3 _ _ _ _ _ _ _ _ _)
   | (with_reducible exact LeO.refl _)
   | (with_reducible exact LeO.none _)
   | (with_reducible refine LeO.ite ?_ ?_)
   | (with_reducible refine LeO.bind ?_ (fun _ => ?_))
   | exact ih0 _ _ _
   | exact ih1 _ _ _ _ _
   | exact ih2 _ _ _ _ _ _ _ _
   | exact ih3 _ _ _ _ _ _ _ _ _
   | exact LeO.none _
   | refine LeO.ite ?_ ?_
   | refine LeO.bind ?_ (fun _ => ?_)
  ·intro y0 y1 y2 y3 y4 y5 y6 y7
   unfold width_read.j2
   repeat' first
   | (with_reducible exact ih0 _ _ _)
   | (with_reducible exact ih1 _ _ _ _ _)
   | (with_reducible exact ih2 _ _ _ _ _ _ _ _)
   | (with_reducible exact ih3 _ _ _ _ _ _ _ _ _)
   | (with_reducible exact LeO.refl _)
   | (with_reducible exact LeO.none _)
   | (with_reducible refine LeO.ite ?_ ?_)
   | (with_reducible refine LeO.bind ?_ (fun _ => ?_))
   | exact ih0 _ _ _
   | exact ih1 _ _ _ _ _
   | exact ih2 _ _ _ _ _ _ _ _
   | exact ih3 _ _ _ _ _ _ _ _ _
   | exact LeO.none _
   | refine LeO.ite ?_ ?_
   | refine LeO.bind ?_ (fun _ => ?_)
  ·intro y0 y1 y2 y3 y4 y5 y6 y7 y8
   unfold width_read.l1
   repeat' first
   | (with_reducible exact ih0 _ _ _)
   | (with_reducible exact ih1 _ _ _ _ _)
   | (with_reducible exact ih2 _ _ _ _ _ _ _ _)
   | (with_reducible exact ih3 _ _ _ _ _ _ _ _ _)
   | (with_reducible exact LeO.refl _)
   | (with_reducible exact LeO.none _)
   | (with_reducible refine LeO.ite ?_ ?_)
   | (with_reducible refine LeO.bind ?_ (fun _ => ?_))
   | exact ih0 _ _ _
   | exact ih1 _ _ _ _ _
   | exact ih2 _ _ _ _ _ _ _ _
   | exact ih3 _ _ _ _ _ _ _ _ _
   | exact LeO.none _
   | refine LeO.ite ?_ ?_
   | refine LeO.bind ?_ (fun _ => ?_)
theorem width_read.mono : ∀ a0 k, LeO (width_read.f k a0) (width_read.f (k + 1) a0) := by
 intro a0 k
 obtain ⟨ih0, ih1, ih2, ih3⟩ := width_read.mono_l k
 unfold width_read.f
 repeat' first
   | (with_reducible exact ih0 _ _ _)
   | (with_reducible exact ih1 _ _ _ _ _)
   | (with_reducible exact ih2 _ _ _ _ _ _ _ _)
   | (with_reducible exact ih3 _ _ _ _ _ _ _ _ _)
   | (with_reducible exact LeO.refl _)
   | (with_reducible exact LeO.none _)
   | (with_reducible refine LeO.ite ?_ ?_)
   | (with_reducible refine LeO.bind ?_ (fun _ => ?_))
   | exact ih0 _ _ _
   | exact ih1 _ _ _ _ _
   | exact ih2 _ _ _ _ _ _ _ _
   | exact ih3 _ _ _ _ _ _ _ _ _
   | exact LeO.none _
   | refine LeO.ite ?_ ?_
   | refine LeO.bind ?_ (fun _ => ?_)
set_option maxHeartbeats 8000000 in
set_option maxRecDepth 100000 in
theorem width_read.calls (k : Nat) (P0_ : Nat → Prop) (A0 : Option Addr) (c0 : Nat) (l0 : List Int) (r1 : List Int) (r2 : Bool) (w : World) (hs0 : Kd.V (Kd.int .i64) 3 w w.heap.size (fun k_ => P0_ k_) (.slice A0 l0.length c0) l0) (h : width_read.f k l0 = some (r1, r2)) :
  Calls Tryd.prog 59 #[.slice A0 l0.length c0] w fun e w' => ∃ v0_ : Value, e = .returned (.tuple #[v0_, .bool r2]) ∧ Kd.V (Kd.int .i64) 3 w' w.heap.size (fun k_ => (P0_ k_ ∨ w.heap.size ≤ k_)) v0_ r1 ∧ Below w.heap.size w w' := by
 have HO0 := Aside0.mk (show Kd.V (Kd.int .i64) 3 w w.heap.size (fun k_ => (P0_ k_ ∨ w.heap.size ≤ k_)) (.slice A0 l0.length c0) l0 from Kd.V_mono hs0 (fun k_ hk => .inl hk))
 have HB := Aside0.mk (Below.refl w.heap.size w)
 have H : (if (l0.length : Int) < 1 then (width_read.j0 k l0 (l0.length : Int) true) else (width_read.j0 k l0 (l0.length : Int) (decide ((l0.length : Int) > 9)))) = some (r1, r2) := h
 clear h
 have HC2 := Aside0.mk H
 clear H
 go_enter Tryd.func59, Tryd.ntmps59
 go_upto_region 2 with (fail)
 repeat (go_quiet (fail); go_upto_region 2 with (fail))
 go_cut [15] (fun v15 wc => ∃ (kq : Nat) (x15_1 : Bool), v15 = .bool x15_1 ∧ Aside0 (width_read.j0 kq l0 (l0.length : Int) x15_1 = some (r1, r2)) ∧ Aside0 (kq ≤ k) ∧ Aside0 (Kd.V (Kd.int .i64) 3 wc w.heap.size (fun k_ => (P0_ k_ ∨ w.heap.size ≤ k_)) (.slice A0 l0.length c0) l0) ∧ Aside0 (Below w.heap.size w wc))
 case first =>
  have H := HC2.out
  clear HC2
  by_cases c3 : (l0.length : Int) < 1
  ·rw [if_pos c3] at H
   have c3b0 : decide ((l0.length : Int) < 1) = true := decide_eq_true c3
   have c3b1 : decide (l0.length < 1) = true := decide_eq_true (by omega)
   clear c3
   (first | rw [c3b0] | (simp only [i64_w, i32_w]; rw [c3b0]) | skip)
   have H' := Aside0.mk H
   clear H
   go_wp2
   repeat (go_quiet (fail); try go_wp2)
   go_meet
   case rel => exact ⟨_, (true), (Qrs), H', ⟨by first | omega | exact Nat.le_refl _⟩, ⟨by (with_reducible repeat (first | apply Kd.V_alloc | apply Kd.V_drewN | apply Kd.V_drew)); exact HO0.out⟩, ⟨by repeat (first | (with_reducible first | exact HB.out | apply below_alloc | apply pw_below_drewN | apply below_drew1) | exact HB.out)⟩⟩
  ·rw [if_neg c3] at H
   have c3b0 : decide ((l0.length : Int) < 1) = false := decide_eq_false c3
   have c3b1 : decide (l0.length < 1) = false := decide_eq_false (by omega)
   clear c3
   (first | rw [c3b0] | (simp only [i64_w, i32_w]; rw [c3b0]) | skip)
   have H' := Aside0.mk H
   clear H
   go_wp2
   repeat (go_quiet (fail); try go_wp2)
   go_meet
   case rel => exact ⟨_, (decide ((l0.length : Int) > 9)), (Qrs), H', ⟨by first | omega | exact Nat.le_refl _⟩, ⟨by (with_reducible repeat (first | apply Kd.V_alloc | apply Kd.V_drewN | apply Kd.V_drew)); exact HO0.out⟩, ⟨by repeat (first | (with_reducible first | exact HB.out | apply below_alloc | apply pw_below_drewN | apply below_drew1) | exact HB.out)⟩⟩
 case rest =>
  clear HC2
  try clear p2
  try clear c3
  try clear c3b0
  try clear c3b1
  obtain ⟨kq, x15_1, rfl, HA, HJ1, HO_0, HB⟩ := hcut
  cases kq with
  | zero => exact absurd HA.out (by simp [width_read.j0])
  | succ kj1 =>
   have H := HA.out
   clear HA
   simp only [width_read.j0] at H
   by_cases c4 : x15_1 = true
   ·subst c4
    have H1 : (some (([] : List Int), false)) = some (r1, r2) := by rw [if_pos rfl] at H; exact H
    clear H
    have H := H1
    clear H1
    simp only [Option.some.injEq, Prod.mk.injEq] at H
    obtain ⟨rfl, rfl⟩ := H
    go_wp2
    repeat (go_quiet (fail); try go_wp2)
    go_ret2
    exact ⟨_, by first | rfl | (simp [errW_none, errW_some] <;> rfl) | (simp [*, errW_none, errW_some] <;> rfl), Kd.V_nil _ _ _ _ _, by repeat (first | (with_reducible first | exact HB.out | apply below_alloc | apply pw_below_drewN | apply below_drew1) | exact HB.out)⟩
   ·replace c4 := Bool.eq_false_iff.mpr c4
    subst c4
    have H1 : (width_read.l0 kj1 l0 (l0.length : Int) l0 (l0.length : Int) 0) = some (r1, r2) := by rw [if_neg (show ¬ (false = true) by decide)] at H; exact H
    clear H
    have H := H1
    clear H1
    have H' := Aside0.mk H
    clear H
    go_wp2
    repeat (go_quiet (fail); try go_wp2)
    go_loopg [18] kj1 (fun kq v18 w' => ∃ (x18_2 : Int), v18 = .int .i64 x18_2 ∧ Aside0 (width_read.l0 kq l0 (l0.length : Int) l0 (l0.length : Int) x18_2 = some (r1, r2)) ∧ Aside0 (kq ≤ kj1) ∧ Aside0 (Kd.V (Kd.int .i64) 3 w' w.heap.size (fun k_ => (P0_ k_ ∨ w.heap.size ≤ k_)) (.slice A0 l0.length c0) l0) ∧ Aside0 (Kd.V (Kd.int .i64) 3 w' w.heap.size (fun k_ => (P0_ k_ ∨ w.heap.size ≤ k_)) (.slice A0 l0.length c0) l0) ∧ Aside0 (Below w.heap.size w w'))
    case atStart => exact ⟨(0), (Qrs), H', ⟨Nat.le_refl _⟩, ⟨by (with_reducible repeat (first | apply Kd.V_alloc | apply Kd.V_drewN | apply Kd.V_drew)); exact HO_0.out⟩, ⟨by (with_reducible repeat (first | apply Kd.V_alloc | apply Kd.V_drewN | apply Kd.V_drew)); exact HO_0.out⟩, ⟨by repeat (first | (with_reducible first | exact HB.out | apply below_alloc | apply pw_below_drewN | apply below_drew1) | exact HB.out)⟩⟩
    case round =>
     clear H'
     try clear p2
     try clear c3
     try clear c3b0
     try clear c3b1
     try clear c4
     try clear p2
     obtain ⟨x18_2, rfl, HA, HK2, HO_0, HO_16, HB⟩ := hrel
     cases gk with
     | zero => exact absurd HA.out (by simp [width_read.l0])
     | succ k2 =>
      have H := HA.out
      clear HA
      simp only [width_read.l0] at H
      by_cases c5 : x18_2 < (l0.length : Int)
      ·rw [if_pos c5] at H
       have c5b0 : decide (x18_2 < (l0.length : Int)) = true := decide_eq_true c5
       clear c5
       by_cases c6 : 0 ≤ x18_2
       ·rw [if_pos c6] at H
        have c6b0 : decide (0 ≤ x18_2) = true := decide_eq_true c6
        clear c6
        by_cases c7 : x18_2 < (l0.length : Int)
        ·rw [if_pos c7] at H
         have c7b0 : decide (x18_2 < (l0.length : Int)) = true := decide_eq_true c7
         clear c7
         have HC8 := Aside0.mk H
         clear H
         have p101 : 0 ≤ (x18_2 : Int) := of_decide_eq_true (Qas)
         have q101 : x18_2 < (l0.length : Int) := of_decide_eq_true (Qas)
         obtain ⟨ad101, e101, hx101_0⟩ := Kd.at_int (Kd.V_reads' HO_16.out).2.2 x18_2 p101 q101
         cases e101
         replace p101 := eq_true p101
         replace q101 := eq_true q101
         go_upto_region 7 with (fail)
         repeat (go_quiet (fail); go_upto_region 7 with (fail))
         go_cut [37] (fun v37 wc => ∃ (kq : Nat) (x37_7 : Bool), v37 = .bool x37_7 ∧ Aside0 (width_read.j2 kq l0 (l0.length : Int) x18_2 (rd l0 x18_2) l0 (l0.length : Int) x18_2 x37_7 = some (r1, r2)) ∧ Aside0 (kq ≤ k2) ∧ Aside0 (Kd.V (Kd.int .i64) 3 wc w.heap.size (fun k_ => (P0_ k_ ∨ w.heap.size ≤ k_)) (.slice (some ad101) l0.length c0) l0) ∧ Aside0 (Kd.V (Kd.int .i64) 3 wc w.heap.size (fun k_ => (P0_ k_ ∨ w.heap.size ≤ k_)) (.slice (some ad101) l0.length c0) l0) ∧ Aside0 (Below w.heap.size w wc))
         case first =>
          have H := HC8.out
          clear HC8
          by_cases c9 : (rd l0 x18_2) < 0
          ·rw [if_pos c9] at H
           have c9b0 : decide ((rd l0 x18_2) < 0) = true := decide_eq_true c9
           clear c9
           (first | rw [c9b0] | (simp only [i64_w, i32_w]; rw [c9b0]) | skip)
           have H' := Aside0.mk H
           clear H
           go_wp2
           repeat (go_quiet (fail); try go_wp2)
           go_meet
           case rel => exact ⟨_, (true), (Qrs), H', ⟨by have := HJ1.out; have := HK2.out; first | omega | exact Nat.le_refl _⟩, ⟨by (with_reducible repeat (first | apply Kd.V_alloc | apply Kd.V_drewN | apply Kd.V_drew)); exact HO_0.out⟩, ⟨by (with_reducible repeat (first | apply Kd.V_alloc | apply Kd.V_drewN | apply Kd.V_drew)); exact HO_16.out⟩, ⟨by repeat (first | (with_reducible first | exact HB.out | apply below_alloc | apply pw_below_drewN | apply below_drew1) | exact HB.out)⟩⟩
          ·rw [if_neg c9] at H
           have c9b0 : decide ((rd l0 x18_2) < 0) = false := decide_eq_false c9
           clear c9
           (first | rw [c9b0] | (simp only [i64_w, i32_w]; rw [c9b0]) | skip)
           by_cases c10 : 0 ≤ (l0.length : Int)
           ·rw [if_pos c10] at H
            have c10b0 := eq_true c10
            have c10b1 : decide (0 ≤ (l0.length : Int)) = true := decide_eq_true c10
            clear c10
            obtain ⟨ji11, hji11⟩ : ∃ j_ : Int, (shl .i64 1 (l0.length : Int)) = j_ := ⟨_, rfl⟩
            replace H : (if (rd l0 x18_2) ≥ (ji11) then (width_read.j2 k2 l0 (l0.length : Int) x18_2 (rd l0 x18_2) l0 (l0.length : Int) x18_2 true) else (width_read.j2 k2 l0 (l0.length : Int) x18_2 (rd l0 x18_2) l0 (l0.length : Int) x18_2 ((Go.bits .and .i64 (shr .i64 (rd l0 x18_2) x18_2) 1) == 1))) = some (r1, r2) := by first | (rw [hji11] at H; exact H) | (simp only [hji11] at H ⊢; exact H)
            have hji11_ : (IntKind.i64.wrap (1 * 2 ^ min (l0.length : Int).toNat 64)) = ji11 := hji11
            have hji11z : (l0.length : Int) ≤ 64 → (IntKind.i64.wrap (1 * 2 ^ (l0.length : Int).toNat)) = ji11 := shl_small hji11
            have hji11p : (IntKind.i64.wrap (1 * 2 ^ min l0.length 64)) = ji11 := hji11_
            have hji11q : (l0.length : Int) ≤ 64 → (IntKind.i64.wrap (1 * 2 ^ l0.length)) = ji11 := hji11z
            have hji11r : (IntKind.i64.wrap (2 ^ min l0.length 64)) = ji11 := by have h_ := hji11p; rw [Int.one_mul] at h_; exact h_
            have hji11s : (l0.length : Int) ≤ 64 → (IntKind.i64.wrap (2 ^ l0.length)) = ji11 := fun hle_ => by have h_ := hji11q hle_; rw [Int.one_mul] at h_; exact h_
            have hji11u : (IntKind.i64.wrap (2 ^ min (l0.length : Int).toNat 64)) = ji11 := by have h_ := hji11_; rw [Int.one_mul] at h_; exact h_
            have hji11v : (l0.length : Int) ≤ 64 → (IntKind.i64.wrap (2 ^ (l0.length : Int).toNat)) = ji11 := fun hle_ => by have h_ := hji11z hle_; rw [Int.one_mul] at h_; exact h_
            have hji11y : (wrap64 (1 * 2 ^ min (l0.length : Int).toNat 64)) = ji11 := (i64_w _).symm.trans hji11_
            have hji11x : (l0.length : Int) ≤ 64 → (wrap64 (1 * 2 ^ (l0.length : Int).toNat)) = ji11 := fun h_ => (i64_w _).symm.trans (hji11z h_)
            by_cases c12 : (rd l0 x18_2) ≥ (ji11)
            ·rw [if_pos c12] at H
             have c12b0 : decide ((ji11) ≤ (rd l0 x18_2)) = true := decide_eq_true c12
             clear c12
             have H' := Aside0.mk H
             clear H
             go_wp2
             repeat (go_quiet (fail); try go_wp2)
             go_meet
             case rel => exact ⟨_, (true), (Qrs), H', ⟨by have := HJ1.out; have := HK2.out; first | omega | exact Nat.le_refl _⟩, ⟨by (with_reducible repeat (first | apply Kd.V_alloc | apply Kd.V_drewN | apply Kd.V_drew)); exact HO_0.out⟩, ⟨by (with_reducible repeat (first | apply Kd.V_alloc | apply Kd.V_drewN | apply Kd.V_drew)); exact HO_16.out⟩, ⟨by repeat (first | (with_reducible first | exact HB.out | apply below_alloc | apply pw_below_drewN | apply below_drew1) | exact HB.out)⟩⟩
            ·rw [if_neg c12] at H
             have c12b0 : decide ((ji11) ≤ (rd l0 x18_2)) = false := decide_eq_false c12
             clear c12
             have c13b0 := eq_true (of_decide_eq_true (Qas) : 0 ≤ x18_2)
             obtain ⟨ji14, hji14⟩ : ∃ j_ : Int, (shr .i64 (rd l0 x18_2) x18_2) = j_ := ⟨_, rfl⟩
             replace H : (width_read.j2 k2 l0 (l0.length : Int) x18_2 (rd l0 x18_2) l0 (l0.length : Int) x18_2 ((Go.bits .and .i64 (ji14) 1) == 1)) = some (r1, r2) := by first | (rw [hji14] at H; exact H) | (simp only [hji14] at H ⊢; exact H)
             have hji14_ : ((rd l0 x18_2) / 2 ^ min x18_2.toNat 64) = ji14 := hji14
             have hji14z : x18_2 ≤ 64 → ((rd l0 x18_2) / 2 ^ x18_2.toNat) = ji14 := shr_small hji14
             have H' := Aside0.mk H
             clear H
             go_wp2
             repeat (go_quiet (fail); try go_wp2)
             go_meet
             case rel => exact ⟨_, (((Go.bits .and .i64 (ji14) 1) == 1)), (by first | rfl | (simp; done) | (simp only [← hji14] <;> (first | rfl | simp)) | (simp [*]; done)), H', ⟨by have := HJ1.out; have := HK2.out; first | omega | exact Nat.le_refl _⟩, ⟨by (with_reducible repeat (first | apply Kd.V_alloc | apply Kd.V_drewN | apply Kd.V_drew)); exact HO_0.out⟩, ⟨by (with_reducible repeat (first | apply Kd.V_alloc | apply Kd.V_drewN | apply Kd.V_drew)); exact HO_16.out⟩, ⟨by repeat (first | (with_reducible first | exact HB.out | apply below_alloc | apply pw_below_drewN | apply below_drew1) | exact HB.out)⟩⟩
           ·rw [if_neg c10] at H
            exact absurd H (by simp)
         case rest =>
          clear HC8
          try clear c1
          try clear p1
          try clear q1
          try clear hx1
          try clear p2
          try clear c3
          try clear c3b0
          try clear c3b1
          try clear c4
          try clear c5
          try clear c5b0
          try clear c6
          try clear c6b0
          try clear p6
          try clear c7
          try clear c7b0
          try clear c9
          try clear c9b0
          try clear c10
          try clear c10b0
          try clear c10b1
          try clear p10
          try clear q10
          try clear hx10
          try clear c12
          try clear c12b0
          try clear c13
          try clear c13b0
          try clear hx101_0
          try clear p101
          try clear p2
          try clear q101
          obtain ⟨kq, x37_7, rfl, HA, HJ7, HO_0, HO_16, HB⟩ := hcut
          cases kq with
          | zero => exact absurd HA.out (by simp [width_read.j2])
          | succ kj7 =>
           have H := HA.out
           clear HA
           simp only [width_read.j2] at H
           by_cases c15 : x37_7 = true
           ·subst c15
            have H1 : (some (([] : List Int), false)) = some (r1, r2) := by rw [if_pos rfl] at H; exact H
            clear H
            have H := H1
            clear H1
            simp only [Option.some.injEq, Prod.mk.injEq] at H
            obtain ⟨rfl, rfl⟩ := H
            go_wp2
            repeat (go_quiet (fail); try go_wp2)
            go_ret2
            exact ⟨_, by first | rfl | (simp [errW_none, errW_some] <;> rfl) | (simp [*, errW_none, errW_some] <;> rfl), Kd.V_nil _ _ _ _ _, by repeat (first | (with_reducible first | exact HB.out | apply below_alloc | apply pw_below_drewN | apply below_drew1) | exact HB.out)⟩
           ·replace c15 := Bool.eq_false_iff.mpr c15
            subst c15
            have H1 : (width_read.l1 kj7 l0 (l0.length : Int) x18_2 (rd l0 x18_2) l0 (l0.length : Int) x18_2 (l0.length : Int) 0) = some (r1, r2) := by rw [if_neg (show ¬ (false = true) by decide)] at H; exact H
            clear H
            have H := H1
            clear H1
            have H' := Aside0.mk H
            clear H
            go_wp2
            repeat (go_quiet (fail); try go_wp2)
            go_loopg [39] kj7 (fun kq v39 w' => ∃ (x39_4 : Int), v39 = .int .i64 x39_4 ∧ Aside0 (width_read.l1 kq l0 (l0.length : Int) x18_2 (rd l0 x18_2) l0 (l0.length : Int) x18_2 (l0.length : Int) x39_4 = some (r1, r2)) ∧ Aside0 (kq ≤ kj7) ∧ Aside0 (Kd.V (Kd.int .i64) 3 w' w.heap.size (fun k_ => (P0_ k_ ∨ w.heap.size ≤ k_)) (.slice (some ad101) l0.length c0) l0) ∧ Aside0 (Kd.V (Kd.int .i64) 3 w' w.heap.size (fun k_ => (P0_ k_ ∨ w.heap.size ≤ k_)) (.slice (some ad101) l0.length c0) l0) ∧ Aside0 (Below w.heap.size w w'))
            case atStart => exact ⟨(0), (Qrs), H', ⟨Nat.le_refl _⟩, ⟨by (with_reducible repeat (first | apply Kd.V_alloc | apply Kd.V_drewN | apply Kd.V_drew)); exact HO_0.out⟩, ⟨by (with_reducible repeat (first | apply Kd.V_alloc | apply Kd.V_drewN | apply Kd.V_drew)); exact HO_16.out⟩, ⟨by repeat (first | (with_reducible first | exact HB.out | apply below_alloc | apply pw_below_drewN | apply below_drew1) | exact HB.out)⟩⟩
            case round =>
             clear H'
             try clear c1
             try clear p1
             try clear q1
             try clear hx1
             try clear p2
             try clear c3
             try clear c3b0
             try clear c3b1
             try clear c4
             try clear c5
             try clear c5b0
             try clear c6
             try clear c6b0
             try clear p6
             try clear c7
             try clear c7b0
             try clear c9
             try clear c9b0
             try clear c10
             try clear c10b0
             try clear c10b1
             try clear p10
             try clear q10
             try clear hx10
             try clear c12
             try clear c12b0
             try clear c13
             try clear c13b0
             try clear c15
             try clear hx101_0
             try clear p1
             try clear p10
             try clear p101
             try clear p2
             try clear p6
             try clear q1
             try clear q10
             try clear q101
             obtain ⟨x39_4, rfl, HA, HK4, HO_0, HO_16, HB⟩ := hrel
             cases gk with
             | zero => exact absurd HA.out (by simp [width_read.l1])
             | succ k4 =>
              have H := HA.out
              clear HA
              simp only [width_read.l1] at H
              by_cases c16 : x39_4 < (l0.length : Int)
              ·rw [if_pos c16] at H
               have c16b0 : decide (x39_4 < (l0.length : Int)) = true := decide_eq_true c16
               clear c16
               by_cases c17 : 0 ≤ x39_4
               ·rw [if_pos c17] at H
                have c17b0 := eq_true c17
                have c17b1 : decide (0 ≤ x39_4) = true := decide_eq_true c17
                clear c17
                obtain ⟨ji18, hji18⟩ : ∃ j_ : Int, (shr .i64 (rd l0 x18_2) x39_4) = j_ := ⟨_, rfl⟩
                replace H : (if x39_4 < (l0.length : Int) then (if 0 ≤ x18_2 then (if (Go.bits .and .i64 (ji18) 1) = (Go.bits .and .i64 (shr .i64 (rd l0 x39_4) x18_2) 1) then (width_read.l1 k4 l0 (l0.length : Int) x18_2 (rd l0 x18_2) l0 (l0.length : Int) x18_2 (l0.length : Int) (wrap64 (x39_4 + 1))) else (some (([] : List Int), false))) else (none)) else (none)) = some (r1, r2) := by first | (rw [hji18] at H; exact H) | (simp only [hji18] at H ⊢; exact H)
                have hji18_ : ((rd l0 x18_2) / 2 ^ min x39_4.toNat 64) = ji18 := hji18
                have hji18z : x39_4 ≤ 64 → ((rd l0 x18_2) / 2 ^ x39_4.toNat) = ji18 := shr_small hji18
                by_cases c19 : x39_4 < (l0.length : Int)
                ·rw [if_pos c19] at H
                 have c19b0 : decide (x39_4 < (l0.length : Int)) = true := decide_eq_true c19
                 clear c19
                 by_cases c20 : 0 ≤ x18_2
                 ·rw [if_pos c20] at H
                  have c20b0 := eq_true c20
                  have c20b1 : decide (0 ≤ x18_2) = true := decide_eq_true c20
                  clear c20
                  obtain ⟨ji21, hji21⟩ : ∃ j_ : Int, (shr .i64 (rd l0 x39_4) x18_2) = j_ := ⟨_, rfl⟩
                  replace H : (if (Go.bits .and .i64 (ji18) 1) = (Go.bits .and .i64 (ji21) 1) then (width_read.l1 k4 l0 (l0.length : Int) x18_2 (rd l0 x18_2) l0 (l0.length : Int) x18_2 (l0.length : Int) (wrap64 (x39_4 + 1))) else (some (([] : List Int), false))) = some (r1, r2) := by first | (rw [hji21] at H; exact H) | (simp only [hji21] at H ⊢; exact H)
                  have hji21_ : ((rd l0 x39_4) / 2 ^ min x18_2.toNat 64) = ji21 := hji21
                  have hji21z : x18_2 ≤ 64 → ((rd l0 x39_4) / 2 ^ x18_2.toNat) = ji21 := shr_small hji21
                  by_cases c22 : (Go.bits .and .i64 (ji18) 1) = (Go.bits .and .i64 (ji21) 1)
                  ·rw [if_pos c22] at H
                   have c22b0 : ((Go.bits .and .i64 (ji18) 1) == (Go.bits .and .i64 (ji21) 1)) = true := beq_iff_eq.mpr c22
                   have c22b1 : ((Go.bits .and .i64 (ji18) 1) != (Go.bits .and .i64 (ji21) 1)) = false := bne_eq_false_iff_eq.mpr c22
                   clear c22
                   have H' := Aside0.mk H
                   clear H
                   have p102 : 0 ≤ (x39_4 : Int) := of_decide_eq_true (Qas)
                   have q102 : x39_4 < (l0.length : Int) := of_decide_eq_true (Qas)
                   obtain ⟨ad102, e102, hx102_0⟩ := Kd.at_int (Kd.V_reads' HO_0.out).2.2 x39_4 p102 q102
                   obtain rfl : ad101 = ad102 := (by injection e102)
                   replace p102 := eq_true p102
                   replace q102 := eq_true q102
                   go_wp2
                   repeat (go_quiet (fail); try go_wp2)
                   go_roundg k4
                   case measure => have := HJ1.out; have := HK2.out; have := HJ7.out; have := HK4.out; omega
                   case rel => exact ⟨(wrap64 (x39_4 + 1)), (Qrs), H', ⟨by have := HJ1.out; have := HK2.out; have := HJ7.out; have := HK4.out; omega⟩, ⟨by (with_reducible repeat (first | apply Kd.V_alloc | apply Kd.V_drewN | apply Kd.V_drew)); exact HO_0.out⟩, ⟨by (with_reducible repeat (first | apply Kd.V_alloc | apply Kd.V_drewN | apply Kd.V_drew)); exact HO_16.out⟩, ⟨by repeat (first | (with_reducible first | exact HB.out | apply below_alloc | apply pw_below_drewN | apply below_drew1) | exact HB.out)⟩⟩
                  ·rw [if_neg c22] at H
                   have c22b0 : ((Go.bits .and .i64 (ji18) 1) == (Go.bits .and .i64 (ji21) 1)) = false := beq_eq_false_iff_ne.mpr c22
                   have c22b1 : ((Go.bits .and .i64 (ji18) 1) != (Go.bits .and .i64 (ji21) 1)) = true := bne_iff_ne.mpr c22
                   simp only [Option.some.injEq, Prod.mk.injEq] at H
                   obtain ⟨rfl, rfl⟩ := H
                   have p102 : 0 ≤ (x39_4 : Int) := of_decide_eq_true (Qas)
                   have q102 : x39_4 < (l0.length : Int) := of_decide_eq_true (Qas)
                   obtain ⟨ad102, e102, hx102_0⟩ := Kd.at_int (Kd.V_reads' HO_0.out).2.2 x39_4 p102 q102
                   obtain rfl : ad101 = ad102 := (by injection e102)
                   replace p102 := eq_true p102
                   replace q102 := eq_true q102
                   go_wp2
                   repeat (go_quiet (fail); try go_wp2)
                   go_ret2
                   exact ⟨_, by first | rfl | (simp [errW_none, errW_some] <;> rfl) | (simp only [← hji18, ← hji21]; first | rfl | (simp [errW_none, errW_some] <;> rfl)) | (simp [*, errW_none, errW_some] <;> rfl), Kd.V_nil _ _ _ _ _, by repeat (first | (with_reducible first | exact HB.out | apply below_alloc | apply pw_below_drewN | apply below_drew1) | exact HB.out)⟩
                 ·rw [if_neg c20] at H
                  exact absurd H (by simp)
                ·rw [if_neg c19] at H
                 exact absurd H (by simp)
               ·rw [if_neg c17] at H
                exact absurd H (by simp)
              ·rw [if_neg c16] at H
               have c16b0 : decide (x39_4 < (l0.length : Int)) = false := decide_eq_false c16
               clear c16
               have H' := Aside0.mk H
               clear H
               go_wp2
               repeat (go_quiet (fail); try go_wp2)
               go_roundg k4
               case measure => have := HJ1.out; have := HK2.out; have := HJ7.out; have := HK4.out; omega
               case rel => exact ⟨(wrap64 (x18_2 + 1)), (Qrs), H', ⟨by have := HJ1.out; have := HK2.out; have := HJ7.out; have := HK4.out; omega⟩, ⟨by (with_reducible repeat (first | apply Kd.V_alloc | apply Kd.V_drewN | apply Kd.V_drew)); exact HO_0.out⟩, ⟨by (with_reducible repeat (first | apply Kd.V_alloc | apply Kd.V_drewN | apply Kd.V_drew)); exact HO_16.out⟩, ⟨by repeat (first | (with_reducible first | exact HB.out | apply below_alloc | apply pw_below_drewN | apply below_drew1) | exact HB.out)⟩⟩
        ·rw [if_neg c7] at H
         exact absurd H (by simp)
       ·rw [if_neg c6] at H
        exact absurd H (by simp)
      ·rw [if_neg c5] at H
       have c5b0 : decide (x18_2 < (l0.length : Int)) = false := decide_eq_false c5
       clear c5
       simp only [Option.some.injEq, Prod.mk.injEq] at H
       obtain ⟨rfl, rfl⟩ := H
       go_wp2
       repeat (go_quiet (fail); try go_wp2)
       go_ret2
       exact ⟨_, by first | rfl | (simp [errW_none, errW_some] <;> rfl) | (simp [*, errW_none, errW_some] <;> rfl), by (with_reducible repeat (first | apply Kd.V_alloc | apply Kd.V_drewN | apply Kd.V_drew)); exact HO_0.out, by repeat (first | (with_reducible first | exact HB.out | apply below_alloc | apply pw_below_drewN | apply below_drew1) | exact HB.out)⟩
end
noncomputable section
def width_town_all.f (l0 : List Int) : Option (Int) := some (wrap64 ((shl .i64 1 (l0.length : Int)) - 1))
set_option maxHeartbeats 8000000 in
set_option maxRecDepth 100000 in
theorem width_town_all.calls (A0 : Option Addr) (c0 : Nat) (l0 : List Int) (r : Int) (w : World) (hr0 : Kd.C (Kd.int .i64) w A0 l0.length l0) (hc0 : l0.length ≤ c0) (h : width_town_all.f l0 = some r) :
  Calls Tryd.prog 67 #[.slice A0 l0.length c0] w fun e w' => e = .returned (.int .i64 r) ∧ Drawn0 w w' := by
 have HR0 := Aside0.mk hr0
 have HC0 := Aside0.mk hc0
 clear hr0 hc0
 have H : (some (wrap64 ((shl .i64 1 (l0.length : Int)) - 1))) = some r := h
 clear h
 obtain ⟨ji2, hji2⟩ : ∃ j_ : Int, (shl .i64 1 (l0.length : Int)) = j_ := ⟨_, rfl⟩
 replace H : (some (wrap64 ((ji2) - 1))) = some r := by first | (rw [hji2] at H; exact H) | (simp only [hji2] at H ⊢; exact H)
 have hji2_ : (IntKind.i64.wrap (1 * 2 ^ min (l0.length : Int).toNat 64)) = ji2 := hji2
 have hji2z : (l0.length : Int) ≤ 64 → (IntKind.i64.wrap (1 * 2 ^ (l0.length : Int).toNat)) = ji2 := shl_small hji2
 have hji2p : (IntKind.i64.wrap (1 * 2 ^ min l0.length 64)) = ji2 := hji2_
 have hji2q : (l0.length : Int) ≤ 64 → (IntKind.i64.wrap (1 * 2 ^ l0.length)) = ji2 := hji2z
 have hji2r : (IntKind.i64.wrap (2 ^ min l0.length 64)) = ji2 := by have h_ := hji2p; rw [Int.one_mul] at h_; exact h_
 have hji2s : (l0.length : Int) ≤ 64 → (IntKind.i64.wrap (2 ^ l0.length)) = ji2 := fun hle_ => by have h_ := hji2q hle_; rw [Int.one_mul] at h_; exact h_
 have hji2u : (IntKind.i64.wrap (2 ^ min (l0.length : Int).toNat 64)) = ji2 := by have h_ := hji2_; rw [Int.one_mul] at h_; exact h_
 have hji2v : (l0.length : Int) ≤ 64 → (IntKind.i64.wrap (2 ^ (l0.length : Int).toNat)) = ji2 := fun hle_ => by have h_ := hji2z hle_; rw [Int.one_mul] at h_; exact h_
 have hji2y : (wrap64 (1 * 2 ^ min (l0.length : Int).toNat 64)) = ji2 := (i64_w _).symm.trans hji2_
 have hji2x : (l0.length : Int) ≤ 64 → (wrap64 (1 * 2 ^ (l0.length : Int).toNat)) = ji2 := fun h_ => (i64_w _).symm.trans (hji2z h_)
 obtain rfl := Option.some.inj H
 go_enter Tryd.func67, Tryd.ntmps67
 go_wp2
 go_ret
 exact ⟨by first | rfl | (simp; done) | (simp only [← hji2] <;> (first | rfl | simp)) | (simp [*]; done), by repeat (first | exact Drawn0.refl _ | apply Drawn0.step)⟩
end
noncomputable section
def width_nodes.l0 : Nat → Int → List Int → Option (List Int)
 | 0, _, _ => none
 | k + 1, x0, x3 => if x0 = 0 then (some x3) else ((bits_TrailingZeros.f (IntKind.u64.wrap (x0))).bind fun t105 => (if x3.length < 17592186044416 then (width_nodes.l0 k (Go.bits .and .i64 x0 (wrap64 (x0 - 1))) (x3 ++ [t105])) else (none)))
def width_nodes.f (k : Nat) (a0 : Int) : Option (List Int) := width_nodes.l0 k a0 ([] : List Int)
theorem width_nodes.mono_l : ∀ k, (∀ y0 y1, LeO (width_nodes.l0 k y0 y1) (width_nodes.l0 (k + 1) y0 y1))
 | 0 => fun _ _ r h => by simp [width_nodes.l0] at h
 | k + 1 => by
  have ih0 := width_nodes.mono_l k
  ·intro y0 y1
   unfold width_nodes.l0
   repeat' first
   | (with_reducible exact ih0 _ _)
   | (with_reducible exact LeO.refl _)
   | (with_reducible exact LeO.none _)
   | (with_reducible refine LeO.ite ?_ ?_)
   | (with_reducible refine LeO.bind ?_ (fun _ => ?_))
   | exact ih0 _ _
   | exact LeO.none _
   | refine LeO.ite ?_ ?_
   | refine LeO.bind ?_ (fun _ => ?_)
theorem width_nodes.mono : ∀ a0 k, LeO (width_nodes.f k a0) (width_nodes.f (k + 1) a0) := by
 intro a0 k
 have ih0 := width_nodes.mono_l k
 unfold width_nodes.f
 repeat' first
   | (with_reducible exact ih0 _ _)
   | (with_reducible exact LeO.refl _)
   | (with_reducible exact LeO.none _)
   | (with_reducible refine LeO.ite ?_ ?_)
   | (with_reducible refine LeO.bind ?_ (fun _ => ?_))
   | exact ih0 _ _
   | exact LeO.none _
   | refine LeO.ite ?_ ?_
   | refine LeO.bind ?_ (fun _ => ?_)
set_option maxHeartbeats 8000000 in
set_option maxRecDepth 100000 in
theorem width_nodes.calls (k : Nat) (a0 : Int) (r : List Int) (w : World) (hGL : GL w) (h : width_nodes.f k a0 = some r) :
  Calls Tryd.prog 98 #[.int .i64 a0] w fun e w' => ∃ v0_ : Value, e = .returned (v0_) ∧ Kd.R (Kd.int .i64) 3 w' w.heap.size (fun _ => True) v0_ r ∧ Below w.heap.size w w' := by
 have HGL := Aside0.mk hGL
 clear hGL
 have HB := Aside0.mk (Below.refl w.heap.size w)
 have H : (width_nodes.l0 k a0 ([] : List Int)) = some r := h
 clear h
 have H' := Aside0.mk H
 clear H
 go_enter Tryd.func98, Tryd.ntmps98
 go_wp2
 go_loopg [0, 3] k (fun kq v0 v3 w' => ∃ (x0_1 : Int) (x3_1 : List Int), v0 = .int .i64 x0_1 ∧ Aside0 (width_nodes.l0 kq x0_1 x3_1 = some r) ∧ Aside0 (kq ≤ k) ∧ Aside0 (Kd.R (Kd.int .i64) 3 w' w.heap.size (fun _ => True) v3 x3_1) ∧ Aside0 (Below w.heap.size w w'))
 case atStart => exact ⟨(a0), (([] : List Int)), (Qrs), H', ⟨Nat.le_refl _⟩, ⟨by first | exact Kd.R_nil _ _ _ _ _ | exact Kd.N_nil _ _ _ _ _ | exact Kd.V_nil _ _ _ _ _ | exact Kd.Q_nil _ _ _ _ _ | exact Kd.S_nil _ _ _ _ _⟩, ⟨by repeat (first | (with_reducible first | exact HB.out | apply below_alloc | apply pw_below_drewN | apply below_drew1) | exact HB.out)⟩⟩
 case round =>
  clear H'
  obtain ⟨x0_1, x3_1, rfl, HA, HK1, HO_3, HB⟩ := hrel
  cases gk with
  | zero => exact absurd HA.out (by simp [width_nodes.l0])
  | succ k1 =>
   have H := HA.out
   clear HA
   simp only [width_nodes.l0] at H
   by_cases c2 : x0_1 = 0
   ·rw [if_pos c2] at H
    have c2b0 : (x0_1 == 0) = true := beq_iff_eq.mpr c2
    have c2b1 : (x0_1 != 0) = false := bne_eq_false_iff_eq.mpr c2
    clear c2
    obtain rfl := Option.some.inj H
    go_wp2
    go_ret
    exact ⟨_, by first | rfl | (simp [errW_none, errW_some] <;> rfl) | (simp [*, errW_none, errW_some] <;> rfl), by (with_reducible repeat (first | apply Kd.R_alloc | apply Kd.R_drewN | apply Kd.R_drew)); exact HO_3.out, by repeat (first | (with_reducible first | exact HB.out | apply below_alloc | apply pw_below_drewN | apply below_drew1) | exact HB.out)⟩
   ·rw [if_neg c2] at H
    have c2b0 : (x0_1 == 0) = false := beq_eq_false_iff_ne.mpr c2
    have c2b1 : (x0_1 != 0) = true := bne_iff_ne.mpr c2
    replace H := Option.bind_eq_some_iff.mp H
    obtain ⟨t105, A30, H⟩ := H
    replace H : (if x3_1.length < 17592186044416 then (width_nodes.l0 k1 (Go.bits .and .i64 x0_1 (wrap64 (x0_1 - 1))) (x3_1 ++ [t105])) else (none)) = some r := H
    have A3 := Aside0.mk A30
    clear A30
    by_cases c4 : x3_1.length < 17592186044416
    ·rw [if_pos c4] at H
     have LMc4 := Aside0.mk c4
     clear c4
     obtain ⟨y106, hy106⟩ : ∃ y_ : List Int, y_ = (x3_1 ++ [t105]) := ⟨_, rfl⟩
     replace H : (width_nodes.l0 k1 (Go.bits .and .i64 x0_1 (wrap64 (x0_1 - 1))) y106) = some r := by first | (rw [hy106]; with_reducible exact H) | (have H2_ := (Option.bind_some _ _).symm.trans H; rw [hy106]; with_reducible exact H2_) | (have H2_ := (Option.bind_some _ _).symm.trans H; with_reducible exact H2_) | with_reducible exact H | (rw [hy106]; exact H) | exact H
     have Ny106 := Aside0.mk hy106
     clear hy106
     have H' := Aside0.mk H
     clear H
     go_wp2_with (first | ((with_reducible refine gate_callee (f := 117) rfl ?_); refine goesL_ (some 13) rfl rfl Tryd.func117 (by kernel_rfl) rfl #[.int .u64 (IntKind.u64.wrap (x0_1))] rfl (Qls) ?_; (with_reducible refine (bits_TrailingZeros.calls (hGL := (Qlg)) (IntKind.u64.wrap (x0_1)) t105 _ A3.out).mono ?_); rintro e w' ⟨rfl, ⟨nd, rfl⟩⟩; refine ⟨_, rfl, ?_⟩) | ((with_reducible refine gate_builtin (b := .append) (xs := #[.tmp 10, .tmp 14]) rfl ?_); at_builtin; refine Kd.R_append (Kd.int .i64) (w0 := w) w.heap.size rfl (.tmp 10) (.tmp 14) 22 3 (.int .i64 0) 8 rfl Tryd.underlying22 info3 rfl (by decide) (by omega) u3 x3_1 t105 [.int .i64 t105] (fun _ => True) (fun _ => False) rfl rfl ?aP (fun _ hk => hk.elim) ?aF ?aO ?aB ?aS ?aL ?_; (case aP => exact rfl); (case aB => exact (Qaw)); (case aF => exact (fun _ _ => trivial)); (case aO => exact (Qro HO_3.out)); (case aS => exact (below_size (Qaw))); (case aL => have := LMc4.out; omega); intro v107 w5 ho hb hg hat; rw [← Ny106.out] at ho; have n0_ := Aside0.mk (hb); have n1_ := Aside0.mk (ho); clear HB; clear HO_3; have HB := n0_; have HO108 := n1_; clear n0_ n1_; clear ho hb hg hat))
     go_roundg k1
     case measure => have := HK1.out; omega
     case rel => exact ⟨(Go.bits .and .i64 x0_1 (wrap64 (x0_1 - 1))), (y106), (Qrs), H', ⟨by have := HK1.out; omega⟩, ⟨by (with_reducible repeat (first | apply Kd.R_alloc | apply Kd.R_drewN | apply Kd.R_drew)); exact HO108.out⟩, ⟨by repeat (first | (with_reducible first | exact HB.out | apply below_alloc | apply pw_below_drewN | apply below_drew1) | exact HB.out)⟩⟩
    ·rw [if_neg c4] at H
     exact absurd H (by simp)
end
noncomputable section
def bits_OnesCount64.f (a0 : Int) : Option (Int) := some (Go.bits .and .i64 (wrap64 (IntKind.u64.wrap ((IntKind.u64.wrap ((IntKind.u64.wrap ((Go.bits .and .u64 (IntKind.u64.wrap (((IntKind.u64.wrap ((Go.bits .and .u64 ((IntKind.u64.wrap ((Go.bits .and .u64 (a0 / 2) 6148914691236517205) + (Go.bits .and .u64 a0 6148914691236517205))) / 4) 3689348814741910323) + (Go.bits .and .u64 (IntKind.u64.wrap ((Go.bits .and .u64 (a0 / 2) 6148914691236517205) + (Go.bits .and .u64 a0 6148914691236517205))) 3689348814741910323))) / 16) + (IntKind.u64.wrap ((Go.bits .and .u64 ((IntKind.u64.wrap ((Go.bits .and .u64 (a0 / 2) 6148914691236517205) + (Go.bits .and .u64 a0 6148914691236517205))) / 4) 3689348814741910323) + (Go.bits .and .u64 (IntKind.u64.wrap ((Go.bits .and .u64 (a0 / 2) 6148914691236517205) + (Go.bits .and .u64 a0 6148914691236517205))) 3689348814741910323))))) 1085102592571150095) + ((Go.bits .and .u64 (IntKind.u64.wrap (((IntKind.u64.wrap ((Go.bits .and .u64 ((IntKind.u64.wrap ((Go.bits .and .u64 (a0 / 2) 6148914691236517205) + (Go.bits .and .u64 a0 6148914691236517205))) / 4) 3689348814741910323) + (Go.bits .and .u64 (IntKind.u64.wrap ((Go.bits .and .u64 (a0 / 2) 6148914691236517205) + (Go.bits .and .u64 a0 6148914691236517205))) 3689348814741910323))) / 16) + (IntKind.u64.wrap ((Go.bits .and .u64 ((IntKind.u64.wrap ((Go.bits .and .u64 (a0 / 2) 6148914691236517205) + (Go.bits .and .u64 a0 6148914691236517205))) / 4) 3689348814741910323) + (Go.bits .and .u64 (IntKind.u64.wrap ((Go.bits .and .u64 (a0 / 2) 6148914691236517205) + (Go.bits .and .u64 a0 6148914691236517205))) 3689348814741910323))))) 1085102592571150095) / 256))) + ((IntKind.u64.wrap ((Go.bits .and .u64 (IntKind.u64.wrap (((IntKind.u64.wrap ((Go.bits .and .u64 ((IntKind.u64.wrap ((Go.bits .and .u64 (a0 / 2) 6148914691236517205) + (Go.bits .and .u64 a0 6148914691236517205))) / 4) 3689348814741910323) + (Go.bits .and .u64 (IntKind.u64.wrap ((Go.bits .and .u64 (a0 / 2) 6148914691236517205) + (Go.bits .and .u64 a0 6148914691236517205))) 3689348814741910323))) / 16) + (IntKind.u64.wrap ((Go.bits .and .u64 ((IntKind.u64.wrap ((Go.bits .and .u64 (a0 / 2) 6148914691236517205) + (Go.bits .and .u64 a0 6148914691236517205))) / 4) 3689348814741910323) + (Go.bits .and .u64 (IntKind.u64.wrap ((Go.bits .and .u64 (a0 / 2) 6148914691236517205) + (Go.bits .and .u64 a0 6148914691236517205))) 3689348814741910323))))) 1085102592571150095) + ((Go.bits .and .u64 (IntKind.u64.wrap (((IntKind.u64.wrap ((Go.bits .and .u64 ((IntKind.u64.wrap ((Go.bits .and .u64 (a0 / 2) 6148914691236517205) + (Go.bits .and .u64 a0 6148914691236517205))) / 4) 3689348814741910323) + (Go.bits .and .u64 (IntKind.u64.wrap ((Go.bits .and .u64 (a0 / 2) 6148914691236517205) + (Go.bits .and .u64 a0 6148914691236517205))) 3689348814741910323))) / 16) + (IntKind.u64.wrap ((Go.bits .and .u64 ((IntKind.u64.wrap ((Go.bits .and .u64 (a0 / 2) 6148914691236517205) + (Go.bits .and .u64 a0 6148914691236517205))) / 4) 3689348814741910323) + (Go.bits .and .u64 (IntKind.u64.wrap ((Go.bits .and .u64 (a0 / 2) 6148914691236517205) + (Go.bits .and .u64 a0 6148914691236517205))) 3689348814741910323))))) 1085102592571150095) / 256))) / 65536))) + ((IntKind.u64.wrap ((IntKind.u64.wrap ((Go.bits .and .u64 (IntKind.u64.wrap (((IntKind.u64.wrap ((Go.bits .and .u64 ((IntKind.u64.wrap ((Go.bits .and .u64 (a0 / 2) 6148914691236517205) + (Go.bits .and .u64 a0 6148914691236517205))) / 4) 3689348814741910323) + (Go.bits .and .u64 (IntKind.u64.wrap ((Go.bits .and .u64 (a0 / 2) 6148914691236517205) + (Go.bits .and .u64 a0 6148914691236517205))) 3689348814741910323))) / 16) + (IntKind.u64.wrap ((Go.bits .and .u64 ((IntKind.u64.wrap ((Go.bits .and .u64 (a0 / 2) 6148914691236517205) + (Go.bits .and .u64 a0 6148914691236517205))) / 4) 3689348814741910323) + (Go.bits .and .u64 (IntKind.u64.wrap ((Go.bits .and .u64 (a0 / 2) 6148914691236517205) + (Go.bits .and .u64 a0 6148914691236517205))) 3689348814741910323))))) 1085102592571150095) + ((Go.bits .and .u64 (IntKind.u64.wrap (((IntKind.u64.wrap ((Go.bits .and .u64 ((IntKind.u64.wrap ((Go.bits .and .u64 (a0 / 2) 6148914691236517205) + (Go.bits .and .u64 a0 6148914691236517205))) / 4) 3689348814741910323) + (Go.bits .and .u64 (IntKind.u64.wrap ((Go.bits .and .u64 (a0 / 2) 6148914691236517205) + (Go.bits .and .u64 a0 6148914691236517205))) 3689348814741910323))) / 16) + (IntKind.u64.wrap ((Go.bits .and .u64 ((IntKind.u64.wrap ((Go.bits .and .u64 (a0 / 2) 6148914691236517205) + (Go.bits .and .u64 a0 6148914691236517205))) / 4) 3689348814741910323) + (Go.bits .and .u64 (IntKind.u64.wrap ((Go.bits .and .u64 (a0 / 2) 6148914691236517205) + (Go.bits .and .u64 a0 6148914691236517205))) 3689348814741910323))))) 1085102592571150095) / 256))) + ((IntKind.u64.wrap ((Go.bits .and .u64 (IntKind.u64.wrap (((IntKind.u64.wrap ((Go.bits .and .u64 ((IntKind.u64.wrap ((Go.bits .and .u64 (a0 / 2) 6148914691236517205) + (Go.bits .and .u64 a0 6148914691236517205))) / 4) 3689348814741910323) + (Go.bits .and .u64 (IntKind.u64.wrap ((Go.bits .and .u64 (a0 / 2) 6148914691236517205) + (Go.bits .and .u64 a0 6148914691236517205))) 3689348814741910323))) / 16) + (IntKind.u64.wrap ((Go.bits .and .u64 ((IntKind.u64.wrap ((Go.bits .and .u64 (a0 / 2) 6148914691236517205) + (Go.bits .and .u64 a0 6148914691236517205))) / 4) 3689348814741910323) + (Go.bits .and .u64 (IntKind.u64.wrap ((Go.bits .and .u64 (a0 / 2) 6148914691236517205) + (Go.bits .and .u64 a0 6148914691236517205))) 3689348814741910323))))) 1085102592571150095) + ((Go.bits .and .u64 (IntKind.u64.wrap (((IntKind.u64.wrap ((Go.bits .and .u64 ((IntKind.u64.wrap ((Go.bits .and .u64 (a0 / 2) 6148914691236517205) + (Go.bits .and .u64 a0 6148914691236517205))) / 4) 3689348814741910323) + (Go.bits .and .u64 (IntKind.u64.wrap ((Go.bits .and .u64 (a0 / 2) 6148914691236517205) + (Go.bits .and .u64 a0 6148914691236517205))) 3689348814741910323))) / 16) + (IntKind.u64.wrap ((Go.bits .and .u64 ((IntKind.u64.wrap ((Go.bits .and .u64 (a0 / 2) 6148914691236517205) + (Go.bits .and .u64 a0 6148914691236517205))) / 4) 3689348814741910323) + (Go.bits .and .u64 (IntKind.u64.wrap ((Go.bits .and .u64 (a0 / 2) 6148914691236517205) + (Go.bits .and .u64 a0 6148914691236517205))) 3689348814741910323))))) 1085102592571150095) / 256))) / 65536))) / 4294967296)))) 127)
set_option maxHeartbeats 8000000 in
set_option maxRecDepth 100000 in
theorem bits_OnesCount64.calls (a0 : Int) (r : Int) (w : World) (h : bits_OnesCount64.f a0 = some r) :
  Calls Tryd.prog 116 #[.int .u64 a0] w fun e w' => e = .returned (.int .i64 r) ∧ Drawn0 w w' := by
 have H : (some (Go.bits .and .i64 (wrap64 (IntKind.u64.wrap ((IntKind.u64.wrap ((IntKind.u64.wrap ((Go.bits .and .u64 (IntKind.u64.wrap (((IntKind.u64.wrap ((Go.bits .and .u64 ((IntKind.u64.wrap ((Go.bits .and .u64 (a0 / 2) 6148914691236517205) + (Go.bits .and .u64 a0 6148914691236517205))) / 4) 3689348814741910323) + (Go.bits .and .u64 (IntKind.u64.wrap ((Go.bits .and .u64 (a0 / 2) 6148914691236517205) + (Go.bits .and .u64 a0 6148914691236517205))) 3689348814741910323))) / 16) + (IntKind.u64.wrap ((Go.bits .and .u64 ((IntKind.u64.wrap ((Go.bits .and .u64 (a0 / 2) 6148914691236517205) + (Go.bits .and .u64 a0 6148914691236517205))) / 4) 3689348814741910323) + (Go.bits .and .u64 (IntKind.u64.wrap ((Go.bits .and .u64 (a0 / 2) 6148914691236517205) + (Go.bits .and .u64 a0 6148914691236517205))) 3689348814741910323))))) 1085102592571150095) + ((Go.bits .and .u64 (IntKind.u64.wrap (((IntKind.u64.wrap ((Go.bits .and .u64 ((IntKind.u64.wrap ((Go.bits .and .u64 (a0 / 2) 6148914691236517205) + (Go.bits .and .u64 a0 6148914691236517205))) / 4) 3689348814741910323) + (Go.bits .and .u64 (IntKind.u64.wrap ((Go.bits .and .u64 (a0 / 2) 6148914691236517205) + (Go.bits .and .u64 a0 6148914691236517205))) 3689348814741910323))) / 16) + (IntKind.u64.wrap ((Go.bits .and .u64 ((IntKind.u64.wrap ((Go.bits .and .u64 (a0 / 2) 6148914691236517205) + (Go.bits .and .u64 a0 6148914691236517205))) / 4) 3689348814741910323) + (Go.bits .and .u64 (IntKind.u64.wrap ((Go.bits .and .u64 (a0 / 2) 6148914691236517205) + (Go.bits .and .u64 a0 6148914691236517205))) 3689348814741910323))))) 1085102592571150095) / 256))) + ((IntKind.u64.wrap ((Go.bits .and .u64 (IntKind.u64.wrap (((IntKind.u64.wrap ((Go.bits .and .u64 ((IntKind.u64.wrap ((Go.bits .and .u64 (a0 / 2) 6148914691236517205) + (Go.bits .and .u64 a0 6148914691236517205))) / 4) 3689348814741910323) + (Go.bits .and .u64 (IntKind.u64.wrap ((Go.bits .and .u64 (a0 / 2) 6148914691236517205) + (Go.bits .and .u64 a0 6148914691236517205))) 3689348814741910323))) / 16) + (IntKind.u64.wrap ((Go.bits .and .u64 ((IntKind.u64.wrap ((Go.bits .and .u64 (a0 / 2) 6148914691236517205) + (Go.bits .and .u64 a0 6148914691236517205))) / 4) 3689348814741910323) + (Go.bits .and .u64 (IntKind.u64.wrap ((Go.bits .and .u64 (a0 / 2) 6148914691236517205) + (Go.bits .and .u64 a0 6148914691236517205))) 3689348814741910323))))) 1085102592571150095) + ((Go.bits .and .u64 (IntKind.u64.wrap (((IntKind.u64.wrap ((Go.bits .and .u64 ((IntKind.u64.wrap ((Go.bits .and .u64 (a0 / 2) 6148914691236517205) + (Go.bits .and .u64 a0 6148914691236517205))) / 4) 3689348814741910323) + (Go.bits .and .u64 (IntKind.u64.wrap ((Go.bits .and .u64 (a0 / 2) 6148914691236517205) + (Go.bits .and .u64 a0 6148914691236517205))) 3689348814741910323))) / 16) + (IntKind.u64.wrap ((Go.bits .and .u64 ((IntKind.u64.wrap ((Go.bits .and .u64 (a0 / 2) 6148914691236517205) + (Go.bits .and .u64 a0 6148914691236517205))) / 4) 3689348814741910323) + (Go.bits .and .u64 (IntKind.u64.wrap ((Go.bits .and .u64 (a0 / 2) 6148914691236517205) + (Go.bits .and .u64 a0 6148914691236517205))) 3689348814741910323))))) 1085102592571150095) / 256))) / 65536))) + ((IntKind.u64.wrap ((IntKind.u64.wrap ((Go.bits .and .u64 (IntKind.u64.wrap (((IntKind.u64.wrap ((Go.bits .and .u64 ((IntKind.u64.wrap ((Go.bits .and .u64 (a0 / 2) 6148914691236517205) + (Go.bits .and .u64 a0 6148914691236517205))) / 4) 3689348814741910323) + (Go.bits .and .u64 (IntKind.u64.wrap ((Go.bits .and .u64 (a0 / 2) 6148914691236517205) + (Go.bits .and .u64 a0 6148914691236517205))) 3689348814741910323))) / 16) + (IntKind.u64.wrap ((Go.bits .and .u64 ((IntKind.u64.wrap ((Go.bits .and .u64 (a0 / 2) 6148914691236517205) + (Go.bits .and .u64 a0 6148914691236517205))) / 4) 3689348814741910323) + (Go.bits .and .u64 (IntKind.u64.wrap ((Go.bits .and .u64 (a0 / 2) 6148914691236517205) + (Go.bits .and .u64 a0 6148914691236517205))) 3689348814741910323))))) 1085102592571150095) + ((Go.bits .and .u64 (IntKind.u64.wrap (((IntKind.u64.wrap ((Go.bits .and .u64 ((IntKind.u64.wrap ((Go.bits .and .u64 (a0 / 2) 6148914691236517205) + (Go.bits .and .u64 a0 6148914691236517205))) / 4) 3689348814741910323) + (Go.bits .and .u64 (IntKind.u64.wrap ((Go.bits .and .u64 (a0 / 2) 6148914691236517205) + (Go.bits .and .u64 a0 6148914691236517205))) 3689348814741910323))) / 16) + (IntKind.u64.wrap ((Go.bits .and .u64 ((IntKind.u64.wrap ((Go.bits .and .u64 (a0 / 2) 6148914691236517205) + (Go.bits .and .u64 a0 6148914691236517205))) / 4) 3689348814741910323) + (Go.bits .and .u64 (IntKind.u64.wrap ((Go.bits .and .u64 (a0 / 2) 6148914691236517205) + (Go.bits .and .u64 a0 6148914691236517205))) 3689348814741910323))))) 1085102592571150095) / 256))) + ((IntKind.u64.wrap ((Go.bits .and .u64 (IntKind.u64.wrap (((IntKind.u64.wrap ((Go.bits .and .u64 ((IntKind.u64.wrap ((Go.bits .and .u64 (a0 / 2) 6148914691236517205) + (Go.bits .and .u64 a0 6148914691236517205))) / 4) 3689348814741910323) + (Go.bits .and .u64 (IntKind.u64.wrap ((Go.bits .and .u64 (a0 / 2) 6148914691236517205) + (Go.bits .and .u64 a0 6148914691236517205))) 3689348814741910323))) / 16) + (IntKind.u64.wrap ((Go.bits .and .u64 ((IntKind.u64.wrap ((Go.bits .and .u64 (a0 / 2) 6148914691236517205) + (Go.bits .and .u64 a0 6148914691236517205))) / 4) 3689348814741910323) + (Go.bits .and .u64 (IntKind.u64.wrap ((Go.bits .and .u64 (a0 / 2) 6148914691236517205) + (Go.bits .and .u64 a0 6148914691236517205))) 3689348814741910323))))) 1085102592571150095) + ((Go.bits .and .u64 (IntKind.u64.wrap (((IntKind.u64.wrap ((Go.bits .and .u64 ((IntKind.u64.wrap ((Go.bits .and .u64 (a0 / 2) 6148914691236517205) + (Go.bits .and .u64 a0 6148914691236517205))) / 4) 3689348814741910323) + (Go.bits .and .u64 (IntKind.u64.wrap ((Go.bits .and .u64 (a0 / 2) 6148914691236517205) + (Go.bits .and .u64 a0 6148914691236517205))) 3689348814741910323))) / 16) + (IntKind.u64.wrap ((Go.bits .and .u64 ((IntKind.u64.wrap ((Go.bits .and .u64 (a0 / 2) 6148914691236517205) + (Go.bits .and .u64 a0 6148914691236517205))) / 4) 3689348814741910323) + (Go.bits .and .u64 (IntKind.u64.wrap ((Go.bits .and .u64 (a0 / 2) 6148914691236517205) + (Go.bits .and .u64 a0 6148914691236517205))) 3689348814741910323))))) 1085102592571150095) / 256))) / 65536))) / 4294967296)))) 127)) = some r := h
 clear h
 obtain rfl := Option.some.inj H
 go_enter Tryd.func116, Tryd.ntmps116
 go_wp2
 go_ret
 exact ⟨by first | rfl | (simp; done) | (simp [*]; done), by repeat (first | exact Drawn0.refl _ | apply Drawn0.step)⟩
end
noncomputable section
def bits_OnesCount.f (a0 : Int) : Option (Int) := (bits_OnesCount64.f a0).bind fun t103 => (some t103)
set_option maxHeartbeats 8000000 in
set_option maxRecDepth 100000 in
theorem bits_OnesCount.calls (a0 : Int) (r : Int) (w : World) (h : bits_OnesCount.f a0 = some r) :
  Calls Tryd.prog 94 #[.int .u64 a0] w fun e w' => e = .returned (.int .i64 r) ∧ Drawn0 w w' := by
 have H : ((bits_OnesCount64.f a0).bind fun t103 => (some t103)) = some r := h
 clear h
 replace H := Option.bind_eq_some_iff.mp H
 obtain ⟨t103, A20, H⟩ := H
 replace H : (some t103) = some r := H
 have A2 := Aside0.mk A20
 clear A20
 obtain rfl := Option.some.inj H
 go_enter Tryd.func94, Tryd.ntmps94
 go_wp2_with (first | ((with_reducible refine gate_callee (f := 116) rfl ?_); refine goesL_ (some 7) rfl rfl Tryd.func116 (by kernel_rfl) rfl #[.int .u64 a0] rfl (Qls) ?_; (with_reducible refine (bits_OnesCount64.calls a0 t103 _ A2.out).mono ?_); rintro e w' ⟨rfl, ⟨nd, rfl⟩⟩; refine ⟨_, rfl, ?_⟩))
 go_ret
 exact ⟨by first | rfl | (simp; done) | (simp [*]; done), by repeat (first | exact Drawn0.refl _ | apply Drawn0.step)⟩
end
noncomputable section
def width_count.f (a0 : Int) : Option (Int) := (bits_OnesCount.f (IntKind.u64.wrap (a0))).bind fun t104 => (some t104)
set_option maxHeartbeats 8000000 in
set_option maxRecDepth 100000 in
theorem width_count.calls (a0 : Int) (r : Int) (w : World) (h : width_count.f a0 = some r) :
  Calls Tryd.prog 68 #[.int .i64 a0] w fun e w' => e = .returned (.int .i64 r) ∧ Drawn0 w w' := by
 have H : ((bits_OnesCount.f (IntKind.u64.wrap (a0))).bind fun t104 => (some t104)) = some r := h
 clear h
 replace H := Option.bind_eq_some_iff.mp H
 obtain ⟨t104, A20, H⟩ := H
 replace H : (some t104) = some r := H
 have A2 := Aside0.mk A20
 clear A20
 obtain rfl := Option.some.inj H
 go_enter Tryd.func68, Tryd.ntmps68
 go_wp2_with (first | ((with_reducible refine gate_callee (f := 94) rfl ?_); refine goesL_ (some 5) rfl rfl Tryd.func94 (by kernel_rfl) rfl #[.int .u64 (IntKind.u64.wrap (a0))] rfl (Qls) ?_; (with_reducible refine (bits_OnesCount.calls (IntKind.u64.wrap (a0)) t104 _ A2.out).mono ?_); rintro e w' ⟨rfl, ⟨nd, rfl⟩⟩; refine ⟨_, rfl, ?_⟩))
 go_ret
 exact ⟨by first | rfl | (simp; done) | (simp [*]; done), by repeat (first | exact Drawn0.refl _ | apply Drawn0.step)⟩
end
noncomputable section
def width_town_around.l0 : Nat → List Int → Int → List Int → Int → Int → Option (Int)
 | 0, _, _, _, _, _ => none
 | k + 1, x0, x5, x9, x10, x11 => if x11 < x10 then (if 0 ≤ x11 then (if x11 < (x9.length : Int) then (if 0 ≤ (rd x9 x11) then (if (rd x9 x11) < (x0.length : Int) then (width_town_around.l0 k x0 (Go.bits .or .i64 x5 (rd x0 (rd x9 x11))) x9 x10 (wrap64 (x11 + 1))) else (none)) else (none)) else (none)) else (none)) else (some x5)
def width_town_around.f (k : Nat) (l0 : List Int) (a1 : Int) : Option (Int) := (width_nodes.f k a1).bind fun t109 => (width_town_around.l0 k l0 0 t109 (t109.length : Int) 0)
theorem width_town_around.mono_l : ∀ k, (∀ y0 y1 y2 y3 y4, LeO (width_town_around.l0 k y0 y1 y2 y3 y4) (width_town_around.l0 (k + 1) y0 y1 y2 y3 y4))
 | 0 => fun _ _ _ _ _ r h => by simp [width_town_around.l0] at h
 | k + 1 => by
  have ih0 := width_town_around.mono_l k
  ·intro y0 y1 y2 y3 y4
   unfold width_town_around.l0
   repeat' first
   | (with_reducible exact ih0 _ _ _ _ _)
   | (with_reducible exact width_nodes.mono _ _)
   | (with_reducible exact LeO.refl _)
   | (with_reducible exact LeO.none _)
   | (with_reducible refine LeO.ite ?_ ?_)
   | (with_reducible refine LeO.bind ?_ (fun _ => ?_))
   | exact ih0 _ _ _ _ _
   | exact width_nodes.mono _ _
   | exact LeO.none _
   | refine LeO.ite ?_ ?_
   | refine LeO.bind ?_ (fun _ => ?_)
theorem width_town_around.mono : ∀ a0 a1 k, LeO (width_town_around.f k a0 a1) (width_town_around.f (k + 1) a0 a1) := by
 intro a0 a1 k
 have ih0 := width_town_around.mono_l k
 unfold width_town_around.f
 repeat' first
   | (with_reducible exact ih0 _ _ _ _ _)
   | (with_reducible exact width_nodes.mono _ _)
   | (with_reducible exact LeO.refl _)
   | (with_reducible exact LeO.none _)
   | (with_reducible refine LeO.ite ?_ ?_)
   | (with_reducible refine LeO.bind ?_ (fun _ => ?_))
   | exact ih0 _ _ _ _ _
   | exact width_nodes.mono _ _
   | exact LeO.none _
   | refine LeO.ite ?_ ?_
   | refine LeO.bind ?_ (fun _ => ?_)
set_option maxHeartbeats 8000000 in
set_option maxRecDepth 100000 in
theorem width_town_around.calls (k : Nat) (A0 : Option Addr) (c0 : Nat) (l0 : List Int) (a1 : Int) (r : Int) (w : World) (hGL : GL w) (hr0 : Kd.C (Kd.int .i64) w A0 l0.length l0) (hc0 : l0.length ≤ c0) (h : width_town_around.f k l0 a1 = some r) :
  Calls Tryd.prog 93 #[.slice A0 l0.length c0, .int .i64 a1] w fun e w' => e = .returned (.int .i64 r) ∧ Below w.heap.size w w' := by
 have HGL := Aside0.mk hGL
 clear hGL
 have HR0 := Aside0.mk hr0
 have HC0 := Aside0.mk hc0
 clear hr0 hc0
 have HB := Aside0.mk (Below.refl w.heap.size w)
 have H : ((width_nodes.f k a1).bind fun t109 => (width_town_around.l0 k l0 0 t109 (t109.length : Int) 0)) = some r := h
 clear h
 replace H := Option.bind_eq_some_iff.mp H
 obtain ⟨t109, A30, H⟩ := H
 replace H : (width_town_around.l0 k l0 0 t109 (t109.length : Int) 0) = some r := H
 have A3 := Aside0.mk A30
 clear A30
 have H' := Aside0.mk H
 clear H
 go_enter Tryd.func93, Tryd.ntmps93
 go_wp2_with (first | ((with_reducible refine gate_callee (f := 98) rfl ?_); refine goesL_ (some 9) rfl rfl Tryd.func98 (by kernel_rfl) rfl #[.int .i64 a1] rfl (Qls) ?_; (with_reducible refine (width_nodes.calls (hGL := (Qlg)) k a1 t109 _ A3.out).mono ?_); rintro e w4 ⟨v110, rfl, ho0, hb⟩; refine ⟨_, rfl, ?_⟩; have n0_ := Aside0.mk (Kd.R_lower ho0 (below_size (Qaw))); have n1_ := Aside0.mk (below_step (Qaw) hb); clear HB; have HO111 := n0_; have HB := n1_; clear n0_ n1_; (try clear hb); (try clear hb2); (try clear hk); (try clear hi); (try clear ho0); obtain ⟨Ao5, co5, eo5⟩ := Kd.R_slice HO111.out; subst eo5))
 go_loopg [5, 11] k (fun kq v5 v11 w' => ∃ (x5_1 : Int) (x11_1 : Int), v5 = .int .i64 x5_1 ∧ v11 = .int .i64 x11_1 ∧ Aside0 (width_town_around.l0 kq l0 x5_1 t109 (t109.length : Int) x11_1 = some r) ∧ Aside0 (kq ≤ k) ∧ Aside0 (Kd.R (Kd.int .i64) 3 w' w.heap.size (fun _ => True) (.slice Ao5 t109.length co5) t109) ∧ Aside0 (Below w.heap.size w w'))
 case atStart => exact ⟨(0), (0), (Qrs), (Qrs), H', ⟨Nat.le_refl _⟩, ⟨by (with_reducible repeat (first | apply Kd.R_alloc | apply Kd.R_drewN | apply Kd.R_drew)); exact HO111.out⟩, ⟨by repeat (first | (with_reducible first | exact HB.out | apply below_alloc | apply pw_below_drewN | apply below_drew1) | exact HB.out)⟩⟩
 case round =>
  clear H'
  try clear p2
  obtain ⟨x5_1, x11_1, rfl, rfl, HA, HK1, HO_9, HB⟩ := hrel
  cases gk with
  | zero => exact absurd HA.out (by simp [width_town_around.l0])
  | succ k1 =>
   have H := HA.out
   clear HA
   simp only [width_town_around.l0] at H
   by_cases c6 : x11_1 < (t109.length : Int)
   ·rw [if_pos c6] at H
    have c6b0 : decide (x11_1 < (t109.length : Int)) = true := decide_eq_true c6
    clear c6
    by_cases c7 : 0 ≤ x11_1
    ·rw [if_pos c7] at H
     have c7b0 : decide (0 ≤ x11_1) = true := decide_eq_true c7
     clear c7
     by_cases c8 : x11_1 < (t109.length : Int)
     ·rw [if_pos c8] at H
      have c8b0 : decide (x11_1 < (t109.length : Int)) = true := decide_eq_true c8
      clear c8
      by_cases c9 : 0 ≤ (rd t109 x11_1)
      ·rw [if_pos c9] at H
       have c9b0 : decide (0 ≤ (rd t109 x11_1)) = true := decide_eq_true c9
       clear c9
       by_cases c10 : (rd t109 x11_1) < (l0.length : Int)
       ·rw [if_pos c10] at H
        have c10b0 : decide ((rd t109 x11_1) < (l0.length : Int)) = true := decide_eq_true c10
        clear c10
        have H' := Aside0.mk H
        clear H
        have p112 : 0 ≤ (x11_1 : Int) := of_decide_eq_true (Qas)
        have q112 : x11_1 < (t109.length : Int) := of_decide_eq_true (Qas)
        obtain ⟨ad112, e112, hx112_0⟩ := Kd.at_int (Kd.R_reads' HO_9.out).2.2 x11_1 p112 q112
        cases e112
        replace p112 := eq_true p112
        replace q112 := eq_true q112
        have p113 : 0 ≤ ((rd t109 x11_1) : Int) := of_decide_eq_true (Qas)
        have q113 : (rd t109 x11_1) < (l0.length : Int) := of_decide_eq_true (Qas)
        obtain ⟨ad113, e113, hx113_0⟩ := Kd.at_int HR0.out (rd t109 x11_1) p113 q113
        cases e113
        replace hx113_0 := (HB.out.cell (World.block_lt_of_cell? w _ hx113_0)).trans hx113_0
        replace p113 := eq_true p113
        replace q113 := eq_true q113
        go_wp2
        go_roundg k1
        case measure => have := HK1.out; omega
        case rel => exact ⟨(Go.bits .or .i64 x5_1 (rd l0 (rd t109 x11_1))), (wrap64 (x11_1 + 1)), (Qrs), (Qrs), H', ⟨by have := HK1.out; omega⟩, ⟨by (with_reducible repeat (first | apply Kd.R_alloc | apply Kd.R_drewN | apply Kd.R_drew)); exact HO_9.out⟩, ⟨by repeat (first | (with_reducible first | exact HB.out | apply below_alloc | apply pw_below_drewN | apply below_drew1) | exact HB.out)⟩⟩
       ·rw [if_neg c10] at H
        exact absurd H (by simp)
      ·rw [if_neg c9] at H
       exact absurd H (by simp)
     ·rw [if_neg c8] at H
      exact absurd H (by simp)
    ·rw [if_neg c7] at H
     exact absurd H (by simp)
   ·rw [if_neg c6] at H
    have c6b0 : decide (x11_1 < (t109.length : Int)) = false := decide_eq_false c6
    clear c6
    obtain rfl := Option.some.inj H
    go_wp2
    go_ret
    exact ⟨by first | rfl | (simp [errW_none, errW_some] <;> rfl) | (simp [*, errW_none, errW_some] <;> rfl), by repeat (first | (with_reducible first | exact HB.out | apply below_alloc | apply pw_below_drewN | apply below_drew1) | exact HB.out)⟩
end
noncomputable section
def width_town_part.l0 : Nat → List Int → Int → Int → Option (Int)
 | 0, _, _, _ => none
 | k + 1, x0, x1, x2 => (width_town_around.f k x0 x1).bind fun t114 => (if (Go.bits .or .i64 x1 (Go.bits .and .i64 t114 x2)) = x1 then (some x1) else (width_town_part.l0 k x0 (Go.bits .or .i64 x1 (Go.bits .and .i64 t114 x2)) x2))
def width_town_part.f (k : Nat) (l0 : List Int) (a1 : Int) (a2 : Int) : Option (Int) := width_town_part.l0 k l0 a1 a2
theorem width_town_part.mono_l : ∀ k, (∀ y0 y1 y2, LeO (width_town_part.l0 k y0 y1 y2) (width_town_part.l0 (k + 1) y0 y1 y2))
 | 0 => fun _ _ _ r h => by simp [width_town_part.l0] at h
 | k + 1 => by
  have ih0 := width_town_part.mono_l k
  ·intro y0 y1 y2
   unfold width_town_part.l0
   repeat' first
   | (with_reducible exact ih0 _ _ _)
   | (with_reducible exact width_town_around.mono _ _ _)
   | (with_reducible exact LeO.refl _)
   | (with_reducible exact LeO.none _)
   | (with_reducible refine LeO.ite ?_ ?_)
   | (with_reducible refine LeO.bind ?_ (fun _ => ?_))
   | exact ih0 _ _ _
   | exact width_town_around.mono _ _ _
   | exact LeO.none _
   | refine LeO.ite ?_ ?_
   | refine LeO.bind ?_ (fun _ => ?_)
theorem width_town_part.mono : ∀ a0 a1 a2 k, LeO (width_town_part.f k a0 a1 a2) (width_town_part.f (k + 1) a0 a1 a2) := by
 intro a0 a1 a2 k
 have ih0 := width_town_part.mono_l k
 unfold width_town_part.f
 repeat' first
   | (with_reducible exact ih0 _ _ _)
   | (with_reducible exact width_town_around.mono _ _ _)
   | (with_reducible exact LeO.refl _)
   | (with_reducible exact LeO.none _)
   | (with_reducible refine LeO.ite ?_ ?_)
   | (with_reducible refine LeO.bind ?_ (fun _ => ?_))
   | exact ih0 _ _ _
   | exact width_town_around.mono _ _ _
   | exact LeO.none _
   | refine LeO.ite ?_ ?_
   | refine LeO.bind ?_ (fun _ => ?_)
set_option maxHeartbeats 8000000 in
set_option maxRecDepth 100000 in
theorem width_town_part.calls (k : Nat) (A0 : Option Addr) (c0 : Nat) (l0 : List Int) (a1 : Int) (a2 : Int) (r : Int) (w : World) (hGL : GL w) (hr0 : Kd.C (Kd.int .i64) w A0 l0.length l0) (hc0 : l0.length ≤ c0) (h : width_town_part.f k l0 a1 a2 = some r) :
  Calls Tryd.prog 92 #[.slice A0 l0.length c0, .int .i64 a1, .int .i64 a2] w fun e w' => e = .returned (.int .i64 r) ∧ Below w.heap.size w w' := by
 have HGL := Aside0.mk hGL
 clear hGL
 have HR0 := Aside0.mk hr0
 have HC0 := Aside0.mk hc0
 clear hr0 hc0
 have HB := Aside0.mk (Below.refl w.heap.size w)
 have H : (width_town_part.l0 k l0 a1 a2) = some r := h
 clear h
 have H' := Aside0.mk H
 clear H
 go_enter Tryd.func92, Tryd.ntmps92
 go_wp2
 go_loopg [1] k (fun kq v1 w' => ∃ (x1_1 : Int), v1 = .int .i64 x1_1 ∧ Aside0 (width_town_part.l0 kq l0 x1_1 a2 = some r) ∧ Aside0 (kq ≤ k) ∧ Aside0 (Below w.heap.size w w'))
 case atStart => exact ⟨(a1), (Qrs), H', ⟨Nat.le_refl _⟩, ⟨by repeat (first | (with_reducible first | exact HB.out | apply below_alloc | apply pw_below_drewN | apply below_drew1) | exact HB.out)⟩⟩
 case round =>
  clear H'
  try clear p2
  obtain ⟨x1_1, rfl, HA, HK1, HB⟩ := hrel
  cases gk with
  | zero => exact absurd HA.out (by simp [width_town_part.l0])
  | succ k1 =>
   have H := HA.out
   clear HA
   simp only [width_town_part.l0] at H
   replace H := Option.bind_eq_some_iff.mp H
   obtain ⟨t114, A40, H⟩ := H
   replace H : (if (Go.bits .or .i64 x1_1 (Go.bits .and .i64 t114 a2)) = x1_1 then (some x1_1) else (width_town_part.l0 k1 l0 (Go.bits .or .i64 x1_1 (Go.bits .and .i64 t114 a2)) a2)) = some r := H
   have A4 := Aside0.mk A40
   clear A40
   by_cases c5 : (Go.bits .or .i64 x1_1 (Go.bits .and .i64 t114 a2)) = x1_1
   ·rw [if_pos c5] at H
    have c5b0 : ((Go.bits .or .i64 x1_1 (Go.bits .and .i64 t114 a2)) == x1_1) = true := beq_iff_eq.mpr c5
    have c5b1 : ((Go.bits .or .i64 x1_1 (Go.bits .and .i64 t114 a2)) != x1_1) = false := bne_eq_false_iff_eq.mpr c5
    clear c5
    obtain rfl := Option.some.inj H
    go_wp2_with (first | ((with_reducible refine gate_callee (f := 93) rfl ?_); refine goesL_ (some 11) rfl rfl Tryd.func93 (by kernel_rfl) rfl #[.slice A0 l0.length c0, .int .i64 x1_1] rfl (Qls) ?_; (with_reducible refine (width_town_around.calls (hGL := (Qlg)) k1 _ _ l0 x1_1 t114 _ ?side1 ?side2 A4.out).mono ?_); (case side1 => exact Qsc (Kd.C_below HR0.out HB.out)); (case side2 => exact HC0.out); rintro e w6 ⟨rfl, hb⟩; refine ⟨_, rfl, ?_⟩; have n0_ := Aside0.mk (below_step (Qaw) hb); clear HB; have HB := n0_; clear n0_; (try clear hb); (try clear hb2); (try clear hk); (try clear hi)))
    go_ret
    exact ⟨by first | rfl | (simp [errW_none, errW_some] <;> rfl) | (simp [*, errW_none, errW_some] <;> rfl), by repeat (first | (with_reducible first | exact HB.out | apply below_alloc | apply pw_below_drewN | apply below_drew1) | exact HB.out)⟩
   ·rw [if_neg c5] at H
    have c5b0 : ((Go.bits .or .i64 x1_1 (Go.bits .and .i64 t114 a2)) == x1_1) = false := beq_eq_false_iff_ne.mpr c5
    have c5b1 : ((Go.bits .or .i64 x1_1 (Go.bits .and .i64 t114 a2)) != x1_1) = true := bne_iff_ne.mpr c5
    have H' := Aside0.mk H
    clear H
    go_wp2_with (first | ((with_reducible refine gate_callee (f := 93) rfl ?_); refine goesL_ (some 11) rfl rfl Tryd.func93 (by kernel_rfl) rfl #[.slice A0 l0.length c0, .int .i64 x1_1] rfl (Qls) ?_; (with_reducible refine (width_town_around.calls (hGL := (Qlg)) k1 _ _ l0 x1_1 t114 _ ?side1 ?side2 A4.out).mono ?_); (case side1 => exact Qsc (Kd.C_below HR0.out HB.out)); (case side2 => exact HC0.out); rintro e w7 ⟨rfl, hb⟩; refine ⟨_, rfl, ?_⟩; have n0_ := Aside0.mk (below_step (Qaw) hb); clear HB; have HB := n0_; clear n0_; (try clear hb); (try clear hb2); (try clear hk); (try clear hi)))
    go_roundg k1
    case measure => have := HK1.out; omega
    case rel => exact ⟨(Go.bits .or .i64 x1_1 (Go.bits .and .i64 t114 a2)), (Qrs), H', ⟨by have := HK1.out; omega⟩, ⟨by repeat (first | (with_reducible first | exact HB.out | apply below_alloc | apply pw_below_drewN | apply below_drew1) | exact HB.out)⟩⟩
end
noncomputable section
def width_town_degree.f (k : Nat) (l0 : List Int) (a1 : Int) (a2 : Int) : Option (Int) := if 0 ≤ a1 then ((width_town_part.f k l0 (shl .i64 1 a1) (Go.bits .or .i64 a2 (shl .i64 1 a1))).bind fun t115 => ((width_town_around.f k l0 t115).bind fun t116 => ((width_count.f (Go.bits .andNot .i64 (Go.bits .andNot .i64 t116 a2) (shl .i64 1 a1))).bind fun t117 => (some t117)))) else (none)
theorem width_town_degree.mono : ∀ a0 a1 a2 k, LeO (width_town_degree.f k a0 a1 a2) (width_town_degree.f (k + 1) a0 a1 a2) := by
 intro a0 a1 a2 k
 unfold width_town_degree.f
 repeat' first
   | (with_reducible exact width_town_around.mono _ _ _)
   | (with_reducible exact width_town_part.mono _ _ _ _)
   | (with_reducible exact LeO.refl _)
   | (with_reducible exact LeO.none _)
   | (with_reducible refine LeO.ite ?_ ?_)
   | (with_reducible refine LeO.bind ?_ (fun _ => ?_))
   | exact width_town_around.mono _ _ _
   | exact width_town_part.mono _ _ _ _
   | exact LeO.none _
   | refine LeO.ite ?_ ?_
   | refine LeO.bind ?_ (fun _ => ?_)
def width_town_degree.T1 : Bool × List (List Nat × List Nat) := (true, [([], []), ([], []), ([], []), ([2], [2]), ([], []), ([], []), ([5], [5]), ([4, 6], [4, 6]), ([1, 3, 7], [1, 3, 7]), ([0, 8, 8], [0, 8]), ([], []), ([9, 10], [9, 10]), ([], []), ([12], [12]), ([11, 13], [11, 13]), ([14, 9], [14]), ([15, 15, 0, 1, 2, 3, 4, 5, 6, 7, 8, 9, 10, 11, 12, 13, 14, 15], [15])])
def width_town_degree.B1 : List Nat := [0, 0, 0, 4, 0, 0, 32, 112, 254, 511, 0, 2047, 0, 4096, 16383, 32767, 65535]
theorem width_town_degree.tab1 : rtab .any (opsOf Tryd.f75 1) = width_town_degree.T1 := by kernel_rfl
theorem width_town_degree.bits1 : waitsOk width_town_degree.T1.2 width_town_degree.B1 = true := by kernel_rfl
set_option maxHeartbeats 8000000 in
set_option maxRecDepth 100000 in
theorem width_town_degree.calls (k : Nat) (A0 : Option Addr) (c0 : Nat) (l0 : List Int) (a1 : Int) (a2 : Int) (r : Int) (w : World) (hGL : GL w) (hr0 : Kd.C (Kd.int .i64) w A0 l0.length l0) (hc0 : l0.length ≤ c0) (h : width_town_degree.f k l0 a1 a2 = some r) :
  Calls Tryd.prog 75 #[.slice A0 l0.length c0, .int .i64 a1, .int .i64 a2] w fun e w' => e = .returned (.int .i64 r) ∧ Below w.heap.size w w' := by
 have HGL := Aside0.mk hGL
 clear hGL
 have HR0 := Aside0.mk hr0
 have HC0 := Aside0.mk hc0
 clear hr0 hc0
 have HB := Aside0.mk (Below.refl w.heap.size w)
 have H : (if 0 ≤ a1 then ((width_town_part.f k l0 (shl .i64 1 a1) (Go.bits .or .i64 a2 (shl .i64 1 a1))).bind fun t115 => ((width_town_around.f k l0 t115).bind fun t116 => ((width_count.f (Go.bits .andNot .i64 (Go.bits .andNot .i64 t116 a2) (shl .i64 1 a1))).bind fun t117 => (some t117)))) else (none)) = some r := h
 clear h
 by_cases c4 : 0 ≤ a1
 ·rw [if_pos c4] at H
  have c4b0 := eq_true c4
  have c4b1 : decide (0 ≤ a1) = true := decide_eq_true c4
  clear c4
  obtain ⟨ji5, hji5⟩ : ∃ j_ : Int, (shl .i64 1 a1) = j_ := ⟨_, rfl⟩
  replace H : ((width_town_part.f k l0 (ji5) (Go.bits .or .i64 a2 (ji5))).bind fun t115 => ((width_town_around.f k l0 t115).bind fun t116 => ((width_count.f (Go.bits .andNot .i64 (Go.bits .andNot .i64 t116 a2) (ji5))).bind fun t117 => (some t117)))) = some r := by first | (rw [hji5] at H; exact H) | (simp only [hji5] at H ⊢; exact H)
  have hji5_ : (IntKind.i64.wrap (1 * 2 ^ min a1.toNat 64)) = ji5 := hji5
  have hji5z : a1 ≤ 64 → (IntKind.i64.wrap (1 * 2 ^ a1.toNat)) = ji5 := shl_small hji5
  have hji5u : (IntKind.i64.wrap (2 ^ min a1.toNat 64)) = ji5 := by have h_ := hji5_; rw [Int.one_mul] at h_; exact h_
  have hji5v : a1 ≤ 64 → (IntKind.i64.wrap (2 ^ a1.toNat)) = ji5 := fun hle_ => by have h_ := hji5z hle_; rw [Int.one_mul] at h_; exact h_
  have hji5y : (wrap64 (1 * 2 ^ min a1.toNat 64)) = ji5 := (i64_w _).symm.trans hji5_
  have hji5x : a1 ≤ 64 → (wrap64 (1 * 2 ^ a1.toNat)) = ji5 := fun h_ => (i64_w _).symm.trans (hji5z h_)
  have c6b0 := eq_true (of_decide_eq_true (Qas) : 0 ≤ a1)
  replace H := Option.bind_eq_some_iff.mp H
  obtain ⟨t115, A70, H⟩ := H
  replace H : ((width_town_around.f k l0 t115).bind fun t116 => ((width_count.f (Go.bits .andNot .i64 (Go.bits .andNot .i64 t116 a2) (ji5))).bind fun t117 => (some t117))) = some r := H
  have A7 := Aside0.mk A70
  clear A70
  replace H := Option.bind_eq_some_iff.mp H
  obtain ⟨t116, A80, H⟩ := H
  replace H : ((width_count.f (Go.bits .andNot .i64 (Go.bits .andNot .i64 t116 a2) (ji5))).bind fun t117 => (some t117)) = some r := H
  have A8 := Aside0.mk A80
  clear A80
  have c9b0 := eq_true (of_decide_eq_true (Qas) : 0 ≤ a1)
  replace H := Option.bind_eq_some_iff.mp H
  obtain ⟨t117, A100, H⟩ := H
  replace H : (some t117) = some r := H
  have A10 := Aside0.mk A100
  clear A100
  obtain rfl := Option.some.inj H
  go_enter Tryd.func75, Tryd.ntmps75
  try go_wp2
  have n0_ := Aside0.mk (below_drew1 HB.out)
  clear HB
  have HB := n0_
  clear n0_
  refine start_ (n := 17) (S := fun w' => True) (ds := []) (Qbz 17 0) (by kernel_rfl) rfl rfl trivial (fun hHeld => ?_); refine with_tabW width_town_degree.tab1 width_town_degree.bits1 (fun HT_ HW_ => ?_)
  generalize w.drew = w11 at HB hHeld ⊢
  refine pure_ (i := 0) (N := some 7) (v := ?_) (a' := ?_) (Qbz 17 1) rfl rfl (Qao) (fun _ _ _ h => h) (Or.inl ⟨by rfl, ?_⟩) ?_ ?_
  rotate_left
  ·intro w'
   go_simp
   with_reducible rfl
  rotate_left
  ·simp only [Act.put, Qp1, Qp2, Qp3, i64_w, i32_w]
   rfl
  refine pure_ (i := 1) (N := some 8) (v := ?_) (a' := ?_) (Qbz 17 3) rfl rfl (Qao) (fun _ _ _ h => h) (Or.inl ⟨by rfl, ?_⟩) ?_ ?_
  rotate_left
  ·intro w'
   go_simp
   with_reducible rfl
  rotate_left
  ·simp only [Act.put, Qp1, Qp2, Qp3, i64_w, i32_w]
   rfl
  refine pure_ (i := 2) (N := some 9) (v := ?_) (a' := ?_) (Qbz 17 7) rfl rfl (Qao) (fun _ _ _ h => h) (Or.inl ⟨by rfl, ?_⟩) ?_ ?_
  rotate_left
  ·intro w'
   go_simp
   with_reducible rfl
  rotate_left
  ·simp only [Act.put, Qp1, Qp2, Qp3, i64_w, i32_w]
   rfl
  refine pure_ (i := 3) (N := some 10) (v := ?_) (a' := ?_) (Qbz 17 15) rfl rfl (Qao) (fun _ _ _ h => h) (Or.inl ⟨by rfl, ?_⟩) ?_ ?_
  rotate_left
  ·intro w'
   go_simp
   with_reducible rfl
  rotate_left
  ·simp only [Act.put, Qp1, Qp2, Qp3, i64_w, i32_w]
   rfl
  refine pure_ (i := 4) (N := some 11) (v := ?_) (a' := ?_) (Qbz 17 31) rfl rfl (Qao) (fun _ _ _ h => h) (Or.inl ⟨by rfl, ?_⟩) ?_ ?_
  rotate_left
  ·intro w'
   go_simp
   with_reducible rfl
  rotate_left
  ·simp only [Act.put, Qp1, Qp2, Qp3, i64_w, i32_w]
   rfl
  refine pure_ (i := 5) (N := some 12) (v := ?_) (a' := ?_) (Qbz 17 63) rfl rfl (Qao) (fun _ _ _ h => h) (Or.inl ⟨by rfl, ?_⟩) ?_ ?_
  rotate_left
  ·intro w'
   go_simp
   with_reducible rfl
  rotate_left
  ·simp only [Act.put, Qp1, Qp2, Qp3, i64_w, i32_w]
   rfl
  refine pure_ (i := 6) (N := some 13) (v := ?_) (a' := ?_) (Qbz 17 127) rfl rfl (Qao) (fun _ _ _ h => h) (Or.inl ⟨by rfl, ?_⟩) ?_ ?_
  rotate_left
  ·intro w'
   go_simp
   with_reducible rfl
  rotate_left
  ·simp only [Act.put, Qp1, Qp2, Qp3, i64_w, i32_w]
   rfl
  refine pure_ (i := 7) (N := some 14) (v := ?_) (a' := ?_) (Qbz 17 255) rfl rfl (Qao) (fun _ _ _ h => h) (Or.inl ⟨by rfl, ?_⟩) ?_ ?_
  rotate_left
  ·intro w'
   go_simp
   with_reducible rfl
  rotate_left
  ·simp only [Act.put, Qp1, Qp2, Qp3, i64_w, i32_w]
   rfl
  refine pure_ (i := 10) (N := some 17) (v := ?_) (a' := ?_) (Qbz 17 1279) rfl rfl (Qao) (fun _ _ _ h => h) (Or.inl ⟨by rfl, ?_⟩) ?_ ?_
  rotate_left
  ·intro w'
   go_simp
   with_reducible rfl
  rotate_left
  ·simp only [Act.put, Qp1, Qp2, Qp3, i64_w, i32_w]
   rfl
  refine pure_ (i := 12) (N := some 19) (v := ?_) (a' := ?_) (Qbz 17 5375) rfl rfl (Qao) (fun _ _ _ h => h) (Or.inl ⟨by rfl, ?_⟩) ?_ ?_
  rotate_left
  ·intro w'
   go_simp
   with_reducible rfl
  rotate_left
  ·simp only [Act.put, Qp1, Qp2, Qp3, i64_w, i32_w]
   rfl
  refine pure_ (i := 13) (N := some 20) (v := ?_) (a' := ?_) (Qbz 17 13567) rfl rfl (Qao) (fun _ _ _ h => h) (Or.inl ⟨by rfl, ?_⟩) ?_ ?_
  rotate_left
  ·intro w'
   go_simp
   with_reducible rfl
  rotate_left
  ·simp only [Act.put, Qp1, Qp2, Qp3, i64_w, i32_w]
   rfl
  refine one_ (i := 8) (N := some 15) (Qbz 17 13823) rfl rfl (one_of HT_.out (by kernel_rfl)) (by decide) (fun K hK => ?_)
  refine goes_ Tryd.func92 (by kernel_rfl) rfl #[.slice A0 l0.length c0, .int .i64 ji5, .int .i64 (Go.bits .or .i64 a2 (ji5))] (by rfl) rfl rfl (by (try simp only [List.map_toArray, List.map_cons, List.map_nil]); first | done | (simp only [hji5]; rfl) | rfl | (simp only [List.length_drop, List.length_take]; rfl)) ?_
  with_reducible refine (width_town_part.calls (hGL := (Qlg)) k _ _ l0 ji5 (Go.bits .or .i64 a2 (ji5)) t115 _ ?side1 ?side2 A7.out).mono ?_
  (case side1 => exact Qsc (Kd.C_below HR0.out HB.out))
  (case side2 => exact HC0.out)
  rintro e w12 ⟨rfl, hb⟩
  refine ⟨_, rfl, ?_⟩
  have n0_ := Aside0.mk (below_step (Qaw) hb)
  clear HB
  have HB := n0_
  clear n0_
  (try clear hb)
  (try clear hb2)
  (try clear hk)
  (try clear hi)
  refine hK.out _ _ trivial (fun hHeld => ?_)
  clear hK K
  refine norm_ (a' := ?_) ?_ ?_
  rotate_left
  ·show Act.put _ (some 15) _ = _
   simp only [Act.put, Qp1, Qp2, Qp3, i64_w, i32_w]
   rfl
  refine one_ (i := 9) (N := some 16) (Qbz 17 14335) rfl rfl (one_of HT_.out (by kernel_rfl)) (by decide) (fun K hK => ?_)
  refine goes_ Tryd.func93 (by kernel_rfl) rfl #[.slice A0 l0.length c0, .int .i64 t115] (by rfl) rfl rfl (Qls) ?_
  with_reducible refine (width_town_around.calls (hGL := (Qlg)) k _ _ l0 t115 t116 _ ?side1 ?side2 A8.out).mono ?_
  (case side1 => exact Qsc (Kd.C_below HR0.out HB.out))
  (case side2 => exact HC0.out)
  rintro e w13 ⟨rfl, hb⟩
  refine ⟨_, rfl, ?_⟩
  have n0_ := Aside0.mk (below_step (Qaw) hb)
  clear HB
  have HB := n0_
  clear n0_
  (try clear hb)
  (try clear hb2)
  (try clear hk)
  (try clear hi)
  refine hK.out _ _ trivial (fun hHeld => ?_)
  clear hK K
  refine norm_ (a' := ?_) ?_ ?_
  rotate_left
  ·show Act.put _ (some 16) _ = _
   simp only [Act.put, Qp1, Qp2, Qp3, i64_w, i32_w]
   rfl
  refine pure_ (i := 11) (N := some 18) (v := ?_) (a' := ?_) (Qbz 17 16383) rfl rfl (Qao) (fun _ _ _ h => h) (Or.inl ⟨by rfl, ?_⟩) ?_ ?_
  rotate_left
  ·intro w'
   go_simp
   with_reducible rfl
  rotate_left
  ·simp only [Act.put, Qp1, Qp2, Qp3, i64_w, i32_w]
   rfl
  refine pure_ (i := 14) (N := some 21) (v := ?_) (a' := ?_) (Qbz 17 32767) rfl rfl (Qao) (fun _ _ _ h => h) (Or.inl ⟨by rfl, ?_⟩) ?_ ?_
  rotate_left
  ·intro w'
   go_simp
   with_reducible rfl
  rotate_left
  ·simp only [Act.put, Qp1, Qp2, Qp3, i64_w, i32_w]
   rfl
  refine one_ (i := 15) (N := some 22) (Qbz 17 65535) rfl rfl (one_of HT_.out (by kernel_rfl)) (by decide) (fun K hK => ?_)
  refine goes_ Tryd.func68 (by kernel_rfl) rfl #[.int .i64 (Go.bits .andNot .i64 (Go.bits .andNot .i64 t116 a2) (ji5))] (by rfl) rfl rfl (by (try simp only [List.map_toArray, List.map_cons, List.map_nil]); first | done | (simp only [hji5]; rfl) | rfl | (simp only [List.length_drop, List.length_take]; rfl)) ?_
  with_reducible refine (width_count.calls (Go.bits .andNot .i64 (Go.bits .andNot .i64 t116 a2) (ji5)) t117 _ A10.out).mono ?_
  rintro e w' ⟨rfl, ⟨nd, rfl⟩⟩
  refine ⟨_, rfl, ?_⟩
  refine hK.out _ _ trivial (fun hHeld => ?_)
  clear hK K
  refine norm_ (a' := ?_) ?_ ?_
  rotate_left
  ·show Act.put _ (some 22) _ = _
   simp only [Act.put, Qp1, Qp2, Qp3, i64_w, i32_w]
   rfl
  refine pure_ (i := 16) (N := some 6) (v := ?_) (a' := ?_) (Qbz 17 131071) rfl rfl (Qao) (fun _ _ _ h => h) (Or.inl ⟨by rfl, ?_⟩) ?_ ?_
  rotate_left
  ·intro w'
   go_simp
   with_reducible rfl
  rotate_left
  ·simp only [Act.put, Qp1, Qp2, Qp3, i64_w, i32_w]
   rfl
  refine done_ (done_of HT_.out (by kernel_rfl)) ?_
  try go_wp2
  go_ret
  exact ⟨by first | rfl | (simp [errW_none, errW_some] <;> rfl) | (simp only [← hji5]; first | rfl | (simp [errW_none, errW_some] <;> rfl)) | (simp [*, errW_none, errW_some] <;> rfl), by repeat (first | (with_reducible first | exact HB.out | apply below_alloc | apply pw_below_drewN | apply below_drew1) | exact HB.out)⟩
 ·rw [if_neg c4] at H
  exact absurd H (by simp)
end
noncomputable section
mutual
def width_town_widths.l0 : Nat → List Int → List Int → Int → Option (List Int)
 | 0, _, _, _ => none
 | k + 1, x0, x3, x4 => if x4 < (x3.length : Int) then (if 0 ≤ x4 then ((width_nodes.f k x4).bind fun t122 => (width_town_widths.l1 k x0 (x3.set (x4 : Int).toNat (x0.length : Int)) x4 t122 (t122.length : Int) 0)) else (none)) else (some x3)
def width_town_widths.l1 : Nat → List Int → List Int → Int → List Int → Int → Int → Option (List Int)
 | 0, _, _, _, _, _, _ => none
 | k + 1, x0, x3, x4, x23, x24, x25 => if x25 < x24 then (if 0 ≤ x25 then (if x25 < (x23.length : Int) then (if 0 ≤ x4 then (if x4 < (x3.length : Int) then (if 0 ≤ (rd x23 x25) then (if 0 ≤ (Go.bits .andNot .i64 x4 (shl .i64 1 (rd x23 x25))) then (if (Go.bits .andNot .i64 x4 (shl .i64 1 (rd x23 x25))) < (x3.length : Int) then ((width_town_degree.f k x0 (rd x23 x25) (Go.bits .andNot .i64 x4 (shl .i64 1 (rd x23 x25)))).bind fun t128 => (width_town_widths.l1 k x0 (x3.set (x4 : Int).toNat (mn (rd x3 x4) (mx (rd x3 (Go.bits .andNot .i64 x4 (shl .i64 1 (rd x23 x25)))) t128))) x4 x23 x24 (wrap64 (x25 + 1)))) else (none)) else (none)) else (none)) else (none)) else (none)) else (none)) else (none)) else (width_town_widths.l0 k x0 x3 (wrap64 (x4 + 1)))
end
def width_town_widths.f (k : Nat) (l0 : List Int) : Option (List Int) := if 0 ≤ (shl .i64 1 (l0.length : Int)) then (if (shl .i64 1 (l0.length : Int) : Int).toNat ≤ 35184372088832 then (width_town_widths.l0 k l0 (List.replicate (shl .i64 1 (l0.length : Int) : Int).toNat 0) 1) else (none)) else (none)
theorem width_town_widths.mono_l : ∀ k, (∀ y0 y1 y2, LeO (width_town_widths.l0 k y0 y1 y2) (width_town_widths.l0 (k + 1) y0 y1 y2)) ∧ (∀ y0 y1 y2 y3 y4 y5, LeO (width_town_widths.l1 k y0 y1 y2 y3 y4 y5) (width_town_widths.l1 (k + 1) y0 y1 y2 y3 y4 y5))
 | 0 => ⟨fun _ _ _ r h => by simp [width_town_widths.l0] at h, fun _ _ _ _ _ _ r h => by simp [width_town_widths.l1] at h⟩
 | k + 1 => by
  obtain ⟨ih0, ih1⟩ := width_town_widths.mono_l k
  refine ⟨?_, ?_⟩
  ·intro y0 y1 y2
   unfold width_town_widths.l0
   repeat' first
   | (with_reducible exact ih0 _ _ _)
   | (with_reducible exact ih1 _ _ _ _ _ _)
   | (with_reducible exact width_nodes.mono _ _)
   | (with_reducible exact width_town_degree.mono _ _ _ _)
   | (with_reducible exact LeO.refl _)
   | (with_reducible exact LeO.none _)
   | (with_reducible refine LeO.ite ?_ ?_)
   | (with_reducible refine LeO.bind ?_ (fun _ => ?_))
   | exact ih0 _ _ _
   | exact ih1 _ _ _ _ _ _
   | exact width_nodes.mono _ _
   | exact width_town_degree.mono _ _ _ _
   | exact LeO.none _
   | refine LeO.ite ?_ ?_
   | refine LeO.bind ?_ (fun _ => ?_)
  ·intro y0 y1 y2 y3 y4 y5
   unfold width_town_widths.l1
   repeat' first
   | (with_reducible exact ih0 _ _ _)
   | (with_reducible exact ih1 _ _ _ _ _ _)
   | (with_reducible exact width_nodes.mono _ _)
   | (with_reducible exact width_town_degree.mono _ _ _ _)
   | (with_reducible exact LeO.refl _)
   | (with_reducible exact LeO.none _)
   | (with_reducible refine LeO.ite ?_ ?_)
   | (with_reducible refine LeO.bind ?_ (fun _ => ?_))
   | exact ih0 _ _ _
   | exact ih1 _ _ _ _ _ _
   | exact width_nodes.mono _ _
   | exact width_town_degree.mono _ _ _ _
   | exact LeO.none _
   | refine LeO.ite ?_ ?_
   | refine LeO.bind ?_ (fun _ => ?_)
theorem width_town_widths.mono : ∀ a0 k, LeO (width_town_widths.f k a0) (width_town_widths.f (k + 1) a0) := by
 intro a0 k
 obtain ⟨ih0, ih1⟩ := width_town_widths.mono_l k
 unfold width_town_widths.f
 repeat' first
   | (with_reducible exact ih0 _ _ _)
   | (with_reducible exact ih1 _ _ _ _ _ _)
   | (with_reducible exact width_nodes.mono _ _)
   | (with_reducible exact width_town_degree.mono _ _ _ _)
   | (with_reducible exact LeO.refl _)
   | (with_reducible exact LeO.none _)
   | (with_reducible refine LeO.ite ?_ ?_)
   | (with_reducible refine LeO.bind ?_ (fun _ => ?_))
   | exact ih0 _ _ _
   | exact ih1 _ _ _ _ _ _
   | exact width_nodes.mono _ _
   | exact width_town_degree.mono _ _ _ _
   | exact LeO.none _
   | refine LeO.ite ?_ ?_
   | refine LeO.bind ?_ (fun _ => ?_)
def width_town_widths.T9 : Bool × List (List Nat × List Nat) := (true, [([], []), ([], []), ([], []), ([], []), ([2, 3], [2, 3]), ([4], [4]), ([], []), ([], []), ([], []), ([8], [8]), ([7, 9], [7, 9]), ([6, 10], [6, 10]), ([11], [11]), ([], []), ([], []), ([], []), ([], []), ([16], [16]), ([15, 17], [15, 17]), ([13, 14, 18], [13, 14, 18]), ([12, 19], [12, 19]), ([5, 20], [5, 20]), ([0, 1, 0, 1, 2, 3, 4, 5, 6, 7, 8, 9, 10, 11, 12, 13, 14, 15, 16, 17, 18, 19, 20, 21], [0, 1]), ([22, 21, 19, 0, 1, 2, 3, 4, 5, 6, 7, 8, 9, 10, 11, 12, 13, 14, 15, 16, 17, 18, 19, 20, 21], [21, 22])])
def width_town_widths.B9 : List Nat := [0, 0, 0, 0, 12, 28, 0, 0, 0, 256, 896, 1984, 4032, 0, 0, 0, 0, 65536, 229376, 516096, 1048512, 2097148, 4194303, 8388607]
theorem width_town_widths.tab9 : rtab .any (opsOf Tryd.f91 9) = width_town_widths.T9 := by kernel_rfl
theorem width_town_widths.bits9 : waitsOk width_town_widths.T9.2 width_town_widths.B9 = true := by kernel_rfl
set_option maxHeartbeats 8000000 in
set_option maxRecDepth 100000 in
theorem width_town_widths.calls (k : Nat) (A0 : Option Addr) (c0 : Nat) (l0 : List Int) (r : List Int) (w : World) (hGL : GL w) (hr0 : Kd.C (Kd.int .i64) w A0 l0.length l0) (hc0 : l0.length ≤ c0) (h : width_town_widths.f k l0 = some r) :
  Calls Tryd.prog 91 #[.slice A0 l0.length c0] w fun e w' => ∃ v0_ : Value, e = .returned (v0_) ∧ Kd.R (Kd.int .i64) 3 w' w.heap.size (fun _ => True) v0_ r ∧ Below w.heap.size w w' := by
 have HGL := Aside0.mk hGL
 clear hGL
 have HR0 := Aside0.mk hr0
 have HC0 := Aside0.mk hc0
 clear hr0 hc0
 have HB := Aside0.mk (Below.refl w.heap.size w)
 have H : (if 0 ≤ (shl .i64 1 (l0.length : Int)) then (if (shl .i64 1 (l0.length : Int) : Int).toNat ≤ 35184372088832 then (width_town_widths.l0 k l0 (List.replicate (shl .i64 1 (l0.length : Int) : Int).toNat 0) 1) else (none)) else (none)) = some r := h
 clear h
 obtain ⟨ji2, hji2⟩ : ∃ j_ : Int, (shl .i64 1 (l0.length : Int)) = j_ := ⟨_, rfl⟩
 replace H : (if 0 ≤ (ji2) then (if (ji2 : Int).toNat ≤ 35184372088832 then (width_town_widths.l0 k l0 (List.replicate (ji2 : Int).toNat 0) 1) else (none)) else (none)) = some r := by first | (rw [hji2] at H; exact H) | (simp only [hji2] at H ⊢; exact H)
 have hji2_ : (IntKind.i64.wrap (1 * 2 ^ min (l0.length : Int).toNat 64)) = ji2 := hji2
 have hji2z : (l0.length : Int) ≤ 64 → (IntKind.i64.wrap (1 * 2 ^ (l0.length : Int).toNat)) = ji2 := shl_small hji2
 have hji2p : (IntKind.i64.wrap (1 * 2 ^ min l0.length 64)) = ji2 := hji2_
 have hji2q : (l0.length : Int) ≤ 64 → (IntKind.i64.wrap (1 * 2 ^ l0.length)) = ji2 := hji2z
 have hji2r : (IntKind.i64.wrap (2 ^ min l0.length 64)) = ji2 := by have h_ := hji2p; rw [Int.one_mul] at h_; exact h_
 have hji2s : (l0.length : Int) ≤ 64 → (IntKind.i64.wrap (2 ^ l0.length)) = ji2 := fun hle_ => by have h_ := hji2q hle_; rw [Int.one_mul] at h_; exact h_
 have hji2u : (IntKind.i64.wrap (2 ^ min (l0.length : Int).toNat 64)) = ji2 := by have h_ := hji2_; rw [Int.one_mul] at h_; exact h_
 have hji2v : (l0.length : Int) ≤ 64 → (IntKind.i64.wrap (2 ^ (l0.length : Int).toNat)) = ji2 := fun hle_ => by have h_ := hji2z hle_; rw [Int.one_mul] at h_; exact h_
 have hji2y : (wrap64 (1 * 2 ^ min (l0.length : Int).toNat 64)) = ji2 := (i64_w _).symm.trans hji2_
 have hji2x : (l0.length : Int) ≤ 64 → (wrap64 (1 * 2 ^ (l0.length : Int).toNat)) = ji2 := fun h_ => (i64_w _).symm.trans (hji2z h_)
 by_cases c3 : 0 ≤ (ji2)
 ·rw [if_pos c3] at H
  have c3b0 := eq_true c3
  have c3b1 : decide (0 ≤ (ji2)) = true := decide_eq_true c3
  clear c3
  by_cases c4 : (ji2 : Int).toNat ≤ 35184372088832
  ·rw [if_pos c4] at H
   have c4b0 := eq_true c4
   have c4b1 : decide ((ji2 : Int).toNat ≤ 35184372088832) = true := decide_eq_true c4
   clear c4
   obtain ⟨y118, hy118⟩ : ∃ y_ : List Int, y_ = (List.replicate (ji2 : Int).toNat 0) := ⟨_, rfl⟩
   replace H : (width_town_widths.l0 k l0 y118 1) = some r := by first | (rw [hy118]; with_reducible exact H) | (have H2_ := (Option.bind_some _ _).symm.trans H; rw [hy118]; with_reducible exact H2_) | (have H2_ := (Option.bind_some _ _).symm.trans H; with_reducible exact H2_) | with_reducible exact H | (rw [hy118]; exact H) | exact H
   have Ny118 := Aside0.mk hy118
   clear hy118
   have H' := Aside0.mk H
   clear H
   go_enter Tryd.func91, Tryd.ntmps91
   go_wp2_with (first | ((with_reducible refine gate_dst (N := 10) rfl ?_); refine Kd.R_make (Kd.int .i64) _ 3 rfl (N := 10) rfl 22 _ _ rfl ji2 rfl rfl Tryd.underlying22 (.int .i64 0) 8 info3 rfl (by decide) (by omega) 0 (ok := fun _ => True) (okp := fun _ => True) rfl (fun _ hk => hk) trivial (of_decide_eq_true (Qas)) (Nat.le_trans (Nat.mul_le_mul_right _ (of_decide_eq_true (Qas) : ji2.toNat ≤ 35184372088832)) (by omega)) (Below.refl _ _) (Nat.le_refl _) ?_; intro v119 w5 ho6 hb hg_ hnew_; clear hg_ hnew_; (first | rw [← Ny118.out] at ho6 | (simp only [Int.reduceToNat] at ho6; rw [← Ny118.out] at ho6)); have n0_ := Aside0.mk (Kd.R_lower ho6 (below_size (Qaw))); have n1_ := Aside0.mk (below_step (Qaw) hb); clear HB; have HO120 := n0_; have HB := n1_; clear n0_ n1_; clear hb ho6))
   go_loopg [4] k (fun kq v4 w' => ∃ (x3_1 : List Int) (x4_1 : Int), v4 = .int .i64 x4_1 ∧ Aside0 (width_town_widths.l0 kq l0 x3_1 x4_1 = some r) ∧ Aside0 (kq ≤ k) ∧ Aside0 (Kd.R (Kd.int .i64) 3 w' w.heap.size (fun _ => True) v119 x3_1) ∧ Aside0 (Below w.heap.size w w'))
   case atStart => exact ⟨(y118), (1), (Qrs), H', ⟨Nat.le_refl _⟩, ⟨by (with_reducible repeat (first | apply Kd.R_alloc | apply Kd.R_drewN | apply Kd.R_drew)); exact HO120.out⟩, ⟨by repeat (first | (with_reducible first | exact HB.out | apply below_alloc | apply pw_below_drewN | apply below_drew1) | exact HB.out)⟩⟩
   case round =>
    clear H'
    try clear p2
    try clear c3
    try clear c3b0
    try clear c3b1
    try clear c4
    try clear c4b0
    try clear c4b1
    try clear p6
    obtain ⟨x3_1, x4_1, rfl, HA, HK1, HO_3, HB⟩ := hrel
    cases gk with
    | zero => exact absurd HA.out (by simp [width_town_widths.l0])
    | succ k1 =>
     have H := HA.out
     clear HA
     simp only [width_town_widths.l0] at H
     by_cases c7 : x4_1 < (x3_1.length : Int)
     ·rw [if_pos c7] at H
      have c7b0 : decide (x4_1 < (x3_1.length : Int)) = true := decide_eq_true c7
      clear c7
      by_cases c8 : 0 ≤ x4_1
      ·rw [if_pos c8] at H
       have c8b0 : decide (0 ≤ x4_1) = true := decide_eq_true c8
       clear c8
       obtain ⟨y121, hy121⟩ : ∃ y_ : List Int, y_ = (x3_1.set (x4_1 : Int).toNat (l0.length : Int)) := ⟨_, rfl⟩
       replace H : ((width_nodes.f k1 x4_1).bind fun t122 => (width_town_widths.l1 k1 l0 y121 x4_1 t122 (t122.length : Int) 0)) = some r := by first | (rw [hy121]; with_reducible exact H) | (have H2_ := (Option.bind_some _ _).symm.trans H; rw [hy121]; with_reducible exact H2_) | (have H2_ := (Option.bind_some _ _).symm.trans H; with_reducible exact H2_) | with_reducible exact H | (rw [hy121]; exact H) | exact H
       have Ny121 := Aside0.mk hy121
       clear hy121
       replace H := Option.bind_eq_some_iff.mp H
       obtain ⟨t122, A100, H⟩ := H
       replace H : (width_town_widths.l1 k1 l0 y121 x4_1 t122 (t122.length : Int) 0) = some r := H
       have A10 := Aside0.mk A100
       clear A100
       have H' := Aside0.mk H
       clear H
       obtain ⟨Ao11, co11, eo11⟩ := Kd.R_slice HO_3.out
       subst eo11
       have p9 : 0 ≤ (x4_1 : Int) := of_decide_eq_true (Qas)
       have q9 : (x4_1 : Int) < ((x3_1.length : Int) : Int) := of_decide_eq_true (Qas)
       obtain ⟨go9, co9, eo9, gb9, gl9, cl9, HG9⟩ := Kd.R_form HO_3.out (by omega)
       (first | cases eo9 | (injection eo9 with ea_ en_ ec_; (first | subst ea_ | (injection ea_ with ea_; subst ea_)); subst ec_; clear en_))
       have GB9 := Aside0.mk gb9
       have GG9 := Aside0.mk HG9
       clear gb9 gl9 HG9
       obtain ⟨hx9_0, hf9_0⟩ := Kd.R_celln 0 HO_3.out (x4_1 : Int) p9 q9
       replace p9 := eq_true p9
       replace q9 := eq_true q9
       have HP12 := Kd.R_putg HO_3.out (x4_1 : Int) (l0.length : Int)
       go_wp2_with (first | ((with_reducible refine gate_store (t := 3) (p := 21) rfl ?_); refine store_event (t := 3) (p := 21) (v := ?vo_w13) (w1 := (wr.setCell ⟨go9, (x4_1 : Int).toNat, none⟩ (.int .i64 (l0.length : Int)))) ?hg ?ho ?hn ?hr ?_; (case ho => rfl); (case hg => rfl); (case hn => rfl); (case hr => first | (go_simp; done) | (go_simp; rfl)); intro w13 hw; have hg : wr.grownBy w13 (some go9) := (by rw [hw]; exact HP12.2); have hp_ : Kd.R (Kd.int .i64) 3 w13 w.heap.size (fun _ => True) (.slice (some ⟨go9, 0, none⟩) x3_1.length co11) y121 := (by rw [hw, Ny121.out]; exact HP12.1); clear HP12; have n0_ := Aside0.mk (hp_); have n1_ := Aside0.mk ((by rw [hw]; exact below_set (HB.out) GB9.out : Below w.heap.size w w13)); clear HO_3; clear HB; have HO_3 := n0_; have HB := n1_; clear n0_ n1_; clear hg hw hp_) | ((with_reducible refine gate_callee (f := 98) rfl ?_); refine goesL_ (some 23) rfl rfl Tryd.func98 (by kernel_rfl) rfl #[.int .i64 x4_1] rfl (Qls) ?_; (with_reducible refine (width_nodes.calls (hGL := (Qlg)) k1 x4_1 t122 _ A10.out).mono ?_); rintro e w14 ⟨v123, rfl, ho0, hb⟩; refine ⟨_, rfl, ?_⟩; have n0_ := Aside0.mk (Kd.R_elder' (Qro HO_3.out) (Kd.R_base ho0) hb); have n1_ := Aside0.mk (Kd.R_lower (Kd.R_new' ho0 (Kd.R_lt (Qro HO_3.out))) (below_size (Qaw))); have n2_ := Aside0.mk (below_step (Qaw) hb); clear HO_3; clear HB; have HO_3 := n0_; have HO124 := n1_; have HB := n2_; clear n0_ n1_ n2_; (try clear hb); (try clear hb2); (try clear hk); (try clear hi); (try clear ho0); obtain ⟨Ao15, co15, eo15⟩ := Kd.R_slice HO124.out; subst eo15))
       go_loopg [25] k1 (fun kq v25 w' => ∃ (x3_2 : List Int) (x25_2 : Int), v25 = .int .i64 x25_2 ∧ Aside0 (width_town_widths.l1 kq l0 x3_2 x4_1 t122 (t122.length : Int) x25_2 = some r) ∧ Aside0 (kq ≤ k1) ∧ Aside0 (Kd.R (Kd.int .i64) 3 w' w.heap.size (fun k_ => some k_ ≠ ((.slice Ao15 t122.length co15) : Value).ownBlock) (.slice (some ⟨go9, 0, none⟩) x3_1.length co11) x3_2) ∧ Aside0 (Kd.R (Kd.int .i64) 3 w' w.heap.size (fun k_ => some k_ ≠ ((.slice (some ⟨go9, 0, none⟩) x3_1.length co11) : Value).ownBlock) (.slice Ao15 t122.length co15) t122) ∧ Aside0 (Below w.heap.size w w'))
       case atStart => exact ⟨(y121), (0), (Qrs), H', ⟨Nat.le_refl _⟩, ⟨by (with_reducible repeat (first | apply Kd.R_alloc | apply Kd.R_drewN | apply Kd.R_drew)); exact Kd.R_mono HO_3.out (fun _ hk => hk.2)⟩, ⟨by (with_reducible repeat (first | apply Kd.R_alloc | apply Kd.R_drewN | apply Kd.R_drew)); exact Kd.R_mono HO124.out (fun _ hk => hk.2)⟩, ⟨by repeat (first | (with_reducible first | exact HB.out | apply below_alloc | apply pw_below_drewN | apply below_drew1) | exact HB.out)⟩⟩
       case round =>
        clear H'
        try clear p2
        try clear c3
        try clear c3b0
        try clear c3b1
        try clear c4
        try clear c4b0
        try clear c4b1
        try clear p6
        try clear c7
        try clear c7b0
        try clear c8
        try clear c8b0
        try clear c9
        try clear p9
        try clear q9
        try clear hx9
        try clear hf9
        try clear hx9_0
        try clear p2
        try clear p6
        try clear p9
        try clear q9
        obtain ⟨x3_2, x25_2, rfl, HA, HK2, HO_3, HO_23, HB⟩ := hrel
        have hl3_2 := (Kd.R_reads' HO_3.out).1
        rw [hl3_2] at HO_3
        (try simp only [hl3_2])
        (try simp only [hl3_2] at HO_23)
        cases gk with
        | zero => exact absurd HA.out (by simp [width_town_widths.l1])
        | succ k2 =>
         have H := HA.out
         clear HA
         simp only [width_town_widths.l1] at H
         by_cases c16 : x25_2 < (t122.length : Int)
         ·rw [if_pos c16] at H
          have c16b0 : decide (x25_2 < (t122.length : Int)) = true := decide_eq_true c16
          clear c16
          by_cases c17 : 0 ≤ x25_2
          ·rw [if_pos c17] at H
           have c17b0 : decide (0 ≤ x25_2) = true := decide_eq_true c17
           clear c17
           by_cases c18 : x25_2 < (t122.length : Int)
           ·rw [if_pos c18] at H
            have c18b0 : decide (x25_2 < (t122.length : Int)) = true := decide_eq_true c18
            clear c18
            by_cases c19 : 0 ≤ x4_1
            ·rw [if_pos c19] at H
             have c19b0 : decide (0 ≤ x4_1) = true := decide_eq_true c19
             clear c19
             by_cases c20 : x4_1 < (x3_2.length : Int)
             ·rw [if_pos c20] at H
              have c20b0 : decide (x4_1 < (x3_2.length : Int)) = true := decide_eq_true c20
              clear c20
              by_cases c21 : 0 ≤ (rd t122 x25_2)
              ·rw [if_pos c21] at H
               have c21b0 := eq_true c21
               have c21b1 : decide (0 ≤ (rd t122 x25_2)) = true := decide_eq_true c21
               clear c21
               obtain ⟨ji22, hji22⟩ : ∃ j_ : Int, (shl .i64 1 (rd t122 x25_2)) = j_ := ⟨_, rfl⟩
               replace H : (if 0 ≤ (Go.bits .andNot .i64 x4_1 (ji22)) then (if (Go.bits .andNot .i64 x4_1 (ji22)) < (x3_2.length : Int) then ((width_town_degree.f k2 l0 (rd t122 x25_2) (Go.bits .andNot .i64 x4_1 (ji22))).bind fun t128 => (width_town_widths.l1 k2 l0 (x3_2.set (x4_1 : Int).toNat (mn (rd x3_2 x4_1) (mx (rd x3_2 (Go.bits .andNot .i64 x4_1 (ji22))) t128))) x4_1 t122 (t122.length : Int) (wrap64 (x25_2 + 1)))) else (none)) else (none)) = some r := by first | (rw [hji22] at H; exact H) | (simp only [hji22] at H ⊢; exact H)
               have hji22_ : (IntKind.i64.wrap (1 * 2 ^ min (rd t122 x25_2).toNat 64)) = ji22 := hji22
               have hji22z : (rd t122 x25_2) ≤ 64 → (IntKind.i64.wrap (1 * 2 ^ (rd t122 x25_2).toNat)) = ji22 := shl_small hji22
               have hji22u : (IntKind.i64.wrap (2 ^ min (rd t122 x25_2).toNat 64)) = ji22 := by have h_ := hji22_; rw [Int.one_mul] at h_; exact h_
               have hji22v : (rd t122 x25_2) ≤ 64 → (IntKind.i64.wrap (2 ^ (rd t122 x25_2).toNat)) = ji22 := fun hle_ => by have h_ := hji22z hle_; rw [Int.one_mul] at h_; exact h_
               have hji22y : (wrap64 (1 * 2 ^ min (rd t122 x25_2).toNat 64)) = ji22 := (i64_w _).symm.trans hji22_
               have hji22x : (rd t122 x25_2) ≤ 64 → (wrap64 (1 * 2 ^ (rd t122 x25_2).toNat)) = ji22 := fun h_ => (i64_w _).symm.trans (hji22z h_)
               by_cases c23 : 0 ≤ (Go.bits .andNot .i64 x4_1 (ji22))
               ·rw [if_pos c23] at H
                have c23b0 : decide (0 ≤ (Go.bits .andNot .i64 x4_1 (ji22))) = true := decide_eq_true c23
                clear c23
                by_cases c24 : (Go.bits .andNot .i64 x4_1 (ji22)) < (x3_2.length : Int)
                ·rw [if_pos c24] at H
                 have c24b0 : decide ((Go.bits .andNot .i64 x4_1 (ji22)) < (x3_2.length : Int)) = true := decide_eq_true c24
                 clear c24
                 have c25b0 := eq_true (of_decide_eq_true (Qas) : 0 ≤ (rd t122 x25_2))
                 replace H := Option.bind_eq_some_iff.mp H
                 obtain ⟨t128, A260, H⟩ := H
                 replace H : (width_town_widths.l1 k2 l0 (x3_2.set (x4_1 : Int).toNat (mn (rd x3_2 x4_1) (mx (rd x3_2 (Go.bits .andNot .i64 x4_1 (ji22))) t128))) x4_1 t122 (t122.length : Int) (wrap64 (x25_2 + 1))) = some r := H
                 have A26 := Aside0.mk A260
                 clear A260
                 obtain ⟨ji27, hji27⟩ : ∃ j_ : Int, (mx (rd x3_2 (Go.bits .andNot .i64 x4_1 (ji22))) t128) = j_ := ⟨_, rfl⟩
                 replace H : (width_town_widths.l1 k2 l0 (x3_2.set (x4_1 : Int).toNat (mn (rd x3_2 x4_1) (ji27))) x4_1 t122 (t122.length : Int) (wrap64 (x25_2 + 1))) = some r := by first | (rw [hji27] at H; exact H) | (simp only [hji27] at H ⊢; exact H)
                 (try rw [hji27] at A26)
                 have hji27_ : (if (rd x3_2 (Go.bits .andNot .i64 x4_1 (ji22))) < t128 then t128 else (rd x3_2 (Go.bits .andNot .i64 x4_1 (ji22)))) = ji27 := hji27
                 obtain ⟨ji28, hji28⟩ : ∃ j_ : Int, (mn (rd x3_2 x4_1) (ji27)) = j_ := ⟨_, rfl⟩
                 replace H : (width_town_widths.l1 k2 l0 (x3_2.set (x4_1 : Int).toNat (ji28)) x4_1 t122 (t122.length : Int) (wrap64 (x25_2 + 1))) = some r := by first | (rw [hji28] at H; exact H) | (simp only [hji28] at H ⊢; exact H)
                 (try rw [hji28] at A26)
                 have hji28_ : (if (ji27) < (rd x3_2 x4_1) then (ji27) else (rd x3_2 x4_1)) = ji28 := hji28
                 obtain ⟨y129, hy129⟩ : ∃ y_ : List Int, y_ = (x3_2.set (x4_1 : Int).toNat (ji28)) := ⟨_, rfl⟩
                 replace H : (width_town_widths.l1 k2 l0 y129 x4_1 t122 (t122.length : Int) (wrap64 (x25_2 + 1))) = some r := by first | (rw [hy129]; with_reducible exact H) | (have H2_ := (Option.bind_some _ _).symm.trans H; rw [hy129]; with_reducible exact H2_) | (have H2_ := (Option.bind_some _ _).symm.trans H; with_reducible exact H2_) | with_reducible exact H | (rw [hy129]; exact H) | exact H
                 have Ny129 := Aside0.mk hy129
                 clear hy129
                 have H' := Aside0.mk H
                 clear H
                 have p125 : 0 ≤ (x25_2 : Int) := of_decide_eq_true (Qas)
                 have q125 : x25_2 < (t122.length : Int) := of_decide_eq_true (Qas)
                 obtain ⟨ad125, e125, hx125_0⟩ := Kd.at_int (Kd.R_reads' HO_23.out).2.2 x25_2 p125 q125
                 cases e125
                 replace p125 := eq_true p125
                 replace q125 := eq_true q125
                 try go_wp2
                 have n0_ := Aside0.mk (Kd.R_drew HO_3.out)
                 have n1_ := Aside0.mk (Kd.R_drew HO_23.out)
                 have n2_ := Aside0.mk (below_drew1 HB.out)
                 clear HO_3
                 clear HO_23
                 clear HB
                 have HO_3 := n0_
                 have HO_23 := n1_
                 have HB := n2_
                 clear n0_ n1_ n2_
                 have p126 : 0 ≤ (x4_1 : Int) := of_decide_eq_true (Qas)
                 have q126 : x4_1 < (x3_2.length : Int) := of_decide_eq_true (Qas)
                 obtain ⟨ad126, e126, hx126_0⟩ := Kd.at_int (Kd.R_reads' HO_3.out).2.2 x4_1 p126 q126
                 obtain rfl : (⟨go9, 0, none⟩ : Addr) = ad126 := (by injection e126)
                 (first | simp only [add_plain] at hx126_0 | simp only [add_at] at hx126_0 | simp only [Addr.add, Nat.zero_add] at hx126_0 | skip)
                 replace p126 := eq_true p126
                 replace q126 := eq_true q126
                 have p127 : 0 ≤ ((Go.bits .andNot .i64 x4_1 (ji22)) : Int) := of_decide_eq_true (Qas)
                 have q127 : (Go.bits .andNot .i64 x4_1 (ji22)) < (x3_2.length : Int) := of_decide_eq_true (Qas)
                 obtain ⟨ad127, e127, hx127_0⟩ := Kd.at_int (Kd.R_reads' HO_3.out).2.2 (Go.bits .andNot .i64 x4_1 (ji22)) p127 q127
                 obtain rfl : (⟨go9, 0, none⟩ : Addr) = ad127 := (by injection e127)
                 (first | simp only [add_plain] at hx127_0 | simp only [add_at] at hx127_0 | simp only [Addr.add, Nat.zero_add] at hx127_0 | skip)
                 replace p127 := eq_true p127
                 replace q127 := eq_true q127
                 refine start_ (n := 24) (S := fun w' => w'.cell? ⟨go9, (x4_1).toNat, none⟩ = some (.int .i64 (rd x3_2 x4_1)) ∧ w'.cell? ⟨go9, ((Go.bits .andNot .i64 x4_1 (ji22))).toNat, none⟩ = some (.int .i64 (rd x3_2 (Go.bits .andNot .i64 x4_1 (ji22))))) (ds := [23]) (Qbz 24 0) (by kernel_rfl) rfl rfl ⟨hx126_0, hx127_0⟩ (fun hHeld => ?_); refine with_tabW width_town_widths.tab9 width_town_widths.bits9 (fun HT_ HW_ => ?_)
                 generalize wr.drew = w30 at HO_3 HO_23 HB hx126_0 hx127_0 hHeld ⊢
                 refine pure_ (i := 0) (N := some 29) (v := ?_) (a' := ?_) (Qbz 24 1) rfl rfl (Qao) (fun _ _ _ h => h) (Or.inl ⟨by rfl, ?_⟩) ?_ ?_
                 rotate_left
                 ·intro w'
                  go_simp
                  with_reducible rfl
                 rotate_left
                 ·simp only [Act.put, Qp1, Qp2, Qp3, i64_w, i32_w]
                  rfl
                 refine pure_ (i := 1) (N := some 30) (v := ?_) (a' := ?_) (Qbz 24 3) rfl rfl (Qao) (fun _ _ _ h => h) (Or.inl ⟨by rfl, ?_⟩) ?_ ?_
                 rotate_left
                 ·intro w'
                  go_simp
                  with_reducible rfl
                 rotate_left
                 ·simp only [Act.put, Qp1, Qp2, Qp3, i64_w, i32_w]
                  rfl
                 refine pure_ (i := 2) (N := some 31) (v := ?_) (a' := ?_) (Qbz 24 7) rfl rfl (Qao) (fun _ _ _ h => h) (Or.inl ⟨by rfl, ?_⟩) ?_ ?_
                 rotate_left
                 ·intro w'
                  go_simp
                  with_reducible rfl
                 rotate_left
                 ·simp only [Act.put, Qp1, Qp2, Qp3, i64_w, i32_w]
                  rfl
                 refine pure_ (i := 3) (N := some 32) (v := ?_) (a' := ?_) (Qbz 24 15) rfl rfl (Qao) (fun _ _ _ h => h) (Or.inl ⟨by rfl, ?_⟩) ?_ ?_
                 rotate_left
                 ·intro w'
                  go_simp
                  with_reducible rfl
                 rotate_left
                 ·simp only [Act.put, Qp1, Qp2, Qp3, i64_w, i32_w]
                  rfl
                 refine pure_ (i := 4) (N := some 33) (v := ?_) (a' := ?_) (Qbz 24 31) rfl rfl (Qao) (fun _ _ _ h => h) (Or.inl ⟨by rfl, ?_⟩) ?_ ?_
                 rotate_left
                 ·intro w'
                  go_simp
                  with_reducible rfl
                 rotate_left
                 ·simp only [Act.put, Qp1, Qp2, Qp3, i64_w, i32_w]
                  rfl
                 refine pure_ (i := 6) (N := some 35) (v := ?_) (a' := ?_) (Qbz 24 95) rfl rfl (Qao) (fun _ _ _ h => h) (Or.inl ⟨by rfl, ?_⟩) ?_ ?_
                 rotate_left
                 ·intro w'
                  go_simp
                  with_reducible rfl
                 rotate_left
                 ·simp only [Act.put, Qp1, Qp2, Qp3, i64_w, i32_w]
                  rfl
                 refine pure_ (i := 7) (N := some 36) (v := ?_) (a' := ?_) (Qbz 24 223) rfl rfl (Qao) (fun _ _ _ h => h) (Or.inl ⟨by rfl, ?_⟩) ?_ ?_
                 rotate_left
                 ·intro w'
                  go_simp
                  with_reducible rfl
                 rotate_left
                 ·simp only [Act.put, Qp1, Qp2, Qp3, i64_w, i32_w]
                  rfl
                 refine pure_ (i := 8) (N := some 37) (v := ?_) (a' := ?_) (Qbz 24 479) rfl rfl (Qao) (fun _ _ _ h => h) (Or.inl ⟨by rfl, ?_⟩) ?_ ?_
                 rotate_left
                 ·intro w'
                  go_simp
                  with_reducible rfl
                 rotate_left
                 ·simp only [Act.put, Qp1, Qp2, Qp3, i64_w, i32_w]
                  rfl
                 refine pure_ (i := 9) (N := some 38) (v := ?_) (a' := ?_) (Qbz 24 991) rfl rfl (Qao) (fun _ _ _ h => h) (Or.inl ⟨by rfl, ?_⟩) ?_ ?_
                 rotate_left
                 ·intro w'
                  go_simp
                  with_reducible rfl
                 rotate_left
                 ·simp only [Act.put, Qp1, Qp2, Qp3, i64_w, i32_w]
                  rfl
                 refine pure_ (i := 10) (N := some 39) (v := ?_) (a' := ?_) (Qbz 24 2015) rfl rfl (Qao) (fun _ _ _ h => h) (Or.inl ⟨by rfl, ?_⟩) ?_ ?_
                 rotate_left
                 ·intro w'
                  go_simp
                  with_reducible rfl
                 rotate_left
                 ·simp only [Act.put, Qp1, Qp2, Qp3, i64_w, i32_w]
                  rfl
                 refine pure_ (i := 11) (N := some 40) (v := ?_) (a' := ?_) (Qbz 24 4063) rfl rfl (Qao) (fun _ _ _ h => h) (Or.inl ⟨by rfl, ?_⟩) ?_ ?_
                 rotate_left
                 ·intro w'
                  go_simp
                  with_reducible rfl
                 rotate_left
                 ·simp only [Act.put, Qp1, Qp2, Qp3, i64_w, i32_w]
                  rfl
                 refine pure_ (i := 13) (N := some 42) (v := ?_) (a' := ?_) (Qbz 24 12255) rfl rfl (Qao) (fun _ _ _ h => h) (Or.inl ⟨by rfl, ?_⟩) ?_ ?_
                 rotate_left
                 ·intro w'
                  go_simp
                  with_reducible rfl
                 rotate_left
                 ·simp only [Act.put, Qp1, Qp2, Qp3, i64_w, i32_w]
                  rfl
                 refine pure_ (i := 14) (N := some 43) (v := ?_) (a' := ?_) (Qbz 24 28639) rfl rfl (Qao) (fun _ _ _ h => h) (Or.inl ⟨by rfl, ?_⟩) ?_ ?_
                 rotate_left
                 ·intro w'
                  go_simp
                  with_reducible rfl
                 rotate_left
                 ·simp only [Act.put, Qp1, Qp2, Qp3, i64_w, i32_w]
                  rfl
                 refine pure_ (i := 15) (N := some 44) (v := ?_) (a' := ?_) (Qbz 24 61407) rfl rfl (Qao) (fun _ _ _ h => h) (Or.inl ⟨by rfl, ?_⟩) ?_ ?_
                 rotate_left
                 ·intro w'
                  go_simp
                  with_reducible rfl
                 rotate_left
                 ·simp only [Act.put, Qp1, Qp2, Qp3, i64_w, i32_w]
                  rfl
                 refine pure_ (i := 16) (N := some 45) (v := ?_) (a' := ?_) (Qbz 24 126943) rfl rfl (Qao) (fun _ _ _ h => h) (Or.inl ⟨by rfl, ?_⟩) ?_ ?_
                 rotate_left
                 ·intro w'
                  go_simp
                  with_reducible rfl
                 rotate_left
                 ·simp only [Act.put, Qp1, Qp2, Qp3, i64_w, i32_w]
                  rfl
                 refine pure_ (i := 17) (N := some 46) (v := ?_) (a' := ?_) (Qbz 24 258015) rfl rfl (Qao) (fun _ _ _ h => h) (Or.inl ⟨by rfl, ?_⟩) ?_ ?_
                 rotate_left
                 ·intro w'
                  go_simp
                  with_reducible rfl
                 rotate_left
                 ·simp only [Act.put, Qp1, Qp2, Qp3, i64_w, i32_w]
                  rfl
                 refine pure_ (i := 18) (N := some 47) (v := ?_) (a' := ?_) (Qbz 24 520159) rfl rfl (Qao) (fun _ _ _ h => h) (Or.inl ⟨by rfl, ?_⟩) ?_ ?_
                 rotate_left
                 ·intro w'
                  go_simp
                  with_reducible rfl
                 rotate_left
                 ·simp only [Act.put, Qp1, Qp2, Qp3, i64_w, i32_w]
                  rfl
                 refine take_ (i := 5) (N := some 34) (v := ?_) (a' := ?_) (Qbz 24 520191) rfl rfl (take_ofW HT_.out HW_.out (by kernel_rfl)) (fun _ _ _ h => h) (Or.inl ⟨by rfl, ?_⟩) hHeld ?_ ?_
                 rotate_left
                 ·rintro w' ⟨s0, s1⟩
                  go_simp
                  with_reducible rfl
                 rotate_left
                 ·simp only [Act.put, Qp1, Qp2, Qp3, i64_w, i32_w]
                  rfl
                 refine take_ (i := 12) (N := some 41) (v := ?_) (a' := ?_) (Qbz 24 524287) rfl rfl (take_ofW HT_.out HW_.out (by kernel_rfl)) (fun _ _ _ h => h) (Or.inl ⟨by rfl, ?_⟩) hHeld ?_ ?_
                 rotate_left
                 ·rintro w' ⟨s0, s1⟩
                  go_simp
                  with_reducible rfl
                 rotate_left
                 ·simp only [Act.put, Qp1, Qp2, Qp3, i64_w, i32_w]
                  rfl
                 refine one_ (i := 19) (N := some 48) (Qbz 24 1048575) rfl rfl (one_of HT_.out (by kernel_rfl)) (by decide) (fun K hK => ?_)
                 refine goes_ Tryd.func75 (by kernel_rfl) rfl #[.slice A0 l0.length c0, .int .i64 (rd t122 x25_2), .int .i64 (Go.bits .andNot .i64 x4_1 (ji22))] (by rfl) rfl rfl (by (try simp only [List.map_toArray, List.map_cons, List.map_nil]); first | done | (simp only [hji22]; rfl) | rfl | (simp only [List.length_drop, List.length_take]; rfl)) ?_
                 with_reducible refine (width_town_degree.calls (hGL := (Qlg)) k2 _ _ l0 (rd t122 x25_2) (Go.bits .andNot .i64 x4_1 (ji22)) t128 _ ?side1 ?side2 A26.out).mono ?_
                 (case side1 => exact Qsc (Kd.C_below HR0.out HB.out))
                 (case side2 => exact HC0.out)
                 rintro e w31 ⟨rfl, hb⟩
                 have HS0_ := (hb.cell (World.block_lt_of_cell? _ _ (hHeld.1))).trans (hHeld.1)
                 have HS1_ := (hb.cell (World.block_lt_of_cell? _ _ (hHeld.2))).trans (hHeld.2)
                 refine ⟨_, rfl, ?_⟩
                 have n0_ := Aside0.mk (Kd.R_below (Qro HO_3.out) hb)
                 have n1_ := Aside0.mk (Kd.R_below (Qro HO_23.out) hb)
                 have n2_ := Aside0.mk (below_step (Qaw) hb)
                 clear HO_3
                 clear HO_23
                 clear HB
                 have HO_3 := n0_
                 have HO_23 := n1_
                 have HB := n2_
                 clear n0_ n1_ n2_
                 (try clear hb)
                 (try clear hb2)
                 (try clear hk)
                 (try clear hi)
                 have p29 : 0 ≤ (x4_1 : Int) := of_decide_eq_true (Qas)
                 have q29 : (x4_1 : Int) < ((x3_2.length : Int) : Int) := of_decide_eq_true (Qas)
                 obtain ⟨hx29_0, hf29_0⟩ := Kd.R_celln 0 HO_3.out (x4_1 : Int) p29 q29
                 replace p29 := eq_true p29
                 replace q29 := eq_true q29
                 have HP32 := Kd.R_putn HO_3.out (x4_1 : Int) ji28
                 rw [← Ny129.out] at HP32
                 have HQ32 := Aside0.mk HP32
                 clear HP32
                 refine hK.out _ _ ⟨HS0_, HS1_⟩ (fun hHeld => ?_)
                 clear hK K
                 refine norm_ (a' := ?_) ?_ ?_
                 rotate_left
                 ·show Act.put _ (some 48) _ = _
                  simp only [Act.put, Qp1, Qp2, Qp3, i64_w, i32_w]
                  rfl
                 refine pure_ (i := 20) (N := some 49) (v := ?_) (a' := ?_) (Qbz 24 2097151) rfl rfl (Qao) (fun _ _ _ h => h) (Or.inl ⟨by rfl, ?_⟩) ?_ ?_
                 rotate_left
                 ·intro w'
                  go_simp
                  with_reducible rfl
                 rotate_left
                 ·simp only [Act.put, Qp1, Qp2, Qp3, i64_w, i32_w]
                  rfl
                 refine pure_ (i := 21) (N := some 50) (v := ?_) (a' := ?_) (Qbz 24 4194303) rfl rfl (Qao) (fun _ _ _ h => h) (Or.inl ⟨by rfl, ?_⟩) ?_ ?_
                 rotate_left
                 ·intro w'
                  go_simp
                  with_reducible rfl
                 rotate_left
                 ·simp only [Act.put, Qp1, Qp2, Qp3, i64_w, i32_w]
                  rfl
                 refine pure_ (i := 22) (N := some 51) (v := ?_) (a' := ?_) (Qbz 24 8388607) rfl rfl (Qao) (fun _ _ _ h => h) (Or.inl ⟨by rfl, ?_⟩) ?_ ?_
                 rotate_left
                 ·intro w'
                  go_simp
                  with_reducible rfl
                 rotate_left
                 ·simp only [Act.put, Qp1, Qp2, Qp3, i64_w, i32_w]
                  rfl
                 refine last_ (i := 23) (N := none) (Qbz 24 16777215) rfl rfl (one_of HT_.out (by kernel_rfl)) (by decide) (fun K hK => ?_)
                 refine skip_ (w1 := ?_) (by rfl) rfl ?_ ?_
                 rotate_left
                 ·go_simp
                  rfl
                 refine hK.out _ _ ?_
                 clear hK K
                 refine done_ (done_of HT_.out (by kernel_rfl)) ?_
                 try go_wp2
                 (try simp only [← hl3_2])
                 go_roundg k2
                 case measure => have := HK1.out; have := HK2.out; omega
                 case rel => exact ⟨(y129), (wrap64 (x25_2 + 1)), (Qrs), H', ⟨by have := HK1.out; have := HK2.out; omega⟩, ⟨by (try simp only [hl3_2]); (with_reducible repeat (first | apply Kd.R_alloc | apply Kd.R_drewN | apply Kd.R_drew)); exact HQ32.out⟩, ⟨by (try simp only [hl3_2]); (with_reducible repeat (first | apply Kd.R_alloc | apply Kd.R_drewN | apply Kd.R_drew)); exact Kd.R_mono (Kd.R_far (p := ⟨go9, (x4_1 : Int).toNat, none⟩) (Kd.R_mono HO_23.out (fun k_ hk => (⟨hk, fun e_ => hk (by rw [e_]; rfl)⟩ : _ ∧ k_ ≠ go9))) (fun _ hk => hk.2) (.int .i64 ji28)) (fun _ hk => hk.1)⟩, ⟨by repeat (first | (with_reducible first | exact HB.out | apply below_alloc | apply pw_below_drewN | apply below_drew1 | refine below_set ?_ GB9.out) | exact HB.out)⟩⟩
                ·rw [if_neg c24] at H
                 exact absurd H (by simp)
               ·rw [if_neg c23] at H
                exact absurd H (by simp)
              ·rw [if_neg c21] at H
               exact absurd H (by simp)
             ·rw [if_neg c20] at H
              exact absurd H (by simp)
            ·rw [if_neg c19] at H
             exact absurd H (by simp)
           ·rw [if_neg c18] at H
            exact absurd H (by simp)
          ·rw [if_neg c17] at H
           exact absurd H (by simp)
         ·rw [if_neg c16] at H
          have c16b0 : decide (x25_2 < (t122.length : Int)) = false := decide_eq_false c16
          clear c16
          have H' := Aside0.mk H
          clear H
          go_wp2
          (try simp only [← hl3_2])
          go_roundg k2
          case measure => have := HK1.out; have := HK2.out; omega
          case rel => exact ⟨(x3_2), (wrap64 (x4_1 + 1)), (Qrs), H', ⟨by have := HK1.out; have := HK2.out; omega⟩, ⟨by (try simp only [hl3_2]); (with_reducible repeat (first | apply Kd.R_alloc | apply Kd.R_drewN | apply Kd.R_drew)); exact Kd.R_mono HO_3.out (fun _ hk => trivial)⟩, ⟨by repeat (first | (with_reducible first | exact HB.out | apply below_alloc | apply pw_below_drewN | apply below_drew1) | exact HB.out)⟩⟩
      ·rw [if_neg c8] at H
       exact absurd H (by simp)
     ·rw [if_neg c7] at H
      have c7b0 : decide (x4_1 < (x3_1.length : Int)) = false := decide_eq_false c7
      clear c7
      obtain rfl := Option.some.inj H
      obtain ⟨Ao33, co33, eo33⟩ := Kd.R_slice HO_3.out
      subst eo33
      go_wp2
      go_ret
      exact ⟨_, by first | rfl | (simp [errW_none, errW_some] <;> rfl) | (simp only [← hji2]; first | rfl | (simp [errW_none, errW_some] <;> rfl)) | (simp [*, errW_none, errW_some] <;> rfl), by (with_reducible repeat (first | apply Kd.R_alloc | apply Kd.R_drewN | apply Kd.R_drew)); exact HO_3.out, by repeat (first | (with_reducible first | exact HB.out | apply below_alloc | apply pw_below_drewN | apply below_drew1) | exact HB.out)⟩
  ·rw [if_neg c4] at H
   exact absurd H (by simp)
 ·rw [if_neg c3] at H
  exact absurd H (by simp)
end
noncomputable section
def width_town_width.f (k : Nat) (l0 : List Int) : Option (Int) := (width_town_widths.f k l0).bind fun t130 => ((width_town_all.f l0).bind fun t133 => (if 0 ≤ t133 then (if t133 < (t130.length : Int) then (some (rd t130 t133)) else (none)) else (none)))
theorem width_town_width.mono : ∀ a0 k, LeO (width_town_width.f k a0) (width_town_width.f (k + 1) a0) := by
 intro a0 k
 unfold width_town_width.f
 repeat' first
   | (with_reducible exact width_town_widths.mono _ _)
   | (with_reducible exact LeO.refl _)
   | (with_reducible exact LeO.none _)
   | (with_reducible refine LeO.ite ?_ ?_)
   | (with_reducible refine LeO.bind ?_ (fun _ => ?_))
   | exact width_town_widths.mono _ _
   | exact LeO.none _
   | refine LeO.ite ?_ ?_
   | refine LeO.bind ?_ (fun _ => ?_)
set_option maxHeartbeats 8000000 in
set_option maxRecDepth 100000 in
theorem width_town_width.calls (k : Nat) (A0 : Option Addr) (c0 : Nat) (l0 : List Int) (r : Int) (w : World) (hGL : GL w) (hr0 : Kd.C (Kd.int .i64) w A0 l0.length l0) (hc0 : l0.length ≤ c0) (h : width_town_width.f k l0 = some r) :
  Calls Tryd.prog 60 #[.slice A0 l0.length c0] w fun e w' => e = .returned (.int .i64 r) ∧ Below w.heap.size w w' := by
 have HGL := Aside0.mk hGL
 clear hGL
 have HR0 := Aside0.mk hr0
 have HC0 := Aside0.mk hc0
 clear hr0 hc0
 have HB := Aside0.mk (Below.refl w.heap.size w)
 have H : ((width_town_widths.f k l0).bind fun t130 => ((width_town_all.f l0).bind fun t133 => (if 0 ≤ t133 then (if t133 < (t130.length : Int) then (some (rd t130 t133)) else (none)) else (none)))) = some r := h
 clear h
 replace H := Option.bind_eq_some_iff.mp H
 obtain ⟨t130, A20, H⟩ := H
 replace H : ((width_town_all.f l0).bind fun t133 => (if 0 ≤ t133 then (if t133 < (t130.length : Int) then (some (rd t130 t133)) else (none)) else (none))) = some r := H
 have A2 := Aside0.mk A20
 clear A20
 replace H := Option.bind_eq_some_iff.mp H
 obtain ⟨t133, A30, H⟩ := H
 replace H : (if 0 ≤ t133 then (if t133 < (t130.length : Int) then (some (rd t130 t133)) else (none)) else (none)) = some r := H
 have A3 := Aside0.mk A30
 clear A30
 by_cases c4 : 0 ≤ t133
 ·rw [if_pos c4] at H
  have c4b0 : decide (0 ≤ t133) = true := decide_eq_true c4
  clear c4
  by_cases c5 : t133 < (t130.length : Int)
  ·rw [if_pos c5] at H
   have c5b0 : decide (t133 < (t130.length : Int)) = true := decide_eq_true c5
   clear c5
   obtain rfl := Option.some.inj H
   go_enter Tryd.func60, Tryd.ntmps60
   go_wp2_with (first | ((with_reducible refine gate_callee (f := 91) rfl ?_); refine goesL_ (some 4) rfl rfl Tryd.func91 (by kernel_rfl) rfl #[.slice A0 l0.length c0] rfl (Qls) ?_; (with_reducible refine (width_town_widths.calls (hGL := (Qlg)) k _ _ l0 t130 _ ?side1 ?side2 A2.out).mono ?_); (case side1 => exact Qsc HR0.out); (case side2 => exact HC0.out); rintro e w6 ⟨v131, rfl, ho0, hb⟩; refine ⟨_, rfl, ?_⟩; have n0_ := Aside0.mk (Kd.R_lower ho0 (below_size (Qaw))); have n1_ := Aside0.mk (below_step (Qaw) hb); clear HB; have HO132 := n0_; have HB := n1_; clear n0_ n1_; (try clear hb); (try clear hb2); (try clear hk); (try clear hi); (try clear ho0)) | ((with_reducible refine gate_callee (f := 67) rfl ?_); refine goesL_ (some 6) rfl rfl Tryd.func67 (by kernel_rfl) rfl #[.slice A0 l0.length c0] rfl (Qls) ?_; (with_reducible refine (width_town_all.calls _ _ l0 t133 _ ?side1 ?side2 A3.out).mono ?_); (case side1 => exact Qsc (Kd.C_below HR0.out HB.out)); (case side2 => exact HC0.out); rintro e w' ⟨rfl, ⟨nd, rfl⟩⟩; refine ⟨_, rfl, ?_⟩; obtain ⟨Ao7, co7, eo7⟩ := Kd.R_slice HO132.out; subst eo7; have p134 : 0 ≤ (t133 : Int) := of_decide_eq_true (Qas); have q134 : t133 < (t130.length : Int) := of_decide_eq_true (Qas); obtain ⟨ad134, e134, hx134_0⟩ := Kd.at_int (Kd.R_reads' HO132.out).2.2 t133 p134 q134; cases e134; replace p134 := eq_true p134; replace q134 := eq_true q134))
   go_ret
   exact ⟨by first | rfl | (simp [errW_none, errW_some] <;> rfl) | (simp [*, errW_none, errW_some] <;> rfl), by repeat (first | (with_reducible first | exact HB.out | apply below_alloc | apply pw_below_drewN | apply below_drew1) | exact HB.out)⟩
  ·rw [if_neg c5] at H
   exact absurd H (by simp)
 ·rw [if_neg c4] at H
  exact absurd H (by simp)
end
noncomputable section
def width_Width.f (k : Nat) (l0 : List Int) : Option (Int × Int) := (width_read.f k l0).bind fun bt135 => (if bt135.2 = true then ((width_town_width.f k bt135.1).bind fun t139 => (some (t139, 0))) else (some (0, 2)))
theorem width_Width.mono : ∀ a0 k, LeO (width_Width.f k a0) (width_Width.f (k + 1) a0) := by
 intro a0 k
 unfold width_Width.f
 repeat' first
   | (with_reducible exact width_read.mono _ _)
   | (with_reducible exact width_town_width.mono _ _)
   | (with_reducible exact LeO.refl _)
   | (with_reducible exact LeO.none _)
   | (with_reducible refine LeO.ite ?_ ?_)
   | (with_reducible refine LeO.bind ?_ (fun _ => ?_))
   | exact width_read.mono _ _
   | exact width_town_width.mono _ _
   | exact LeO.none _
   | refine LeO.ite ?_ ?_
   | refine LeO.bind ?_ (fun _ => ?_)
set_option maxHeartbeats 8000000 in
set_option maxRecDepth 100000 in
theorem width_Width.calls (k : Nat) (A0 : Option Addr) (c0 : Nat) (l0 : List Int) (r1 : Int) (r2 : Int) (w : World) (hGL : GL w) (hr0 : Kd.C (Kd.int .i64) w A0 l0.length l0) (hc0 : l0.length ≤ c0) (h : width_Width.f k l0 = some (r1, r2)) :
  Calls Tryd.prog 18 #[.slice A0 l0.length c0] w fun e w' => e = .returned (.tuple #[.int .i64 r1, .int .i64 r2]) ∧ Below w.heap.size w w' := by
 have HGL := Aside0.mk hGL
 clear hGL
 have HR0 := Aside0.mk hr0
 have HC0 := Aside0.mk hc0
 clear hr0 hc0
 have HB := Aside0.mk (Below.refl w.heap.size w)
 have H : ((width_read.f k l0).bind fun bt135 => (if bt135.2 = true then ((width_town_width.f k bt135.1).bind fun t139 => (some (t139, 0))) else (some (0, 2)))) = some (r1, r2) := h
 clear h
 replace H := Option.bind_eq_some_iff.mp H
 obtain ⟨⟨t135, t138⟩, A20, H⟩ := H
 replace H : (if t138 = true then ((width_town_width.f k t135).bind fun t139 => (some (t139, 0))) else (some (0, 2))) = some (r1, r2) := H
 have A2 := Aside0.mk A20
 clear A20
 by_cases c3 : t138 = true
 ·subst c3
  have H1 : ((width_town_width.f k t135).bind fun t139 => (some (t139, 0))) = some (r1, r2) := by rw [if_pos rfl] at H; exact H
  clear H
  have H := H1
  clear H1
  replace H := Option.bind_eq_some_iff.mp H
  obtain ⟨t139, A40, H⟩ := H
  replace H : (some (t139, 0)) = some (r1, r2) := H
  have A4 := Aside0.mk A40
  clear A40
  simp only [Option.some.injEq, Prod.mk.injEq] at H
  obtain ⟨rfl, rfl⟩ := H
  go_enter Tryd.func18, Tryd.ntmps18
  go_wp2_with (first | ((with_reducible refine gate_callee (f := 59) rfl ?_); refine goesL_ (some 8) rfl rfl Tryd.func59 (by kernel_rfl) rfl #[.slice A0 l0.length c0] rfl (Qls) ?_; (with_reducible refine (width_read.calls k (fun k_ => k_ < w.heap.size) _ _ l0 t135 true _ ?side1 A2.out).mono ?_); (case side1 => exact Kd.V_mk HC0.out (Kd.F_below (Kd.C_F (Kd.heap_int .i64) HR0.out) (Qaw))); rintro e w5 ⟨v136, rfl, ho0, hb⟩; refine ⟨_, rfl, ?_⟩; have n0_ := Aside0.mk (Kd.V_lower (Kd.V_mono (ok' := fun k_ => True) ho0 (fun k_ hk_ => trivial)) (below_size (Qaw))); have n1_ := Aside0.mk (below_step (Qaw) hb); clear HB; have HO137 := n0_; have HB := n1_; clear n0_ n1_; (try clear hb); (try clear hb2); (try clear hk); (try clear hi); (try clear ho0); obtain ⟨Ao6, co6, eo6⟩ := Kd.V_slice HO137.out; subst eo6) | ((with_reducible refine gate_callee (f := 60) rfl ?_); refine goesL_ (some 14) rfl rfl Tryd.func60 (by kernel_rfl) rfl #[.slice Ao6 t135.length co6] rfl (Qls) ?_; (with_reducible refine (width_town_width.calls (hGL := (Qlg)) k _ _ t135 t139 _ ?side1 ?side2 A4.out).mono ?_); (case side1 => exact Qsc (Kd.V_reads' HO137.out).2.2); (case side2 => exact (Kd.V_reads' HO137.out).2.1); rintro e w7 ⟨rfl, hb⟩; refine ⟨_, rfl, ?_⟩; have n0_ := Aside0.mk (Kd.V_below (by (with_reducible repeat (first | apply Kd.V_alloc | apply Kd.V_drewN | apply Kd.V_drew)); exact HO137.out) hb); have n1_ := Aside0.mk (below_step (Qaw) hb); clear HO137; clear HB; have HO137 := n0_; have HB := n1_; clear n0_ n1_; (try clear hb); (try clear hb2); (try clear hk); (try clear hi)))
  go_ret2
  exact ⟨by first | rfl | (simp [errW_none, errW_some] <;> rfl) | (simp [*, errW_none, errW_some] <;> rfl), by repeat (first | (with_reducible first | exact HB.out | apply below_alloc | apply pw_below_drewN | apply below_drew1) | exact HB.out)⟩
 ·replace c3 := Bool.eq_false_iff.mpr c3
  subst c3
  have H1 : (some (0, 2)) = some (r1, r2) := by rw [if_neg (show ¬ (false = true) by decide)] at H; exact H
  clear H
  have H := H1
  clear H1
  simp only [Option.some.injEq, Prod.mk.injEq] at H
  obtain ⟨rfl, rfl⟩ := H
  go_enter Tryd.func18, Tryd.ntmps18
  go_wp2_with (first | ((with_reducible refine gate_callee (f := 59) rfl ?_); refine goesL_ (some 8) rfl rfl Tryd.func59 (by kernel_rfl) rfl #[.slice A0 l0.length c0] rfl (Qls) ?_; (with_reducible refine (width_read.calls k (fun k_ => k_ < w.heap.size) _ _ l0 t135 false _ ?side1 A2.out).mono ?_); (case side1 => exact Kd.V_mk HC0.out (Kd.F_below (Kd.C_F (Kd.heap_int .i64) HR0.out) (Qaw))); rintro e w8 ⟨v136, rfl, ho0, hb⟩; refine ⟨_, rfl, ?_⟩; have n0_ := Aside0.mk (Kd.V_lower (Kd.V_mono (ok' := fun k_ => True) ho0 (fun k_ hk_ => trivial)) (below_size (Qaw))); have n1_ := Aside0.mk (below_step (Qaw) hb); clear HB; have HO137 := n0_; have HB := n1_; clear n0_ n1_; (try clear hb); (try clear hb2); (try clear hk); (try clear hi); (try clear ho0)))
  go_ret2
  exact ⟨by first | rfl | (simp [errW_none, errW_some] <;> rfl) | (simp [*, errW_none, errW_some] <;> rfl), by repeat (first | (with_reducible first | exact HB.out | apply below_alloc | apply pw_below_drewN | apply below_drew1) | exact HB.out)⟩
end
noncomputable section
def lampblacklaw02_awake.f (k : Nat)  : Option (Bool) := (width_Width.f k (([2, 1] : List Int))).bind fun bt153 => (if bt153.1 = 1 then (some (bt153.2 == 0)) else (some false))
theorem lampblacklaw02_awake.mono : ∀ k, LeO (lampblacklaw02_awake.f k ) (lampblacklaw02_awake.f (k + 1) ) := by
 intro  k
 unfold lampblacklaw02_awake.f
 repeat' first
   | (with_reducible exact width_Width.mono _ _)
   | (with_reducible exact LeO.refl _)
   | (with_reducible exact LeO.none _)
   | (with_reducible refine LeO.ite ?_ ?_)
   | (with_reducible refine LeO.bind ?_ (fun _ => ?_))
   | exact width_Width.mono _ _
   | exact LeO.none _
   | refine LeO.ite ?_ ?_
   | refine LeO.bind ?_ (fun _ => ?_)
set_option maxHeartbeats 8000000 in
set_option maxRecDepth 100000 in
theorem lampblacklaw02_awake.calls (k : Nat)  (r : Bool) (w : World) (hGL : GL w) (h : lampblacklaw02_awake.f k  = some r) :
  Calls Tryd.prog 20 #[] w fun e w' => e = .returned (.bool r) ∧ Below w.heap.size w w' := by
 have HGL := Aside0.mk hGL
 clear hGL
 have HB := Aside0.mk (Below.refl w.heap.size w)
 have H : ((width_Width.f k (([2, 1] : List Int))).bind fun bt153 => (if bt153.1 = 1 then (some (bt153.2 == 0)) else (some false))) = some r := h
 clear h
 obtain ⟨y150, hy150⟩ : ∃ y_ : List Int, y_ = (([2, 1] : List Int)) := ⟨_, rfl⟩
 replace H : ((width_Width.f k y150).bind fun bt153 => (if bt153.1 = 1 then (some (bt153.2 == 0)) else (some false))) = some r := by first | (rw [hy150]; with_reducible exact H) | (have H2_ := (Option.bind_some _ _).symm.trans H; rw [hy150]; with_reducible exact H2_) | (have H2_ := (Option.bind_some _ _).symm.trans H; with_reducible exact H2_) | with_reducible exact H | (rw [hy150]; exact H) | exact H
 have Ny150 := Aside0.mk hy150
 clear hy150
 replace H := Option.bind_eq_some_iff.mp H
 obtain ⟨⟨t153, t154⟩, A10, H⟩ := H
 replace H : (if t153 = 1 then (some (t154 == 0)) else (some false)) = some r := H
 have A1 := Aside0.mk A10
 clear A10
 by_cases c2 : t153 = 1
 ·rw [if_pos c2] at H
  have c2b0 : (t153 == 1) = true := beq_iff_eq.mpr c2
  have c2b1 : (t153 != 1) = false := bne_eq_false_iff_eq.mpr c2
  clear c2
  obtain rfl := Option.some.inj H
  go_enter Tryd.func20, Tryd.ntmps20
  go_wp2_with (first | ((with_reducible refine gate_dst (N := 4) rfl ?_); refine Kd.R_lit (Kd.int .i64) _ 3 ?hg (N := 4) ?hd (xs := ([2, 1] : List Int)) (inner := [.int .i64 2, .int .i64 1]) (ok := fun _ => True) (okp := fun _ => True) ?hr ?hp (fun _ hk => hk) trivial (Below.refl _ _) (Nat.le_refl _) (by simp) ?_; (case hd => rfl); (case hg => rfl); (case hr => first | (go_simp; done) | (go_simp; rfl)); (case hp => exact (Reps.one (show Kd.M (Kd.int .i64) _ _ _ 2 [.int .i64 2] from rfl) (Reps.one (show Kd.M (Kd.int .i64) _ _ _ 1 [.int .i64 1] from rfl) (Reps.none _ _)))); intro v151 w3 ho4 hb hg_ hnew_; clear hg_ hnew_; (first | rw [← Ny150.out] at ho4 | (simp only [Int.reduceToNat] at ho4; rw [← Ny150.out] at ho4)); have n0_ := Aside0.mk (Kd.R_lower ho4 (below_size (Qaw))); have n1_ := Aside0.mk (below_step (Qaw) hb); clear HB; have HO152 := n0_; have HB := n1_; clear n0_ n1_; clear hb ho4; obtain ⟨Ao5, co5, eo5⟩ := Kd.R_slice HO152.out; subst eo5) | ((with_reducible refine gate_callee (f := 18) rfl ?_); refine goesL_ (some 5) rfl rfl Tryd.func18 (by kernel_rfl) rfl #[.slice Ao5 y150.length co5] rfl (Qls) ?_; (with_reducible refine (width_Width.calls (hGL := (Qlg)) k _ _ y150 t153 t154 _ ?side1 ?side2 A1.out).mono ?_); (case side1 => exact Qsc (Kd.R_reads' HO152.out).2.2); (case side2 => exact (Kd.R_reads' HO152.out).2.1); rintro e w6 ⟨rfl, hb⟩; refine ⟨_, rfl, ?_⟩; have n0_ := Aside0.mk (Kd.R_below (Qro HO152.out) hb); have n1_ := Aside0.mk (below_step (Qaw) hb); clear HO152; clear HB; have HO152 := n0_; have HB := n1_; clear n0_ n1_; (try clear hb); (try clear hb2); (try clear hk); (try clear hi)))
  go_ret
  exact ⟨by first | rfl | (simp [errW_none, errW_some] <;> rfl) | (simp [*, errW_none, errW_some] <;> rfl), by repeat (first | (with_reducible first | exact HB.out | apply below_alloc | apply pw_below_drewN | apply below_drew1) | exact HB.out)⟩
 ·rw [if_neg c2] at H
  have c2b0 : (t153 == 1) = false := beq_eq_false_iff_ne.mpr c2
  have c2b1 : (t153 != 1) = true := bne_iff_ne.mpr c2
  obtain rfl := Option.some.inj H
  go_enter Tryd.func20, Tryd.ntmps20
  go_wp2_with (first | ((with_reducible refine gate_dst (N := 4) rfl ?_); refine Kd.R_lit (Kd.int .i64) _ 3 ?hg (N := 4) ?hd (xs := ([2, 1] : List Int)) (inner := [.int .i64 2, .int .i64 1]) (ok := fun _ => True) (okp := fun _ => True) ?hr ?hp (fun _ hk => hk) trivial (Below.refl _ _) (Nat.le_refl _) (by simp) ?_; (case hd => rfl); (case hg => rfl); (case hr => first | (go_simp; done) | (go_simp; rfl)); (case hp => exact (Reps.one (show Kd.M (Kd.int .i64) _ _ _ 2 [.int .i64 2] from rfl) (Reps.one (show Kd.M (Kd.int .i64) _ _ _ 1 [.int .i64 1] from rfl) (Reps.none _ _)))); intro v151 w7 ho8 hb hg_ hnew_; clear hg_ hnew_; (first | rw [← Ny150.out] at ho8 | (simp only [Int.reduceToNat] at ho8; rw [← Ny150.out] at ho8)); have n0_ := Aside0.mk (Kd.R_lower ho8 (below_size (Qaw))); have n1_ := Aside0.mk (below_step (Qaw) hb); clear HB; have HO152 := n0_; have HB := n1_; clear n0_ n1_; clear hb ho8; obtain ⟨Ao9, co9, eo9⟩ := Kd.R_slice HO152.out; subst eo9) | ((with_reducible refine gate_callee (f := 18) rfl ?_); refine goesL_ (some 5) rfl rfl Tryd.func18 (by kernel_rfl) rfl #[.slice Ao9 y150.length co9] rfl (Qls) ?_; (with_reducible refine (width_Width.calls (hGL := (Qlg)) k _ _ y150 t153 t154 _ ?side1 ?side2 A1.out).mono ?_); (case side1 => exact Qsc (Kd.R_reads' HO152.out).2.2); (case side2 => exact (Kd.R_reads' HO152.out).2.1); rintro e w10 ⟨rfl, hb⟩; refine ⟨_, rfl, ?_⟩; have n0_ := Aside0.mk (Kd.R_below (Qro HO152.out) hb); have n1_ := Aside0.mk (below_step (Qaw) hb); clear HO152; clear HB; have HO152 := n0_; have HB := n1_; clear n0_ n1_; (try clear hb); (try clear hb2); (try clear hk); (try clear hi)))
  go_ret
  exact ⟨by first | rfl | (simp [errW_none, errW_some] <;> rfl) | (simp [*, errW_none, errW_some] <;> rfl), by repeat (first | (with_reducible first | exact HB.out | apply below_alloc | apply pw_below_drewN | apply below_drew1) | exact HB.out)⟩
end
noncomputable section
def slices_Clone_Graph.f (l0 : List Int) : Option (List Int) := (some (([] : List Int) : List Int)).bind fun y140 => (if y140.length + l0.length < 17592186044416 then (some (y140 ++ l0)) else (none))
set_option maxHeartbeats 8000000 in
set_option maxRecDepth 100000 in
theorem slices_Clone_Graph.calls_some (a0 : Addr) (c0 : Nat) (l0 : List Int) (r : List Int) (w : World) (hr0 : Kd.C (Kd.int .i64) w (some a0) l0.length l0) (hc0 : l0.length ≤ c0) (h : slices_Clone_Graph.f l0 = some r) :
  Calls Tryd.prog 61 #[.slice (some a0) l0.length c0] w fun e w' => ∃ v0_ : Value, e = .returned (v0_) ∧ Kd.R (Kd.int .i64) 3 w' w.heap.size (fun _ => True) v0_ r ∧ Below w.heap.size w w' := by
 have HR0 := Aside0.mk hr0
 have HC0 := Aside0.mk hc0
 clear hr0 hc0
 have HB := Aside0.mk (Below.refl w.heap.size w)
 have H : ((some (([] : List Int) : List Int)).bind fun y140 => (if y140.length + l0.length < 17592186044416 then (some (y140 ++ l0)) else (none))) = some r := h
 clear h
 obtain ⟨y140, hy140⟩ : ∃ y_ : List Int, y_ = (([] : List Int)) := ⟨_, rfl⟩
 replace H : (if y140.length + l0.length < 17592186044416 then (some (y140 ++ l0)) else (none)) = some r := by first | (rw [hy140]; with_reducible exact H) | (have H2_ := (Option.bind_some _ _).symm.trans H; rw [hy140]; with_reducible exact H2_) | (have H2_ := (Option.bind_some _ _).symm.trans H; with_reducible exact H2_) | with_reducible exact H | (rw [hy140]; exact H) | exact H
 have Ny140 := Aside0.mk hy140
 clear hy140
 by_cases c2 : y140.length + l0.length < 17592186044416
 ·rw [if_pos c2] at H
  have LMc2 := Aside0.mk c2
  clear c2
  obtain ⟨y143, hy143⟩ : ∃ y_ : List Int, y_ = (y140 ++ l0) := ⟨_, rfl⟩
  replace H : (some y143) = some r := by first | (rw [hy143]; with_reducible exact H) | (have H2_ := (Option.bind_some _ _).symm.trans H; rw [hy143]; with_reducible exact H2_) | (have H2_ := (Option.bind_some _ _).symm.trans H; with_reducible exact H2_) | with_reducible exact H | (rw [hy143]; exact H) | exact H
  have Ny143 := Aside0.mk hy143
  clear hy143
  obtain rfl := Option.some.inj H
  have heq_ := fun (w : World) => Lib.run_eql_slice_nil (P := Tryd.prog) w 23 3 (some a0) l0.length c0 0 0 Tryd.underlying23
  go_enter Tryd.func61, Tryd.ntmps61
  go_wp2_with (first | ((with_reducible refine gate_dst (N := 5) rfl ?_); refine Kd.R_lit (Kd.int .i64) _ 3 ?hg (N := 5) ?hd (xs := ([] : List Int)) (inner := []) (ok := fun _ => True) (okp := fun _ => True) ?hr ?hp (fun _ hk => hk) trivial (Below.refl _ _) (Nat.le_refl _) (by simp) ?_; (case hd => rfl); (case hg => rfl); (case hr => first | (go_simp; done) | (go_simp; rfl)); (case hp => exact (Reps.none _ _)); intro v141 w3 ho4 hb hg_ hnew_; clear hg_ hnew_; (first | rw [← Ny140.out] at ho4 | (simp only [Int.reduceToNat] at ho4; rw [← Ny140.out] at ho4)); have n0_ := Aside0.mk (Kd.R_lower ho4 (below_size (Qaw))); have n1_ := Aside0.mk (below_step (Qaw) hb); clear HB; have HO142 := n0_; have HB := n1_; clear n0_ n1_; clear hb ho4) | ((with_reducible refine gate_builtin (b := .append) (xs := #[.tmp 5, .tmp 6]) rfl ?_); at_builtin; refine Kd.R_append_rows (Kd.int .i64) (w0 := w) w.heap.size rfl (.tmp 5) (.tmp 6) 23 3 (.int .i64 0) 8 rfl Tryd.underlying23 info3 rfl (by decide) (by omega) v141 y140 l0 _ _ _ (fun _ => True) (fun _ => False) rfl rfl ?aO ?aR (fun _ _ h => h) (fun _ h => h.elim) ?aF ?aB ?aS ?aL ?_; (case aR => exact Qsc (Kd.C_below HR0.out HB.out)); (case aB => exact (Qaw)); (case aF => exact (fun _ _ => trivial)); (case aO => exact (Qro HO142.out)); (case aS => exact (below_size (Qaw))); (case aL => have := LMc2.out; omega); intro v144 w5 ho hb hg hat; rw [← Ny143.out] at ho; have n0_ := Aside0.mk (hb); have n1_ := Aside0.mk (ho); clear HB; clear HO142; have HB := n0_; have HO145 := n1_; clear n0_ n1_; clear ho hb hg hat))
  go_ret
  exact ⟨_, by first | rfl | (simp [errW_none, errW_some] <;> rfl) | (simp [*, errW_none, errW_some] <;> rfl), by (with_reducible repeat (first | apply Kd.R_alloc | apply Kd.R_drewN | apply Kd.R_drew)); exact HO145.out, by repeat (first | (with_reducible first | exact HB.out | apply below_alloc | apply pw_below_drewN | apply below_drew1) | exact HB.out)⟩
 ·rw [if_neg c2] at H
  exact absurd H (by simp)
theorem slices_Clone_Graph.calls (A0 : Option Addr) (c0 : Nat) (l0 : List Int) (r : List Int) (w : World) (hr0 : Kd.C (Kd.int .i64) w A0 l0.length l0) (hc0 : l0.length ≤ c0) (h : slices_Clone_Graph.f l0 = some r) :
  Calls Tryd.prog 61 #[.slice A0 l0.length c0] w fun e w' => ∃ v0_ : Value, e = .returned (v0_) ∧ Kd.R (Kd.int .i64) 3 w' w.heap.size (fun _ => True) v0_ r ∧ Below w.heap.size w w' := by
 cases A0 with
 | some a0 => exact slices_Clone_Graph.calls_some a0 c0 l0 r w hr0 hc0 h
 | none =>
  have hl : l0 = [] := by
   rcases Nat.eq_zero_or_pos l0.length with h0 | h0
   ·exact List.length_eq_zero_iff.mp h0
   ·obtain ⟨ad, he, _⟩ := hr0.2.2 h0
    cases he
  subst hl
  obtain rfl : [] = r := by simpa [slices_Clone_Graph.f] using h
  clear h hr0 hc0
  have heq_ := fun (w : World) => Lib.run_eql_slice_nil (P := Tryd.prog) w 23 3 none 0 c0 0 0 Tryd.underlying23
  go_enter Tryd.func61, Tryd.ntmps61
  go_wp2
  go_ret
  exact ⟨_, rfl, Kd.R_nil _ _ _ _ _, Below.refl _ _⟩
end
noncomputable section
def lampblacklaw02_Few.f (l0 : List Int) : Option (List Int) := if 0 ≤ (mn (l0.length : Int) 13) then (if (mn (l0.length : Int) 13) ≤ (l0.length : Int) then ((slices_Clone_Graph.f (l0.take ((mn (l0.length : Int) 13) : Int).toNat)).bind fun t147 => (some t147)) else (none)) else (none)
set_option maxHeartbeats 8000000 in
set_option maxRecDepth 100000 in
theorem lampblacklaw02_Few.calls (A0 : Option Addr) (c0 : Nat) (l0 : List Int) (r : List Int) (w : World) (hr0 : Kd.C (Kd.int .i64) w A0 l0.length l0) (hc0 : l0.length ≤ c0) (h : lampblacklaw02_Few.f l0 = some r) :
  Calls Tryd.prog 19 #[.slice A0 l0.length c0] w fun e w' => ∃ v0_ : Value, e = .returned (v0_) ∧ Kd.R (Kd.int .i64) 3 w' w.heap.size (fun _ => True) v0_ r ∧ Below w.heap.size w w' := by
 have HR0 := Aside0.mk hr0
 have HC0 := Aside0.mk hc0
 clear hr0 hc0
 have HB := Aside0.mk (Below.refl w.heap.size w)
 have H : (if 0 ≤ (mn (l0.length : Int) 13) then (if (mn (l0.length : Int) 13) ≤ (l0.length : Int) then ((slices_Clone_Graph.f (l0.take ((mn (l0.length : Int) 13) : Int).toNat)).bind fun t147 => (some t147)) else (none)) else (none)) = some r := h
 clear h
 obtain ⟨ji2, hji2⟩ : ∃ j_ : Int, (mn (l0.length : Int) 13) = j_ := ⟨_, rfl⟩
 replace H : (if 0 ≤ (ji2) then (if (ji2) ≤ (l0.length : Int) then ((slices_Clone_Graph.f (l0.take ((ji2) : Int).toNat)).bind fun t147 => (some t147)) else (none)) else (none)) = some r := by first | (rw [hji2] at H; exact H) | (simp only [hji2] at H ⊢; exact H)
 (try (have hji2h : ji2 ≤ 13 := by (rw [← hji2]; unfold mn; (repeat' split) <;> omega)))
 (try (have hji2g : ji2 ≤ 64 := by omega))
 (try (have hji2l : 0 ≤ ji2 := by (rw [← hji2]; unfold mn; (repeat' split) <;> omega)))
 (try (have hji2m : 0 ≤ ji2 := by omega))
 have hji2_ : (if 13 < (l0.length : Int) then 13 else (l0.length : Int)) = ji2 := hji2
 by_cases c3 : 0 ≤ (ji2)
 ·rw [if_pos c3] at H
  have c3b0 := eq_true c3
  have c3b1 : decide (0 ≤ (ji2)) = true := decide_eq_true c3
  clear c3
  by_cases c4 : (ji2) ≤ (l0.length : Int)
  ·rw [if_pos c4] at H
   have c4b0 := eq_true c4
   have c4b1 : decide ((ji2) ≤ (l0.length : Int)) = true := decide_eq_true c4
   clear c4
   replace H := Option.bind_eq_some_iff.mp H
   obtain ⟨t147, A50, H⟩ := H
   replace H : (some t147) = some r := H
   have A5 := Aside0.mk A50
   clear A50
   obtain rfl := Option.some.inj H
   obtain ⟨i06, hi06, _, hsz6, _⟩ := info_parts info3
   obtain ⟨hcut6, hA6, hC6⟩ := print_take_of (P := Tryd.prog) (Value.int .i64) 0 23 3 .i64 Tryd.underlying23 hi06 hsz6 A0 c0 l0 (ji2) (of_decide_eq_true (Qas)) (of_decide_eq_true (Qas)) HC0.out
   have HR146 := Aside0.mk (Kd.C_of_reads (h1 := fun _ => rfl) (hA6 _ (Kd.reads_of_C HR0.out)))
   have HC146 := Aside0.mk hC6
   clear hA6 hC6 hi06 hsz6
   go_enter Tryd.func19, Tryd.ntmps19
   go_wp2_with (first | ((with_reducible refine gate_callee (f := 61) rfl ?_); refine goesL_ (some 8) rfl rfl Tryd.func61 (by kernel_rfl) rfl #[.slice A0 (l0.take ((ji2) : Int).toNat).length c0] rfl (by (try simp only [List.map_toArray, List.map_cons, List.map_nil]); first | done | (rw [show (l0.take ((ji2) : Int).toNat).length = (ji2).toNat from (by rw [List.length_take]; have h_ : ((ji2) : Int) ≤ (l0.length : Int) := of_decide_eq_true (Qas); omega)] <;> rfl) | (simp only [hji2]; rfl) | rfl | (simp only [List.length_drop, List.length_take]; rfl)) ?_; (with_reducible refine (slices_Clone_Graph.calls _ _ (l0.take ((ji2) : Int).toNat) t147 _ ?side1 ?side2 A5.out).mono ?_); (case side1 => exact Qsc HR146.out); (case side2 => exact HC146.out); rintro e w7 ⟨v148, rfl, ho0, hb⟩; refine ⟨_, rfl, ?_⟩; have n0_ := Aside0.mk (Kd.R_lower ho0 (below_size (Qaw))); have n1_ := Aside0.mk (below_step (Qaw) hb); clear HB; have HO149 := n0_; have HB := n1_; clear n0_ n1_; (try clear hb); (try clear hb2); (try clear hk); (try clear hi); (try clear ho0)))
   go_ret
   exact ⟨_, by first | rfl | (simp [errW_none, errW_some] <;> rfl) | (simp only [← hji2]; first | rfl | (simp [errW_none, errW_some] <;> rfl)) | (simp [*, errW_none, errW_some] <;> rfl), by (with_reducible repeat (first | apply Kd.R_alloc | apply Kd.R_drewN | apply Kd.R_drew)); exact HO149.out, by repeat (first | (with_reducible first | exact HB.out | apply below_alloc | apply pw_below_drewN | apply below_drew1) | exact HB.out)⟩
  ·rw [if_neg c4] at H
   exact absurd H (by simp)
 ·rw [if_neg c3] at H
  exact absurd H (by simp)
end
noncomputable section
def slices_Clone_int_int.f (l0 : List Int) : Option (List Int) := (some (([] : List Int) : List Int)).bind fun y279 => (if y279.length + l0.length < 17592186044416 then (some (y279 ++ l0)) else (none))
set_option maxHeartbeats 8000000 in
set_option maxRecDepth 100000 in
theorem slices_Clone_int_int.calls_some (a0 : Addr) (c0 : Nat) (l0 : List Int) (r : List Int) (w : World) (hr0 : Kd.C (Kd.int .i64) w (some a0) l0.length l0) (hc0 : l0.length ≤ c0) (h : slices_Clone_int_int.f l0 = some r) :
  Calls Tryd.prog 72 #[.slice (some a0) l0.length c0] w fun e w' => ∃ v0_ : Value, e = .returned (v0_) ∧ Kd.R (Kd.int .i64) 3 w' w.heap.size (fun _ => True) v0_ r ∧ Below w.heap.size w w' := by
 have HR0 := Aside0.mk hr0
 have HC0 := Aside0.mk hc0
 clear hr0 hc0
 have HB := Aside0.mk (Below.refl w.heap.size w)
 have H : ((some (([] : List Int) : List Int)).bind fun y279 => (if y279.length + l0.length < 17592186044416 then (some (y279 ++ l0)) else (none))) = some r := h
 clear h
 obtain ⟨y279, hy279⟩ : ∃ y_ : List Int, y_ = (([] : List Int)) := ⟨_, rfl⟩
 replace H : (if y279.length + l0.length < 17592186044416 then (some (y279 ++ l0)) else (none)) = some r := by first | (rw [hy279]; with_reducible exact H) | (have H2_ := (Option.bind_some _ _).symm.trans H; rw [hy279]; with_reducible exact H2_) | (have H2_ := (Option.bind_some _ _).symm.trans H; with_reducible exact H2_) | with_reducible exact H | (rw [hy279]; exact H) | exact H
 have Ny279 := Aside0.mk hy279
 clear hy279
 by_cases c2 : y279.length + l0.length < 17592186044416
 ·rw [if_pos c2] at H
  have LMc2 := Aside0.mk c2
  clear c2
  obtain ⟨y282, hy282⟩ : ∃ y_ : List Int, y_ = (y279 ++ l0) := ⟨_, rfl⟩
  replace H : (some y282) = some r := by first | (rw [hy282]; with_reducible exact H) | (have H2_ := (Option.bind_some _ _).symm.trans H; rw [hy282]; with_reducible exact H2_) | (have H2_ := (Option.bind_some _ _).symm.trans H; with_reducible exact H2_) | with_reducible exact H | (rw [hy282]; exact H) | exact H
  have Ny282 := Aside0.mk hy282
  clear hy282
  obtain rfl := Option.some.inj H
  have heq_ := fun (w : World) => Lib.run_eql_slice_nil (P := Tryd.prog) w 22 3 (some a0) l0.length c0 0 0 Tryd.underlying22
  go_enter Tryd.func72, Tryd.ntmps72
  go_wp2_with (first | ((with_reducible refine gate_dst (N := 5) rfl ?_); refine Kd.R_lit (Kd.int .i64) _ 3 ?hg (N := 5) ?hd (xs := ([] : List Int)) (inner := []) (ok := fun _ => True) (okp := fun _ => True) ?hr ?hp (fun _ hk => hk) trivial (Below.refl _ _) (Nat.le_refl _) (by simp) ?_; (case hd => rfl); (case hg => rfl); (case hr => first | (go_simp; done) | (go_simp; rfl)); (case hp => exact (Reps.none _ _)); intro v280 w3 ho4 hb hg_ hnew_; clear hg_ hnew_; (first | rw [← Ny279.out] at ho4 | (simp only [Int.reduceToNat] at ho4; rw [← Ny279.out] at ho4)); have n0_ := Aside0.mk (Kd.R_lower ho4 (below_size (Qaw))); have n1_ := Aside0.mk (below_step (Qaw) hb); clear HB; have HO281 := n0_; have HB := n1_; clear n0_ n1_; clear hb ho4) | ((with_reducible refine gate_builtin (b := .append) (xs := #[.tmp 5, .tmp 6]) rfl ?_); at_builtin; refine Kd.R_append_rows (Kd.int .i64) (w0 := w) w.heap.size rfl (.tmp 5) (.tmp 6) 22 3 (.int .i64 0) 8 rfl Tryd.underlying22 info3 rfl (by decide) (by omega) v280 y279 l0 _ _ _ (fun _ => True) (fun _ => False) rfl rfl ?aO ?aR (fun _ _ h => h) (fun _ h => h.elim) ?aF ?aB ?aS ?aL ?_; (case aR => exact Qsc (Kd.C_below HR0.out HB.out)); (case aB => exact (Qaw)); (case aF => exact (fun _ _ => trivial)); (case aO => exact (Qro HO281.out)); (case aS => exact (below_size (Qaw))); (case aL => have := LMc2.out; omega); intro v283 w5 ho hb hg hat; rw [← Ny282.out] at ho; have n0_ := Aside0.mk (hb); have n1_ := Aside0.mk (ho); clear HB; clear HO281; have HB := n0_; have HO284 := n1_; clear n0_ n1_; clear ho hb hg hat))
  go_ret
  exact ⟨_, by first | rfl | (simp [errW_none, errW_some] <;> rfl) | (simp [*, errW_none, errW_some] <;> rfl), by (with_reducible repeat (first | apply Kd.R_alloc | apply Kd.R_drewN | apply Kd.R_drew)); exact HO284.out, by repeat (first | (with_reducible first | exact HB.out | apply below_alloc | apply pw_below_drewN | apply below_drew1) | exact HB.out)⟩
 ·rw [if_neg c2] at H
  exact absurd H (by simp)
theorem slices_Clone_int_int.calls (A0 : Option Addr) (c0 : Nat) (l0 : List Int) (r : List Int) (w : World) (hr0 : Kd.C (Kd.int .i64) w A0 l0.length l0) (hc0 : l0.length ≤ c0) (h : slices_Clone_int_int.f l0 = some r) :
  Calls Tryd.prog 72 #[.slice A0 l0.length c0] w fun e w' => ∃ v0_ : Value, e = .returned (v0_) ∧ Kd.R (Kd.int .i64) 3 w' w.heap.size (fun _ => True) v0_ r ∧ Below w.heap.size w w' := by
 cases A0 with
 | some a0 => exact slices_Clone_int_int.calls_some a0 c0 l0 r w hr0 hc0 h
 | none =>
  have hl : l0 = [] := by
   rcases Nat.eq_zero_or_pos l0.length with h0 | h0
   ·exact List.length_eq_zero_iff.mp h0
   ·obtain ⟨ad, he, _⟩ := hr0.2.2 h0
    cases he
  subst hl
  obtain rfl : [] = r := by simpa [slices_Clone_int_int.f] using h
  clear h hr0 hc0
  have heq_ := fun (w : World) => Lib.run_eql_slice_nil (P := Tryd.prog) w 22 3 none 0 c0 0 0 Tryd.underlying22
  go_enter Tryd.func72, Tryd.ntmps72
  go_wp2
  go_ret
  exact ⟨_, rfl, Kd.R_nil _ _ _ _ _, Below.refl _ _⟩
end
noncomputable section
def lampblacklaw02_list.f (l0 : List Int) : Option (List Int) := if 0 ≤ (mn (l0.length : Int) 210) then (if (mn (l0.length : Int) 210) ≤ (l0.length : Int) then ((slices_Clone_int_int.f (l0.take ((mn (l0.length : Int) 210) : Int).toNat)).bind fun t286 => (some t286)) else (none)) else (none)
set_option maxHeartbeats 8000000 in
set_option maxRecDepth 100000 in
theorem lampblacklaw02_list.calls (A0 : Option Addr) (c0 : Nat) (l0 : List Int) (r : List Int) (w : World) (hr0 : Kd.C (Kd.int .i64) w A0 l0.length l0) (hc0 : l0.length ≤ c0) (h : lampblacklaw02_list.f l0 = some r) :
  Calls Tryd.prog 31 #[.slice A0 l0.length c0] w fun e w' => ∃ v0_ : Value, e = .returned (v0_) ∧ Kd.R (Kd.int .i64) 3 w' w.heap.size (fun _ => True) v0_ r ∧ Below w.heap.size w w' := by
 have HR0 := Aside0.mk hr0
 have HC0 := Aside0.mk hc0
 clear hr0 hc0
 have HB := Aside0.mk (Below.refl w.heap.size w)
 have H : (if 0 ≤ (mn (l0.length : Int) 210) then (if (mn (l0.length : Int) 210) ≤ (l0.length : Int) then ((slices_Clone_int_int.f (l0.take ((mn (l0.length : Int) 210) : Int).toNat)).bind fun t286 => (some t286)) else (none)) else (none)) = some r := h
 clear h
 obtain ⟨ji2, hji2⟩ : ∃ j_ : Int, (mn (l0.length : Int) 210) = j_ := ⟨_, rfl⟩
 replace H : (if 0 ≤ (ji2) then (if (ji2) ≤ (l0.length : Int) then ((slices_Clone_int_int.f (l0.take ((ji2) : Int).toNat)).bind fun t286 => (some t286)) else (none)) else (none)) = some r := by first | (rw [hji2] at H; exact H) | (simp only [hji2] at H ⊢; exact H)
 (try (have hji2h : ji2 ≤ 210 := by (rw [← hji2]; unfold mn; (repeat' split) <;> omega)))
 (try (have hji2g : ji2 ≤ 64 := by omega))
 (try (have hji2l : 0 ≤ ji2 := by (rw [← hji2]; unfold mn; (repeat' split) <;> omega)))
 (try (have hji2m : 0 ≤ ji2 := by omega))
 have hji2_ : (if 210 < (l0.length : Int) then 210 else (l0.length : Int)) = ji2 := hji2
 by_cases c3 : 0 ≤ (ji2)
 ·rw [if_pos c3] at H
  have c3b0 := eq_true c3
  have c3b1 : decide (0 ≤ (ji2)) = true := decide_eq_true c3
  clear c3
  by_cases c4 : (ji2) ≤ (l0.length : Int)
  ·rw [if_pos c4] at H
   have c4b0 := eq_true c4
   have c4b1 : decide ((ji2) ≤ (l0.length : Int)) = true := decide_eq_true c4
   clear c4
   replace H := Option.bind_eq_some_iff.mp H
   obtain ⟨t286, A50, H⟩ := H
   replace H : (some t286) = some r := H
   have A5 := Aside0.mk A50
   clear A50
   obtain rfl := Option.some.inj H
   obtain ⟨i06, hi06, _, hsz6, _⟩ := info_parts info3
   obtain ⟨hcut6, hA6, hC6⟩ := print_take_of (P := Tryd.prog) (Value.int .i64) 0 22 3 .i64 Tryd.underlying22 hi06 hsz6 A0 c0 l0 (ji2) (of_decide_eq_true (Qas)) (of_decide_eq_true (Qas)) HC0.out
   have HR285 := Aside0.mk (Kd.C_of_reads (h1 := fun _ => rfl) (hA6 _ (Kd.reads_of_C HR0.out)))
   have HC285 := Aside0.mk hC6
   clear hA6 hC6 hi06 hsz6
   go_enter Tryd.func31, Tryd.ntmps31
   go_wp2_with (first | ((with_reducible refine gate_callee (f := 72) rfl ?_); refine goesL_ (some 8) rfl rfl Tryd.func72 (by kernel_rfl) rfl #[.slice A0 (l0.take ((ji2) : Int).toNat).length c0] rfl (by (try simp only [List.map_toArray, List.map_cons, List.map_nil]); first | done | (rw [show (l0.take ((ji2) : Int).toNat).length = (ji2).toNat from (by rw [List.length_take]; have h_ : ((ji2) : Int) ≤ (l0.length : Int) := of_decide_eq_true (Qas); omega)] <;> rfl) | (simp only [hji2]; rfl) | rfl | (simp only [List.length_drop, List.length_take]; rfl)) ?_; (with_reducible refine (slices_Clone_int_int.calls _ _ (l0.take ((ji2) : Int).toNat) t286 _ ?side1 ?side2 A5.out).mono ?_); (case side1 => exact Qsc HR285.out); (case side2 => exact HC285.out); rintro e w7 ⟨v287, rfl, ho0, hb⟩; refine ⟨_, rfl, ?_⟩; have n0_ := Aside0.mk (Kd.R_lower ho0 (below_size (Qaw))); have n1_ := Aside0.mk (below_step (Qaw) hb); clear HB; have HO288 := n0_; have HB := n1_; clear n0_ n1_; (try clear hb); (try clear hb2); (try clear hk); (try clear hi); (try clear ho0)))
   go_ret
   exact ⟨_, by first | rfl | (simp [errW_none, errW_some] <;> rfl) | (simp only [← hji2]; first | rfl | (simp [errW_none, errW_some] <;> rfl)) | (simp [*, errW_none, errW_some] <;> rfl), by (with_reducible repeat (first | apply Kd.R_alloc | apply Kd.R_drewN | apply Kd.R_drew)); exact HO288.out, by repeat (first | (with_reducible first | exact HB.out | apply below_alloc | apply pw_below_drewN | apply below_drew1) | exact HB.out)⟩
  ·rw [if_neg c4] at H
   exact absurd H (by simp)
 ·rw [if_neg c3] at H
  exact absurd H (by simp)
end
noncomputable section
def lampblacklaw02_Of.f (l0_0 : List Int) (l0_1 : List Int) : Option (List Int × List Int) := (lampblacklaw02_list.f l0_0).bind fun t411 => ((lampblacklaw02_list.f l0_1).bind fun t414 => (some (t411, t414)))
def lampblacklaw02_Of.T1 : Bool × List (List Nat × List Nat) := (true, [([], []), ([0], [0]), ([1], [1]), ([], []), ([3], [3]), ([4, 2], [4]), ([2, 5], [2, 5]), ([6, 5, 0, 1, 2, 3, 4, 5, 6], [6])])
def lampblacklaw02_Of.B1 : List Nat := [0, 1, 3, 0, 8, 31, 63, 127]
theorem lampblacklaw02_Of.tab1 : rtab .any (opsOf Tryd.f44 1) = lampblacklaw02_Of.T1 := by kernel_rfl
theorem lampblacklaw02_Of.bits1 : waitsOk lampblacklaw02_Of.T1.2 lampblacklaw02_Of.B1 = true := by kernel_rfl
set_option maxHeartbeats 8000000 in
set_option maxRecDepth 100000 in
theorem lampblacklaw02_Of.calls (A0_0 : Option Addr) (c0_0 : Nat) (l0_0 : List Int) (A0_1 : Option Addr) (c0_1 : Nat) (l0_1 : List Int) (r1 : List Int) (r2 : List Int) (w : World) (hr0_0 : Kd.C (Kd.int .i64) w A0_0 l0_0.length l0_0) (hc0_0 : l0_0.length ≤ c0_0) (hr0_1 : Kd.C (Kd.int .i64) w A0_1 l0_1.length l0_1) (hc0_1 : l0_1.length ≤ c0_1) (h : lampblacklaw02_Of.f l0_0 l0_1 = some (r1, r2)) :
  Calls Tryd.prog 44 #[.agg #[.slice A0_0 l0_0.length c0_0, .slice A0_1 l0_1.length c0_1]] w fun e w' => ∃ v0_ v1_ : Value, e = .returned (.agg #[v0_, v1_]) ∧ Kd.R (Kd.int .i64) 3 w' w.heap.size (fun k_ => some k_ ≠ (v1_ : Value).ownBlock) v0_ r1 ∧ Kd.R (Kd.int .i64) 3 w' w.heap.size (fun k_ => some k_ ≠ (v0_ : Value).ownBlock) v1_ r2 ∧ Below w.heap.size w w' := by
 have hu52 := Tryd.underlying52
 have hu53 := Tryd.underlying53
 have HR0_0 := Aside0.mk hr0_0
 have HC0_0 := Aside0.mk hc0_0
 clear hr0_0 hc0_0
 have HR0_1 := Aside0.mk hr0_1
 have HC0_1 := Aside0.mk hc0_1
 clear hr0_1 hc0_1
 have HB := Aside0.mk (Below.refl w.heap.size w)
 have H : ((lampblacklaw02_list.f l0_0).bind fun t411 => ((lampblacklaw02_list.f l0_1).bind fun t414 => (some (t411, t414)))) = some (r1, r2) := h
 clear h
 replace H := Option.bind_eq_some_iff.mp H
 obtain ⟨t411, A20, H⟩ := H
 replace H : ((lampblacklaw02_list.f l0_1).bind fun t414 => (some (t411, t414))) = some (r1, r2) := H
 have A2 := Aside0.mk A20
 clear A20
 replace H := Option.bind_eq_some_iff.mp H
 obtain ⟨t414, A30, H⟩ := H
 replace H : (some (t411, t414)) = some (r1, r2) := H
 have A3 := Aside0.mk A30
 clear A30
 simp only [Option.some.injEq, Prod.mk.injEq] at H
 obtain ⟨rfl, rfl⟩ := H
 go_enter Tryd.func44, Tryd.ntmps44
 try go_wp2_with (first | ((with_reducible refine gate_dst (N := 1) rfl ?_); refine box_event ?hg (N := 1) ?hd (cs := #[.slice A0_0 l0_0.length c0_0, .slice A0_1 l0_1.length c0_1]) (t := 52) ?hr ?_; (case hd => rfl); (case hg => rfl); (case hr => first | (go_simp; done) | (go_simp; rfl)); intro gb409 hg w4 hbox hb; have n0_ := Aside0.mk (below_step (Qaw) hb); have n1_ := Aside0.mk (hbox); have n2_ := Aside0.mk ((by rw [hg]; exact (below_size (Qaw)) : w.heap.size ≤ gb409)); have n3_ := Aside0.mk ((by rw [hg]; exact (below_size (Qaw)) : w.heap.size ≤ gb409)); clear HB; have HB := n0_; have BK409 := n1_; have GW409 := n2_; have GE409 := n3_; clear n0_ n1_ n2_ n3_; clear hb hbox hg) | ((with_reducible refine gate_dst (N := 2) rfl ?_); refine box_event ?hg (N := 2) ?hd (cs := #[.slice none 0 0, .slice none 0 0]) (t := 53) ?hr ?_; (case hd => rfl); (case hg => rfl); (case hr => first | (go_simp; done) | (go_simp; rfl)); intro gb410 hg w5 hbox hb; have n0_ := Aside0.mk (blk_below (g := gb409) (o := .cells #[.slice A0_0 l0_0.length c0_0, .slice A0_1 l0_1.length c0_1] 52 (0, 0)) (Qbl BK409.out) hb); have n1_ := Aside0.mk (below_step (Qag GE409.out) hb); have n2_ := Aside0.mk (hbox); have n3_ := Aside0.mk ((by rw [hg]; exact (below_size (Qag GE409.out)) : w.heap.size ≤ gb410)); have n4_ := Aside0.mk ((by rw [hg]; exact (below_size (Qag GE409.out)) : w.heap.size ≤ gb410)); have n5_ := Aside0.mk ((by rw [hg]; exact Nat.ne_of_lt (blk_lt (g := gb409) (o := .cells #[.slice A0_0 l0_0.length c0_0, .slice A0_1 l0_1.length c0_1] 52 (0, 0)) (Qbl BK409.out)) : gb409 ≠ gb410)); have n6_ := Aside0.mk ((by rw [hg]; exact Nat.ne_of_gt (blk_lt (g := gb409) (o := .cells #[.slice A0_0 l0_0.length c0_0, .slice A0_1 l0_1.length c0_1] 52 (0, 0)) (Qbl BK409.out)) : gb410 ≠ gb409)); clear BK409; clear HB; have BK409 := n0_; have HB := n1_; have BK410 := n2_; have GW410 := n3_; have GE410 := n4_; have NB409_410 := n5_; have NB410_409 := n6_; clear n0_ n1_ n2_ n3_ n4_ n5_ n6_; clear hb hbox hg))
 have n0_ := Aside0.mk (blk_drew BK409.out)
 have n1_ := Aside0.mk (blk_drew BK410.out)
 have n2_ := Aside0.mk (below_drew1 HB.out)
 clear BK409
 clear BK410
 clear HB
 have BK409 := n0_
 have BK410 := n1_
 have HB := n2_
 clear n0_ n1_ n2_
 refine start_ (n := 8) (S := fun w' => w'.cell? ⟨gb409, 0, none⟩ = some (.slice A0_0 l0_0.length c0_0) ∧ w'.cell? ⟨gb409, 1, none⟩ = some (.slice A0_1 l0_1.length c0_1)) (ds := []) (Qbz 8 0) (by kernel_rfl) rfl rfl ⟨(blk_cell BK409.out 0).trans rfl, (blk_cell BK409.out 1).trans rfl⟩ (fun hHeld => ?_); refine with_tabW lampblacklaw02_Of.tab1 lampblacklaw02_Of.bits1 (fun HT_ HW_ => ?_)
 generalize w5.drew = w6 at BK409 BK410 HB hHeld ⊢
 refine pure_ (i := 0) (N := some 3) (v := ?_) (a' := ?_) (Qbz 8 1) rfl rfl (Qao) (fun _ _ _ h => h) (Or.inl ⟨by rfl, ?_⟩) ?_ ?_
 rotate_left
 ·intro w'
  go_simp
  with_reducible rfl
 rotate_left
 ·simp only [Act.put, Qp1, Qp2, Qp3, i64_w, i32_w]
  rfl
 refine pure_ (i := 3) (N := some 6) (v := ?_) (a' := ?_) (Qbz 8 9) rfl rfl (Qao) (fun _ _ _ h => h) (Or.inl ⟨by rfl, ?_⟩) ?_ ?_
 rotate_left
 ·intro w'
  go_simp
  with_reducible rfl
 rotate_left
 ·simp only [Act.put, Qp1, Qp2, Qp3, i64_w, i32_w]
  rfl
 refine take_ (i := 1) (N := some 4) (v := ?_) (a' := ?_) (Qbz 8 11) rfl rfl (take_ofW HT_.out HW_.out (by kernel_rfl)) (fun _ _ _ h => h) (Or.inl ⟨by rfl, ?_⟩) hHeld ?_ ?_
 rotate_left
 ·rintro w' ⟨s0, s1⟩
  go_simp
  with_reducible rfl
 rotate_left
 ·simp only [Act.put, Qp1, Qp2, Qp3, i64_w, i32_w]
  rfl
 refine take_ (i := 4) (N := some 7) (v := ?_) (a' := ?_) (Qbz 8 27) rfl rfl (take_ofW HT_.out HW_.out (by kernel_rfl)) (fun _ _ _ h => h) (Or.inl ⟨by rfl, ?_⟩) hHeld ?_ ?_
 rotate_left
 ·rintro w' ⟨s0, s1⟩
  go_simp
  with_reducible rfl
 rotate_left
 ·simp only [Act.put, Qp1, Qp2, Qp3, i64_w, i32_w]
  rfl
 refine one_ (i := 2) (N := some 5) (Qbz 8 31) rfl rfl (one_of HT_.out (by kernel_rfl)) (by decide) (fun K hK => ?_)
 refine goes_ Tryd.func31 (by kernel_rfl) rfl #[.slice A0_0 l0_0.length c0_0] (by rfl) rfl rfl (Qls) ?_
 with_reducible refine (lampblacklaw02_list.calls _ _ l0_0 t411 _ ?side1 ?side2 A2.out).mono ?_
 (case side1 => exact Qsc (Kd.C_below HR0_0.out HB.out))
 (case side2 => exact HC0_0.out)
 rintro e w7 ⟨v412, rfl, ho0, hb⟩
 refine ⟨_, rfl, ?_⟩
 have n0_ := Aside0.mk (Kd.R_lower ho0 (below_size (Qah GE409.out GE410.out)))
 have n1_ := Aside0.mk (blk_below (g := gb409) (o := .cells #[.slice A0_0 l0_0.length c0_0, .slice A0_1 l0_1.length c0_1] 52 (0, 0)) (Qbl BK409.out) hb)
 have n2_ := Aside0.mk (blk_below (g := gb410) (o := .cells #[.slice none 0 0, .slice none 0 0] 53 (0, 0)) (Qbl BK410.out) hb)
 have n3_ := Aside0.mk (below_step (Qah GE409.out GE410.out) hb)
 clear BK409
 clear BK410
 clear HB
 have HO413 := n0_
 have BK409 := n1_
 have BK410 := n2_
 have HB := n3_
 clear n0_ n1_ n2_ n3_
 (try clear hb)
 (try clear hb2)
 (try clear hk)
 (try clear hi)
 (try clear ho0)
 refine hK.out _ _ ⟨(blk_cell BK409.out 0).trans rfl, (blk_cell BK409.out 1).trans rfl⟩ (fun hHeld => ?_)
 clear hK K
 refine norm_ (a' := ?_) ?_ ?_
 rotate_left
 ·show Act.put _ (some 5) _ = _
  simp only [Act.put, Qp1, Qp2, Qp3, i64_w, i32_w]
  rfl
 refine one_ (i := 5) (N := some 8) (Qbz 8 63) rfl rfl (one_of HT_.out (by kernel_rfl)) (by decide) (fun K hK => ?_)
 refine goes_ Tryd.func31 (by kernel_rfl) rfl #[.slice A0_1 l0_1.length c0_1] (by rfl) rfl rfl (Qls) ?_
 with_reducible refine (lampblacklaw02_list.calls _ _ l0_1 t414 _ ?side1 ?side2 A3.out).mono ?_
 (case side1 => exact Qsc (Kd.C_below HR0_1.out HB.out))
 (case side2 => exact HC0_1.out)
 rintro e w8 ⟨v415, rfl, ho0, hb⟩
 refine ⟨_, rfl, ?_⟩
 have n0_ := Aside0.mk (Kd.R_elder' (Qro HO413.out) (Kd.R_base ho0) hb)
 have n1_ := Aside0.mk (Kd.R_lower (Kd.R_new' ho0 (Kd.R_lt (Qro HO413.out))) (below_size (Qah GE409.out GE410.out)))
 have n2_ := Aside0.mk (blk_below (g := gb409) (o := .cells #[.slice A0_0 l0_0.length c0_0, .slice A0_1 l0_1.length c0_1] 52 (0, 0)) (Qbl BK409.out) hb)
 have n3_ := Aside0.mk (blk_below (g := gb410) (o := .cells #[.slice none 0 0, .slice none 0 0] 53 (0, 0)) (Qbl BK410.out) hb)
 have n4_ := Aside0.mk (below_step (Qah GE409.out GE410.out) hb)
 clear HO413
 clear BK409
 clear BK410
 clear HB
 have HO413 := n0_
 have HO416 := n1_
 have BK409 := n2_
 have BK410 := n3_
 have HB := n4_
 clear n0_ n1_ n2_ n3_ n4_
 (try clear hb)
 (try clear hb2)
 (try clear hk)
 (try clear hi)
 (try clear ho0)
 obtain ⟨Ao9, co9, eo9⟩ := Kd.R_slice HO416.out
 (first | subst eo9 | (injection eo9 with f1_ f2_ f3_; have f4_ := f1_.symm; have f5_ := f3_.symm; clear f1_ f2_ f3_; subst f4_; subst f5_))
 obtain ⟨Ao10, co10, eo10⟩ := Kd.R_slice HO413.out
 (first | subst eo10 | (injection eo10 with f1_ f2_ f3_; have f4_ := f1_.symm; have f5_ := f3_.symm; clear f1_ f2_ f3_; subst f4_; subst f5_))
 refine hK.out _ _ ⟨(blk_cell BK409.out 0).trans rfl, (blk_cell BK409.out 1).trans rfl⟩ (fun hHeld => ?_)
 clear hK K
 refine norm_ (a' := ?_) ?_ ?_
 rotate_left
 ·show Act.put _ (some 8) _ = _
  simp only [Act.put, Qp1, Qp2, Qp3, i64_w, i32_w]
  rfl
 refine pure_ (i := 6) (N := some 9) (v := ?_) (a' := ?_) (Qbz 8 127) rfl rfl (Qao) (fun _ _ _ h => h) (Or.inl ⟨by rfl, ?_⟩) ?_ ?_
 rotate_left
 ·intro w'
  go_simp
  with_reducible rfl
 rotate_left
 ·simp only [Act.put, Qp1, Qp2, Qp3, i64_w, i32_w]
  rfl
 refine one_ (i := 7) (N := none) (Qbz 8 255) rfl rfl (one_of HT_.out (by kernel_rfl)) (by decide) (fun K hK => ?_)
 have hs11 : w8.cell? ⟨gb410, 0, none⟩ = some (.slice none 0 0) := (blk_cell BK410.out 0).trans rfl
 have hfs11 := blk_frozen BK410.out 0
 have hns11_0 := NB409_410.out
 have hms11_0 := NB410_409.out
 have hs12 : w8.cell? ⟨gb410, 1, none⟩ = some (.slice none 0 0) := (blk_cell BK410.out 1).trans rfl
 have hfs12 := blk_frozen BK410.out 1
 have hns12_0 := NB409_410.out
 have hms12_0 := NB410_409.out
 refine skip_ (w1 := ?_) (by rfl) rfl ?_ ?_
 rotate_left
 ·go_simp
  rfl
 refine hK.out _ _ ⟨((cell_far (p := ⟨gb410, _, none⟩) NB409_410.out _).trans (((cell_far (p := ⟨gb410, _, none⟩) NB409_410.out _).trans (hHeld.1)))), ((cell_far (p := ⟨gb410, _, none⟩) NB409_410.out _).trans (((cell_far (p := ⟨gb410, _, none⟩) NB409_410.out _).trans (hHeld.2))))⟩ (fun hHeld => ?_)
 clear hK K
 refine done_ (done_of HT_.out (by kernel_rfl)) ?_
 try go_wp2
 refine bodyPost_ret (results_cell_row rfl _ _ gb410 53 #[.slice Ao10 t411.length co10, .slice Ao9 t414.length co9] (0, 0) _ rfl (by (with_reducible repeat (first | refine blk_drewN ?_ _ | refine blk_drew ?_ | refine blk_alloc ?_ _)); refine blk_put (cs := #[.slice Ao10 t411.length co10, .slice none 0 0]) ?_ 1 _ rfl; (with_reducible repeat (first | refine blk_drewN ?_ _ | refine blk_drew ?_ | refine blk_alloc ?_ _)); refine blk_put (cs := #[.slice none 0 0, .slice none 0 0]) ?_ 0 _ rfl; (with_reducible repeat (first | refine blk_drewN ?_ _ | refine blk_drew ?_ | refine blk_alloc ?_ _)); exact BK410.out) Tryd.underlying53 rfl (by kernel_rfl)) rfl ?_
 exact ⟨_, _, by first | rfl | (simp [errW_none, errW_some] <;> rfl) | (simp [*, errW_none, errW_some] <;> rfl), by (with_reducible repeat (first | apply Kd.R_alloc | apply Kd.R_drewN | apply Kd.R_drew)); exact Kd.R_mono (Kd.R_far (p := ⟨gb410, 1, none⟩) (Kd.R_far (p := ⟨gb410, 0, none⟩) (Kd.R_types HO413.out BK410.out (by decide)) (fun _ hk => hk.2) (.slice Ao10 t411.length co10)) (fun _ hk => hk.2) (.slice Ao9 t414.length co9)) (fun _ hk => hk.1.2), by (with_reducible repeat (first | apply Kd.R_alloc | apply Kd.R_drewN | apply Kd.R_drew)); exact Kd.R_mono (Kd.R_far (p := ⟨gb410, 1, none⟩) (Kd.R_far (p := ⟨gb410, 0, none⟩) (Kd.R_types HO416.out BK410.out (by decide)) (fun _ hk => hk.2) (.slice Ao10 t411.length co10)) (fun _ hk => hk.2) (.slice Ao9 t414.length co9)) (fun _ hk => hk.1.2), by repeat (first | (with_reducible first | exact HB.out | apply below_alloc | apply pw_below_drewN | apply below_drew1 | refine below_set ?_ GE409.out | refine below_set ?_ GE410.out) | exact HB.out)⟩
end
end Go.Proofs.YtoffehihicabcaaDoor.X
end
section
namespace Go.Proofs.YtoffehihicabcaaDoor.X
open Go.RowKit YtoffehihicabcaaDoorW.PrintWords YtoffehihicabcaaDoorW.PrintLast YtoffehihicabcaaDoorW.PrintMore
theorem own_lt2 {W : World} {base : Nat} {e : TypeId} {size : Nat} {v : Value} {k : Nat} {xs : List Value} (h : W.ownsRow base e size v k xs) (b : Nat) (hb : v.ownBlock = some b) : b < W.heap.size := by
 rcases h.2 with ⟨rfl, _⟩ | ⟨g, cap, cur, rfl, _, hg, _⟩
 ·simp [Value.ownBlock] at hb
 ·obtain rfl : g = b := by simpa [Value.ownBlock] using hb
  exact (Array.getElem?_eq_some_iff.1 hg).1
theorem own_base2 {W : World} {base : Nat} {e : TypeId} {size : Nat} {v : Value} {k : Nat} {xs : List Value} (h : W.ownsRow base e size v k xs) (b : Nat) (hb : v.ownBlock = some b) : base ≤ b := by
 rcases h.2 with ⟨rfl, _⟩ | ⟨g, cap, cur, rfl, hg, _⟩
 ·simp [Value.ownBlock] at hb
 ·obtain rfl : g = b := by simpa [Value.ownBlock] using hb
  exact hg
theorem own_succ {W : World} {base : Nat} {e : TypeId} {size : Nat} {v : Value} {k : Nat} {xs : List Value} (h : W.ownsRow base e size v (k + 1) xs) : ∃ g cap, v = .slice (some ⟨g, 0, none⟩) (k + 1) cap := by
 rcases h.2 with ⟨_, h0⟩ | ⟨g, cap, cur, rfl, _⟩
 ·omega
 ·exact ⟨g, cap, rfl⟩
theorem grown_then {a b c : World} {r : Option Nat} (h : a.grownBy b r) (k : b.grownBy c r) : a.grownBy c r := h.trans k
theorem grown_new {a b c : World} {r q : Option Nat} (h : a.grownBy b r) (k : b.grownBy c q) (hq : ∀ j, q = some j → a.heap.size ≤ j ∨ some j = r) : a.grownBy c r :=
 ⟨k.os.trans h.os, k.tape.trans h.tape, k.output.trans h.output, Nat.le_trans h.size k.size, fun i hi hne => (k.block i (Nat.lt_of_lt_of_le hi h.size) (fun e => (hq i e.symm).elim (fun h => by omega) hne)).trans (h.block i hi hne)⟩
end Go.Proofs.YtoffehihicabcaaDoor.X
end
section
namespace Go.Proofs.YtoffehihicabcaaDoor.X
open Go.RowKit YtoffehihicabcaaDoorW.PrintWords YtoffehihicabcaaDoorW.PrintLast YtoffehihicabcaaDoorW.PrintMore Go.Shelf
def renD : Ren := ⟨fun _ => 103, fun x => x, fun x => x⟩
theorem laysD : Lays2.n23 Tryd.prog renD where
 mixed := by kernel_rfl
 f23 := by kernel_rfl
 t0 := by kernel_rfl
 a0 := fun w => by kernel_rfl
 z0 := fun w => by kernel_rfl
 v0 := fun w => by kernel_rfl
 t3 := by kernel_rfl
 a3 := fun w => by kernel_rfl
 z3 := fun w => by kernel_rfl
 v3 := fun w => by kernel_rfl
 t4 := by kernel_rfl
 a4 := fun w => by kernel_rfl
 z4 := fun w => by kernel_rfl
 v4 := fun w => by kernel_rfl
 t22 := by kernel_rfl
 a22 := fun w => by kernel_rfl
 z22 := fun w => by kernel_rfl
 v22 := fun w => by kernel_rfl
 i3 := by kernel_rfl
theorem put_own {W : World} {base g n cap q : Nat} {xs : List Int} {d : Array Int} (h : W.ownsRow base 3 1 (.slice (some ⟨g, 0, none⟩) n cap) n (xs.map (Value.int .i64))) (hd : d.size = n) (m : Nat) (hm : m ≤ n) :
  (Sort.putRow (Value.int .i64) (Sort.ahead W q) g 0 d).ownsRow base 3 1 (.slice (some ⟨g, 0, none⟩) m cap) m ((d.toList.take m).map (Value.int .i64)) := by
 obtain ⟨h1, h2⟩ := h
 rcases h2 with ⟨h2, _⟩ | ⟨g2, cap2, cur, e, hg, hh, hc, hmx, hs, hx⟩
 ·cases h2
 ·injection e with e1 e2 e3
  injection e1 with e1
  injection e1 with e1
  subst e1 e3
  refine ⟨by simp; omega, .inr ⟨g, cap, Sort.putCells (Value.int .i64) 0 d cur, rfl, hg, ?_, by omega, hmx, by simp [Sort.putCells, hs], ?_⟩⟩
  ·have hh2 : W.heap[g]? = some (.cells cur 3 (0, 0)) := hh
   simp [Sort.putRow, Sort.mapBlock, Sort.ahead, Array.getElem?_modify, hh2, Sort.onCells]
  ·apply List.ext_getElem?
   intro k
   by_cases hk : k < m
   ·have hk2 : k < cur.size := by omega
    rw [List.getElem?_take, if_pos (by omega), List.getElem?_map, List.getElem?_take, if_pos hk, Array.getElem?_toList, Array.getElem?_toList]
    simp only [Sort.putCells, Array.getElem?_mapIdx, Array.getElem?_eq_getElem hk2, Option.map_some, Nat.zero_add, Nat.sub_zero]
    rw [if_pos ⟨by omega, by omega⟩, Array.getElem?_eq_getElem (show k < d.size by omega), Option.map_some, getElem!_pos d k (by omega)]
   ·rw [List.getElem?_eq_none (by simp; omega), List.getElem?_eq_none (by simp; omega)]
theorem put_grown (W : World) (g q : Nat) (d : Array Int) : W.grownBy (Sort.putRow (Value.int .i64) (Sort.ahead W q) g 0 d) (some g) :=
 ⟨rfl, rfl, rfl, by simp, fun k hk hne => by
  have : g ≠ k := fun e => hne (by rw [e])
  simp [Sort.putRow, Sort.mapBlock, Sort.ahead, Array.getElem?_modify, this]⟩
theorem holds_own {W : World} {base g n cap : Nat} {xs : List Int} (h : W.ownsRow base 3 1 (.slice (some ⟨g, 0, none⟩) n cap) n (xs.map (Value.int .i64))) (hn : n = xs.length) : Sort.Holds (Value.int .i64) W g 0 xs.toArray := by
 intro j hj
 have hj2 : j < xs.length := by simpa using hj
 have hR : Kd.R (Kd.int .i64) 3 W base (fun _ => True) (.slice (some ⟨g, 0, none⟩) xs.length cap) xs := Kd.R_of_own (by rw [← hn]; exact h) (fun _ _ => trivial)
 have hc := Kd.R_cell (0 : Int) hR (j : Int) (by omega) (by omega)
 rw [Int.toNat_natCast] at hc
 rw [Nat.zero_add]
 refine ⟨?_, hc.2⟩
 rw [hc.1]
 have : rdOf (0 : Int) xs (j : Int) = xs.toArray[j]! := by
  rw [getElem!_pos _ j hj]
  unfold rdOf
  rw [Int.toNat_natCast, List.getD_eq_getElem?_getD, List.getElem?_eq_getElem hj2]
  rfl
 rw [this]
theorem del_calls (W : World) (base g cap i : Nat) (xs : List Int) (hR : Kd.R (Kd.int .i64) 3 W base (fun k => k = g) (.slice (some ⟨g, 0, none⟩) xs.length cap) xs) (hi : i < xs.length) :
  Calls Tryd.prog 103 #[.slice (some ⟨g, 0, none⟩) xs.length cap, .int .i64 (i : Int), .int .i64 ((i + 1 : Nat) : Int)] W fun e w' => e = .returned (.slice (some ⟨g, 0, none⟩) (xs.eraseIdx i).length cap) ∧ Kd.R (Kd.int .i64) 3 w' base (fun k => k = g) (.slice (some ⟨g, 0, none⟩) (xs.eraseIdx i).length cap) (xs.eraseIdx i) ∧ W.grownBy w' (some g) := by
 have ho := Kd.own_of_R hR
 have hcap : xs.length ≤ cap ∧ cap ≤ maxLen := by
  rcases ho.2 with ⟨h2, _⟩ | ⟨g2, cap2, cur, e, hg, hh, hc, hmx, hs, hx⟩
  ·cases h2
  ·injection e with e1 e2 e3
   subst e3
   exact ⟨hc, hmx⟩
 have hl : (xs.eraseIdx i).length = xs.length - 1 := by rw [List.length_eraseIdx, if_pos hi]
 refine (Any.slices_Delete_int laysD g 0 cap i (i + 1) xs W (holds_own ho rfl) hcap.1 (by have := hcap.2; unfold maxLen at this; omega) (by omega) (by omega)).mono ?_
 rintro e w' ⟨rfl, q, rfl⟩
 have hd : ((xs.take i ++ xs.drop (i + 1) ++ List.replicate (i + 1 - i) 0).toArray : Array Int).size = xs.length := by
  simp; omega
 have h2 := put_own (q := q) ho hd (xs.length - 1) (by omega)
 have ht : ((xs.take i ++ xs.drop (i + 1) ++ List.replicate (i + 1 - i) 0).toArray : Array Int).toList.take (xs.length - 1) = xs.eraseIdx i := by
  rw [List.eraseIdx_eq_take_drop_succ]
  simp only
  rw [List.take_left' (by simp; omega)]
 rw [ht] at h2
 refine ⟨by rw [hl, show i + 1 - i = 1 by omega], Kd.R_of_own (by rw [hl]; exact h2) (fun k hk => by simp [Value.ownBlock] at hk; exact hk.symm), put_grown W g q _⟩
end Go.Proofs.YtoffehihicabcaaDoor.X
end
section
namespace Go.Proofs.YtoffehihicabcaaDoor.T
open Go.RowKit YtoffehihicabcaaDoorW.PrintWords YtoffehihicabcaaDoorW.PrintLast YtoffehihicabcaaDoorW.PrintMore
def diff (a b : Nat) : Nat := a ^^^ (a &&& b)
theorem diff_testBit (a b i : Nat) : (diff a b).testBit i = (a.testBit i && !b.testBit i) := by
 unfold diff; simp; cases a.testBit i <;> cases b.testBit i <;> rfl
theorem diff_le (a b : Nat) : diff a b ≤ a := by
 have h : diff a b &&& a = diff a b := by
  apply Nat.eq_of_testBit_eq; intro i; simp [diff_testBit]
  cases a.testBit i <;> simp
 rw [← h]; exact Nat.and_le_right
theorem i64_small (n : Int) (h0 : 0 ≤ n) (h1 : n < 2 ^ 62) : IntKind.i64.wrap n = n := by rw [IntKind.wrap_i64]; omega
theorem w64_small (n : Int) (h0 : -(2 ^ 62) ≤ n) (h1 : n < 2 ^ 62) : wrap64 n = n := by unfold wrap64; omega
theorem u64_low (a : Nat) (ha : a < 2 ^ 62) : (BitVec.ofInt 64 (a : Int)).toNat = a := by
 rw [BitVec.ofInt_natCast, BitVec.toNat_ofNat]; exact Nat.mod_eq_of_lt (by omega)
theorem b_and (a b : Nat) (ha : a < 2 ^ 62) (hb : b < 2 ^ 62) : Go.bits .and .i64 (a : Int) (b : Int) = ((a &&& b : Nat) : Int) := by
 have hx : a &&& b < 2 ^ 62 := Nat.and_lt_two_pow _ hb
 show IntKind.i64.wrap ((BitVec.ofInt 64 (a : Int) &&& BitVec.ofInt 64 (b : Int)).toNat : Int) = _
 rw [BitVec.toNat_and, u64_low a ha, u64_low b hb]
 exact i64_small _ (by omega) (by omega)
theorem b_or (a b : Nat) (ha : a < 2 ^ 62) (hb : b < 2 ^ 62) : Go.bits .or .i64 (a : Int) (b : Int) = ((a ||| b : Nat) : Int) := by
 have hx : a ||| b < 2 ^ 62 := Nat.or_lt_two_pow ha hb
 show IntKind.i64.wrap ((BitVec.ofInt 64 (a : Int) ||| BitVec.ofInt 64 (b : Int)).toNat : Int) = _
 rw [BitVec.toNat_or, u64_low a ha, u64_low b hb]
 exact i64_small _ (by omega) (by omega)
theorem b_andNot (a b : Nat) (ha : a < 2 ^ 62) (hb : b < 2 ^ 62) : Go.bits .andNot .i64 (a : Int) (b : Int) = ((diff a b : Nat) : Int) := by
 have hx : diff a b < 2 ^ 62 := Nat.lt_of_le_of_lt (diff_le a b) ha
 show IntKind.i64.wrap ((BitVec.ofInt 64 (a : Int) &&& ~~~ BitVec.ofInt 64 (b : Int)).toNat : Int) = _
 have e : (BitVec.ofInt 64 (a : Int) &&& ~~~ BitVec.ofInt 64 (b : Int)).toNat = diff a b := by
  apply Nat.eq_of_testBit_eq
  intro i
  rw [diff_testBit, BitVec.testBit_toNat, BitVec.getLsbD_and, BitVec.getLsbD_not, ← BitVec.testBit_toNat, ← BitVec.testBit_toNat, u64_low a ha, u64_low b hb]
  by_cases hi : i < 64
  ·simp [hi]
  ·have : a.testBit i = false := Nat.testBit_lt_two_pow (Nat.lt_of_lt_of_le ha (Nat.pow_le_pow_right (by omega) (by omega)))
   simp [this]
 rw [e]
 exact i64_small _ (by omega) (by omega)
theorem s_one (i : Nat) (hi : i < 62) : shl .i64 1 (i : Int) = ((2 ^ i : Nat) : Int) := by
 have h1 : 2 ^ i < 2 ^ 62 := Nat.pow_lt_pow_right (by omega) hi
 unfold shl
 rw [show min (i : Int).toNat IntKind.i64.bits = i by simp [IntKind.bits]; omega, Int.one_mul]
 rw [show ((2 : Int) ^ i) = ((2 ^ i : Nat) : Int) by simp]
 exact i64_small _ (Int.natCast_nonneg _) (by omega)
theorem s_shr (a i : Nat) (hi : i < 62) : shr .i64 (a : Int) (i : Int) = ((a / 2 ^ i : Nat) : Int) := by
 unfold shr
 rw [show min (i : Int).toNat IntKind.i64.bits = i by simp [IntKind.bits]; omega]
 simp
theorem bit_at (a i : Nat) (ha : a < 2 ^ 62) (hi : i < 62) : Go.bits .and .i64 (shr .i64 (a : Int) (i : Int)) 1 = ((a.testBit i).toNat : Int) := by
 rw [s_shr a i hi]
 have h1 : a / 2 ^ i < 2 ^ 62 := Nat.lt_of_le_of_lt (Nat.div_le_self _ _) ha
 have := b_and (a / 2 ^ i) 1 h1 (by omega)
 rw [show ((1 : Nat) : Int) = 1 from rfl] at this
 rw [this, Nat.and_one_is_mod, Nat.testBit_eq_decide_div_mod_eq]
 by_cases h : a / 2 ^ i % 2 = 1
 ·simp [h]
 ·have : a / 2 ^ i % 2 = 0 := by omega
  simp [this]
def gi (l : List Nat) : List Int := l.map fun (x : Nat) => (x : Int)
theorem gi_length (l : List Nat) : (gi l).length = l.length := by simp [gi]
theorem rd_gi (l : List Nat) (i : Nat) : rd (gi l) (i : Int) = ((l.getD i 0 : Nat) : Int) := by
 unfold rd gi
 simp only [Int.toNat_natCast, List.getD_eq_getElem?_getD, List.getElem?_map]
 cases l[i]? <;> rfl
theorem gi_nonneg (l : List Int) (h : ∀ x ∈ l, 0 ≤ x) : ∃ m : List Nat, l = gi m := by
 refine ⟨l.map Int.toNat, ?_⟩
 unfold gi
 rw [List.map_map]
 conv => lhs; rw [← List.map_id l]
 apply List.map_congr_left
 intro x hx
 have := h x hx
 simp; omega
theorem testBit_ge {a n i : Nat} (h : a < 2 ^ n) (hi : n ≤ i) : a.testBit i = false := Nat.testBit_lt_two_pow (Nat.lt_of_lt_of_le h (Nat.pow_le_pow_right (by omega) hi))
def allFrom (p : Nat → Bool) (n : Nat) : Nat → Nat → Bool
 | 0, _ => true
 | d + 1, i => p i && allFrom p n d (i + 1)
theorem allFrom_iff (p : Nat → Bool) (n : Nat) : ∀ d i, allFrom p n d i = true ↔ ∀ j, i ≤ j → j < i + d → p j = true
 | 0, i => by simp only [allFrom]; exact ⟨fun _ j h1 h2 => by omega, fun _ => trivial⟩
 | d + 1, i => by
  simp only [allFrom, Bool.and_eq_true, allFrom_iff p n d (i + 1)]
  constructor
  ·rintro ⟨h0, h⟩ j h1 h2
   by_cases e : j = i
   ·subst e; exact h0
   ·exact h j (by omega) (by omega)
  ·intro h
   exact ⟨h i (by omega) (by omega), fun j h1 h2 => h j (by omega) (by omega)⟩
def ibit (x : Int) (i : Nat) : Int := Go.bits .and .i64 (shr .i64 x (i : Int)) 1
theorem ibit_nat (a i : Nat) (ha : a < 2 ^ 62) (hi : i < 62) : ibit (a : Int) i = ((a.testBit i).toNat : Int) := bit_at a i ha hi
theorem wrap_succ (i : Nat) (h : i < 2 ^ 61) : wrap64 ((i : Int) + 1) = ((i + 1 : Nat) : Int) := by
 rw [w64_small _ (by omega) (by omega)]; omega
theorem Ev.bind1 {α β : Type} {g : Option α} {f : Nat → α → Option β} {a : α} {r : β} (h : g = some a) (k : Ev (fun n => f n a) r) : Ev (fun n => g.bind (f n)) r := by subst h; exact k
theorem Ev.some {α : Type} {r r' : α} (h : r = r') : Ev (fun _ => some r) r' := by subst h; exact Ev.now r
theorem Ev.if_pos {α : Type} {c : Prop} [Decidable c] {g f : Nat → Option α} {r : α} (h : c) (k : Ev g r) : Ev (fun n => if c then g n else f n) r := by
 refine Ev.congr (fun n => ?_) k
 rw [_root_.if_pos h]
theorem Ev.if_neg {α : Type} {c : Prop} [Decidable c] {g f : Nat → Option α} {r : α} (h : ¬ c) (k : Ev f r) : Ev (fun n => if c then g n else f n) r := by
 refine Ev.congr (fun n => ?_) k
 rw [_root_.if_neg h]
theorem Ev.ite {α : Type} {c : Prop} [Decidable c] {g f : Nat → Option α} {r : α} (h1 : c → Ev g r) (h2 : ¬ c → Ev f r) : Ev (fun n => if c then g n else f n) r := by
 by_cases h : c
 ·exact Ev.if_pos h (h1 h)
 ·exact Ev.if_neg h (h2 h)
def rowOk (g : List Int) (i : Nat) : Bool :=
 !decide (rd g (i : Int) < 0) && !decide (rd g (i : Int) ≥ shl .i64 1 (g.length : Int)) && !(ibit (rd g (i : Int)) i == 1) &&
  allFrom (fun j => decide (ibit (rd g (i : Int)) j = ibit (rd g (j : Int)) i)) g.length g.length 0
def chk (m : Nat) (g : List Int) : Bool := decide (1 ≤ g.length) && decide (g.length ≤ m) && allFrom (rowOk g) g.length g.length 0
structure Gr (m : Nat) (G : List Nat) : Prop where
 pos : 1 ≤ G.length
 most : G.length ≤ m
 lt : ∀ i, i < G.length → G.getD i 0 < 2 ^ G.length
 irr : ∀ i, i < G.length → (G.getD i 0).testBit i = false
 symm : ∀ i j, i < G.length → j < G.length → (G.getD i 0).testBit j = (G.getD j 0).testBit i
theorem chk_iff (m : Nat) (hm : m ≤ 13) (g : List Int) : chk m g = true ↔ ∃ G, g = gi G ∧ Gr m G := by
 have p62 : ∀ n : Nat, n ≤ 13 → 2 ^ n < 2 ^ 62 := fun n hn => Nat.pow_lt_pow_right (by omega) (by omega)
 constructor
 ·intro h
  simp only [chk, Bool.and_eq_true, decide_eq_true_eq, allFrom_iff] at h
  obtain ⟨⟨h1, h2⟩, h3⟩ := h
  have hn : g.length ≤ 13 := by omega
  have hrow : ∀ i, i < g.length → (0 ≤ rd g (i : Int) ∧ rd g (i : Int) < ((2 ^ g.length : Nat) : Int)) ∧ ibit (rd g (i : Int)) i ≠ 1 ∧ ∀ j, j < g.length → ibit (rd g (i : Int)) j = ibit (rd g (j : Int)) i := by
   intro i hi
   have := h3 i (by omega) (by omega)
   simp only [rowOk, Bool.and_eq_true, Bool.not_eq_true', decide_eq_false_iff_not, beq_eq_false_iff_ne, allFrom_iff, decide_eq_true_eq] at this
   obtain ⟨⟨⟨a, b⟩, c⟩, d⟩ := this
   rw [s_one _ (by omega)] at b
   exact ⟨⟨by omega, by omega⟩, c, fun j hj => d j (by omega) (by omega)⟩
  obtain ⟨G, rfl⟩ := gi_nonneg g (fun x hx => by
   obtain ⟨i, hi, rfl⟩ := List.getElem_of_mem hx
   have := (hrow i hi).1.1
   unfold rd at this
   rw [Int.toNat_natCast, List.getD_eq_getElem?_getD, List.getElem?_eq_getElem hi] at this
   exact this)
  simp only [gi_length, rd_gi] at hrow h1 h2 hn
  have hlt : ∀ i, i < G.length → G.getD i 0 < 2 ^ G.length := fun i hi => by have := (hrow i hi).1.2; omega
  refine ⟨G, rfl, h1, h2, hlt, fun i hi => ?_, fun i j hi hj => ?_⟩
  ·have := (hrow i hi).2.1
   rw [ibit_nat _ _ (Nat.lt_trans (hlt i hi) (p62 _ hn)) (by omega)] at this
   cases hb : (G.getD i 0).testBit i
   ·rfl
   ·rw [hb] at this; exact (this rfl).elim
  ·have := (hrow i hi).2.2 j hj
   rw [ibit_nat _ _ (Nat.lt_trans (hlt i hi) (p62 _ hn)) (by omega), ibit_nat _ _ (Nat.lt_trans (hlt j hj) (p62 _ hn)) (by omega)] at this
   cases ha : (G.getD i 0).testBit j <;> cases hb : (G.getD j 0).testBit i <;> rw [ha, hb] at this <;> simp_all
 ·rintro ⟨G, rfl, hG⟩
  have hn : G.length ≤ 13 := Nat.le_trans hG.most hm
  simp only [chk, Bool.and_eq_true, decide_eq_true_eq, allFrom_iff, gi_length]
  refine ⟨⟨hG.pos, hG.most⟩, fun i _ hi => ?_⟩
  have hi : i < G.length := by omega
  simp only [rowOk, Bool.and_eq_true, Bool.not_eq_true', decide_eq_false_iff_not, beq_eq_false_iff_ne, allFrom_iff, decide_eq_true_eq, rd_gi, gi_length]
  rw [s_one _ (by omega)]
  have hl := hG.lt i hi
  refine ⟨⟨⟨by omega, by omega⟩, ?_⟩, fun j _ hj => ?_⟩
  ·rw [ibit_nat _ _ (Nat.lt_trans hl (p62 _ hn)) (by omega), hG.irr i hi]; simp
  ·have hj : j < G.length := by omega
   rw [ibit_nat _ _ (Nat.lt_trans hl (p62 _ hn)) (by omega), ibit_nat _ _ (Nat.lt_trans (hG.lt j hj) (p62 _ hn)) (by omega), hG.symm i j hi hj]
def Adj (G : List Nat) (u w : Nat) : Prop := (G.getD u 0).testBit w = true
theorem getD_out (G : List Nat) (i : Nat) (h : G.length ≤ i) : G.getD i 0 = 0 := by
 rw [List.getD_eq_getElem?_getD, List.getElem?_eq_none h]; rfl
theorem Gr.row {m : Nat} {G : List Nat} (h : Gr m G) (i : Nat) : G.getD i 0 < 2 ^ G.length := by
 by_cases hi : i < G.length
 ·exact h.lt i hi
 ·rw [getD_out G i (by omega)]; exact Nat.two_pow_pos _
theorem Gr.adj_lt {m : Nat} {G : List Nat} (h : Gr m G) {u w : Nat} (a : Adj G u w) : w < G.length := by
 apply Classical.byContradiction
 intro hw
 unfold Adj at a
 rw [testBit_ge (h.row u) (by omega)] at a
 cases a
theorem Gr.adj_lt' {m : Nat} {G : List Nat} (h : Gr m G) {u w : Nat} (a : Adj G u w) : u < G.length := by
 apply Classical.byContradiction
 intro hu
 unfold Adj at a
 rw [getD_out G u (by omega)] at a
 simp at a
def around (G : List Nat) (s : Nat) : Nat → Nat
 | 0 => 0
 | d + 1 => around G s d ||| (if s.testBit d then G.getD d 0 else 0)
theorem bit_lt {x n j : Nat} (h : x < 2 ^ n) (hb : x.testBit j = true) : j < n := by
 apply Classical.byContradiction
 intro hj
 rw [testBit_ge h (by omega)] at hb
 cases hb
inductive Con (adj : Nat → Nat → Prop) (w : Nat → Prop) (s : Nat → Prop) : Nat → Prop
 | base {u : Nat} : s u → Con adj w s u
 | step {x u : Nat} : Con adj w s x → adj x u → w u → Con adj w s u
def bset (x : Nat) (i : Nat) : Prop := x.testBit i = true
end Go.Proofs.YtoffehihicabcaaDoor.T
end
section
namespace Go.Proofs.YtoffehihicabcaaDoor.T
def AtMost (k : Nat) (P : Nat → Prop) : Prop := ∃ l : List Nat, l.length ≤ k ∧ ∀ u, P u → u ∈ l
theorem AtMost.mono {k k' : Nat} {P Q : Nat → Prop} (h : AtMost k P) (hk : k ≤ k') (hq : ∀ u, Q u → P u) : AtMost k' Q := by
 obtain ⟨l, hl, hp⟩ := h
 exact ⟨l, Nat.le_trans hl hk, fun u hu => hp u (hq u hu)⟩
theorem AtMost.map {k : Nat} {P Q : Nat → Prop} (f : Nat → Nat) (h : AtMost k P) (hq : ∀ u, Q u → ∃ x, P x ∧ f x = u) : AtMost k Q := by
 obtain ⟨l, hl, hp⟩ := h
 refine ⟨l.map f, by simpa using hl, fun u hu => ?_⟩
 obtain ⟨x, hx, rfl⟩ := hq u hu
 exact List.mem_map_of_mem (hp x hx)
theorem AtMost.below {n : Nat} {P : Nat → Prop} (h : ∀ u, P u → u < n) : AtMost n P := ⟨List.range n, by simp, fun u hu => List.mem_range.2 (h u hu)⟩
inductive Way (adj : Nat → Nat → Prop) (S : Nat → Prop) (v : Nat) : Nat → Prop
 | one {u : Nat} : adj v u → Way adj S v u
 | more {x u : Nat} : Way adj S v x → S x → adj x u → Way adj S v u
def Nb (adj : Nat → Nat → Prop) (S : Nat → Prop) (v u : Nat) : Prop := Way adj S v u ∧ ¬ S u ∧ u ≠ v
inductive Elim (V : Nat → Prop) (adj : Nat → Nat → Prop) (k : Nat) : (Nat → Prop) → Prop
 | nil : Elim V adj k (fun _ => False)
 | snoc {S : Nat → Prop} (v : Nat) : Elim V adj k S → V v → ¬ S v → AtMost k (Nb adj S v) → Elim V adj k (fun u => S u ∨ u = v)
theorem Elim.mono {V : Nat → Prop} {adj : Nat → Nat → Prop} {k k' : Nat} {S : Nat → Prop} (h : Elim V adj k S) (hk : k ≤ k') : Elim V adj k' S := by
 induction h with
 | nil => exact .nil
 | snoc v _ hv hs ha ih => exact .snoc v ih hv hs (ha.mono hk fun _ h => h)
theorem Elim.sub {V : Nat → Prop} {adj : Nat → Nat → Prop} {k : Nat} {S : Nat → Prop} (h : Elim V adj k S) : ∀ u, S u → V u := by
 induction h with
 | nil => intro u hu; exact hu.elim
 | snoc v _ hv _ _ ih =>
  intro u hu
  rcases hu with hu | hu
  ·exact ih u hu
  ·subst hu; exact hv
end Go.Proofs.YtoffehihicabcaaDoor.T
end
section
namespace Go.Proofs.YtoffehihicabcaaDoor.T
open Go.RowKit YtoffehihicabcaaDoorW.PrintWords YtoffehihicabcaaDoorW.PrintLast YtoffehihicabcaaDoorW.PrintMore
def pc (x : Nat) : Nat → Nat
 | 0 => 0
 | d + 1 => pc x d + (x.testBit d).toNat
theorem pc_le (x : Nat) : ∀ n, pc x n ≤ n
 | 0 => Nat.le_refl _
 | d + 1 => by have := pc_le x d; simp only [pc]; cases x.testBit d <;> simp <;> omega
def els (x : Nat) (n : Nat) : List Nat := (List.range n).filter fun i => x.testBit i
theorem els_length (x : Nat) : ∀ n, (els x n).length = pc x n
 | 0 => rfl
 | d + 1 => by
  have ih := els_length x d
  unfold els at *
  rw [List.range_succ, List.filter_append, List.length_append, ih]
  simp only [pc]
  cases h : x.testBit d <;> simp [h]
theorem mem_els {x n j : Nat} : j ∈ els x n ↔ j < n ∧ x.testBit j = true := by unfold els; simp
theorem nodup_le {l m : List Nat} (h : l.Nodup) (hs : ∀ x ∈ l, x ∈ m) : l.length ≤ m.length := by
 induction l generalizing m with
 | nil => simp
 | cons a l ih =>
  obtain ⟨h1, h2⟩ := List.nodup_cons.1 h
  have ha := hs a List.mem_cons_self
  have := ih (m := m.erase a) h2 (fun x hx => by
   have hxa : x ≠ a := fun e => h1 (e ▸ hx)
   exact (List.mem_erase_of_ne hxa).2 (hs x (List.mem_cons_of_mem _ hx)))
  rw [List.length_erase_of_mem ha] at this
  have : 0 < m.length := List.length_pos_of_mem ha
  simp only [List.length_cons]
  omega
theorem Con.mono {adj : Nat → Nat → Prop} {w s w' s' : Nat → Prop} (hw : ∀ u, w u → w' u) (hs : ∀ u, s u → s' u) {u : Nat} (h : Con adj w s u) : Con adj w' s' u := by
 induction h with
 | base h => exact .base (hs _ h)
 | step _ a h ih => exact .step ih a (hw _ h)
theorem two_pow_bit (v j : Nat) : bset (2 ^ v) j ↔ j = v := by
 unfold bset; rw [Nat.testBit_two_pow, decide_eq_true_eq]; exact ⟨fun h => h.symm, fun h => h.symm⟩
theorem diff_bset (a b j : Nat) : bset (diff a b) j ↔ bset a j ∧ ¬ bset b j := by
 unfold bset; rw [diff_testBit]; cases a.testBit j <;> cases b.testBit j <;> simp
end Go.Proofs.YtoffehihicabcaaDoor.T
end
section
namespace Go.Proofs.YtoffehihicabcaaDoor.X
open Go.RowKit YtoffehihicabcaaDoorW.PrintWords YtoffehihicabcaaDoorW.PrintLast YtoffehihicabcaaDoorW.PrintMore
attribute [local go_sem] max2_int min2_int max_two min_two max_three min_three max_four min_four
noncomputable section
mutual
def lampblackref01_IsGraph.l0 : Nat → List Int → Int → List Int → Int → Int → Option (Bool)
 | 0, _, _, _, _, _ => none
 | k + 1, x0, x1, x8, x9, x10 => if x10 < x9 then (if 0 ≤ x10 then (if x10 < (x8.length : Int) then (if (x0.length : Int) > x1 then (lampblackref01_IsGraph.j1 k x0 x1 x10 (rd x8 x10) x8 x9 x10 true) else (if (rd x8 x10) < 0 then (lampblackref01_IsGraph.j1 k x0 x1 x10 (rd x8 x10) x8 x9 x10 true) else (if (rd x8 x10) ≥ (shl .i64 1 (x0.length : Int)) then (lampblackref01_IsGraph.j1 k x0 x1 x10 (rd x8 x10) x8 x9 x10 true) else (lampblackref01_IsGraph.j1 k x0 x1 x10 (rd x8 x10) x8 x9 x10 ((Go.bits .and .i64 (shr .i64 (rd x8 x10) x10) 1) == 1))))) else (none)) else (none)) else (if (x0.length : Int) ≥ 1 then (some (decide ((x0.length : Int) ≤ x1))) else (some false))
def lampblackref01_IsGraph.j1 : Nat → List Int → Int → Int → Int → List Int → Int → Int → Bool → Option (Bool)
 | 0, _, _, _, _, _, _, _, _ => none
 | k + 1, x0, x1, x5, x6, x8, x9, x10, x36 => if x36 = true then (some false) else (lampblackref01_IsGraph.l1 k x0 x1 x5 x6 x8 x9 x10 (x0.length : Int) 0)
def lampblackref01_IsGraph.l1 : Nat → List Int → Int → Int → Int → List Int → Int → Int → Int → Int → Option (Bool)
 | 0, _, _, _, _, _, _, _, _, _ => none
 | k + 1, x0, x1, x5, x6, x8, x9, x10, x38, x39 => if x39 < x38 then (if 0 ≤ x39 then (if x39 < (x0.length : Int) then (if 0 ≤ x5 then (if (Go.bits .and .i64 (shr .i64 x6 x39) 1) = (Go.bits .and .i64 (shr .i64 (rd x0 x39) x5) 1) then (lampblackref01_IsGraph.l1 k x0 x1 x5 x6 x8 x9 x10 x38 (wrap64 (x39 + 1))) else (some false)) else (none)) else (none)) else (none)) else (lampblackref01_IsGraph.l0 k x0 x1 x8 x9 (wrap64 (x10 + 1)))
end
end
noncomputable section
mutual
def lampblackref01_Reached.l0 : Nat → List Int → Int → Int → Int → Int → Option (Int)
 | 0, _, _, _, _, _ => none
 | k + 1, x0, x1, x7, x12, x13 => if x13 < x12 then (lampblackref01_Reached.l1 k x0 x1 x7 x12 x13 (x0.length : Int) 0) else (some x7)
def lampblackref01_Reached.l1 : Nat → List Int → Int → Int → Int → Int → Int → Int → Option (Int)
 | 0, _, _, _, _, _, _, _ => none
 | k + 1, x0, x1, x7, x12, x13, x16, x17 => if x17 < x16 then (if 0 ≤ x17 then (if (Go.bits .and .i64 (shr .i64 x7 x17) 1) = 1 then (if x17 < (x0.length : Int) then (lampblackref01_Reached.l1 k x0 x1 (Go.bits .or .i64 x7 (Go.bits .and .i64 (rd x0 x17) x1)) x12 x13 x16 (wrap64 (x17 + 1))) else (none)) else (lampblackref01_Reached.l1 k x0 x1 x7 x12 x13 x16 (wrap64 (x17 + 1)))) else (none)) else (lampblackref01_Reached.l0 k x0 x1 x7 x12 (wrap64 (x13 + 1)))
end
def lampblackref01_Reached.f (k : Nat) (l0 : List Int) (a1 : Int) (a2 : Int) : Option (Int) := if 0 ≤ a2 then (lampblackref01_Reached.l0 k l0 a1 (shl .i64 1 a2) (l0.length : Int) 0) else (none)
end
end Go.Proofs.YtoffehihicabcaaDoor.X
end
section
namespace Go.Proofs.YtoffehihicabcaaDoor.T
open Go.RowKit YtoffehihicabcaaDoorW.PrintWords YtoffehihicabcaaDoorW.PrintLast YtoffehihicabcaaDoorW.PrintMore
theorem all_bit (n u : Nat) : bset (2 ^ n - 1) u ↔ u < n := by
 unfold bset; rw [Nat.testBit_two_pow_sub_one, decide_eq_true_eq]
end Go.Proofs.YtoffehihicabcaaDoor.T
end
section
namespace Go.Proofs.YtoffehihicabcaaDoor.X
open Go.RowKit YtoffehihicabcaaDoorW.PrintWords YtoffehihicabcaaDoorW.PrintLast YtoffehihicabcaaDoorW.PrintMore YtoffehihicabcaaDoor.T
theorem read_l1 (g : List Int) (hn : g.length ≤ 9) (i : Nat) (hi : i < g.length) (r : List Int × Bool)
  (hrest : Ev (fun k => width_read.l0 k g (g.length : Int) g (g.length : Int) ((i + 1 : Nat) : Int)) r) :
  ∀ d j, j + d = g.length → Ev (fun k => width_read.l1 k g (g.length : Int) (i : Int) (rd g (i : Int)) g (g.length : Int) (i : Int) (g.length : Int) (j : Int))
   (cond (allFrom (fun j => decide (ibit (rd g (i : Int)) j = ibit (rd g (j : Int)) i)) g.length d j) r (([] : List Int), false)) := by
 intro d
 induction d with
 | zero =>
  intro j hj
  refine Ev.step (fun k => ?_) hrest
  rw [width_read.l1, if_neg (by omega), wrap_succ i (by omega)]
 | succ d ih =>
  intro j hj
  simp only [allFrom]
  by_cases hb : ibit (rd g (i : Int)) j = ibit (rd g (j : Int)) i
  ·refine Ev.step (f := fun k => width_read.l1 k g (g.length : Int) (i : Int) (rd g (i : Int)) g (g.length : Int) (i : Int) (g.length : Int) ((j + 1 : Nat) : Int)) (fun k => ?_) ?_
   ·rw [width_read.l1, if_pos (by omega), if_pos (by omega), if_pos (by omega), if_pos (by omega), wrap_succ j (by omega)]
    exact if_pos hb
   ·have := ih (j + 1) (by omega)
    simpa [hb] using this
  ·refine Ev.step (f := fun _ => some (([] : List Int), false)) (fun k => ?_) (Ev.some (by simp [hb]))
   rw [width_read.l1, if_pos (by omega), if_pos (by omega), if_pos (by omega), if_pos (by omega)]
   exact if_neg hb
theorem read_l0 (g : List Int) (hn : g.length ≤ 9) :
  ∀ d i, i + d = g.length → Ev (fun k => width_read.l0 k g (g.length : Int) g (g.length : Int) (i : Int)) (cond (allFrom (rowOk g) g.length d i) (g, true) (([] : List Int), false)) := by
 intro d
 induction d with
 | zero =>
  intro i hi
  refine Ev.step (f := fun _ => some (g, true)) (fun k => ?_) (Ev.some (by simp [allFrom]))
  rw [width_read.l0, if_neg (by omega)]
 | succ d ih =>
  intro i hi
  have stop : ∀ k, width_read.j2 (k + 1) g (g.length : Int) (i : Int) (rd g (i : Int)) g (g.length : Int) (i : Int) true = some (([] : List Int), false) := fun k => by
   rw [width_read.j2, if_pos rfl]
  simp only [allFrom, rowOk]
  by_cases h1 : rd g (i : Int) < 0
  ·refine Ev.step (fun k => ?_) (f := fun k => width_read.j2 k g (g.length : Int) (i : Int) (rd g (i : Int)) g (g.length : Int) (i : Int) true) ?_
   ·rw [width_read.l0, if_pos (by omega), if_pos (by omega), if_pos (by omega), if_pos h1]
   ·exact Ev.step stop (Ev.some (by simp [h1]))
  ·by_cases h2 : rd g (i : Int) ≥ shl .i64 1 (g.length : Int)
   ·refine Ev.step (fun k => ?_) (f := fun k => width_read.j2 k g (g.length : Int) (i : Int) (rd g (i : Int)) g (g.length : Int) (i : Int) true) ?_
    ·rw [width_read.l0, if_pos (by omega), if_pos (by omega), if_pos (by omega), if_neg h1, if_pos (by omega), if_pos h2]
    ·exact Ev.step stop (Ev.some (by simp [h2]))
   ·refine Ev.step (fun k => ?_) (f := fun k => width_read.j2 k g (g.length : Int) (i : Int) (rd g (i : Int)) g (g.length : Int) (i : Int) (ibit (rd g (i : Int)) i == 1)) ?_
    ·rw [width_read.l0, if_pos (by omega), if_pos (by omega), if_pos (by omega), if_neg h1, if_pos (by omega), if_neg h2]
     rfl
    ·by_cases h3 : (ibit (rd g (i : Int)) i == 1) = true
     ·simp only [h3]
      exact Ev.step stop (Ev.some (by simp))
     ·refine Ev.step (fun k => by rw [width_read.j2, if_neg h3]) ?_
      have := read_l1 g hn i (by omega) _ (ih (i + 1) (by omega)) g.length 0 (by omega)
      have h3' : (ibit (rd g (i : Int)) i == 1) = false := by simpa using h3
      simp only [h1, h2, h3', decide_false, Bool.not_false, Bool.true_and]
      cases h4 : allFrom (fun j => decide (ibit (rd g (i : Int)) j = ibit (rd g (j : Int)) i)) g.length g.length 0
      ·simpa [h4] using this
      ·simpa [h4] using this
theorem read_ev (g : List Int) (hg : g.length < 2 ^ 60) : Ev (fun k => width_read.f k g) (cond (chk 9 g) (g, true) (([] : List Int), false)) := by
 have stop : ∀ k, width_read.j0 (k + 1) g (g.length : Int) true = some (([] : List Int), false) := fun k => by
  rw [width_read.j0, if_pos rfl]
 by_cases h1 : g.length < 1
 ·refine Ev.congr (f := fun k => width_read.j0 k g (g.length : Int) true) (fun k => ?_) (Ev.step stop (Ev.some ?_))
  ·rw [width_read.f, if_pos (by omega)]
  ·have : ¬ 1 ≤ g.length := by omega
   simp [chk, this]
 ·refine Ev.congr (f := fun k => width_read.j0 k g (g.length : Int) (decide ((g.length : Int) > 9))) (fun k => ?_) ?_
  ·rw [width_read.f, if_neg (by omega)]
  ·by_cases h2 : g.length ≤ 9
   ·have e : decide ((g.length : Int) > 9) = false := decide_eq_false (by omega)
    rw [e]
    refine Ev.step (fun k => by rw [width_read.j0, if_neg (by simp)]) ?_
    have := read_l0 g h2 g.length 0 (by omega)
    have h3 : decide (1 ≤ g.length) = true := decide_eq_true (by omega)
    simpa [chk, h2, h3] using this
   ·have e : decide ((g.length : Int) > 9) = true := decide_eq_true (by omega)
    rw [e]
    refine Ev.step stop (Ev.some ?_)
    simp [chk, h2]
end Go.Proofs.YtoffehihicabcaaDoor.X
end
section
namespace Go.Proofs.YtoffehihicabcaaDoor.X
open Go.RowKit YtoffehihicabcaaDoorW.PrintWords YtoffehihicabcaaDoorW.PrintLast YtoffehihicabcaaDoorW.PrintMore
attribute [local go_sem] max2_int min2_int max_two min_two max_three min_three max_four min_four
noncomputable section
end
noncomputable section
end
noncomputable section
end
end Go.Proofs.YtoffehihicabcaaDoor.X
end
section
namespace Go.Proofs.YtoffehihicabcaaDoor.X
open Go.RowKit YtoffehihicabcaaDoorW.PrintWords YtoffehihicabcaaDoorW.PrintLast YtoffehihicabcaaDoorW.PrintMore YtoffehihicabcaaDoor.T
theorem count_all : ∀ x : Fin 512, width_count.f (x.val : Int) = some (pc x.val 9 : Int) := by decide +kernel
theorem count_eq (x : Nat) (hx : x < 512) : width_count.f (x : Int) = some (pc x 9 : Int) := count_all ⟨x, hx⟩
theorem small (G : List Nat) (h : G.length ≤ 9) {x : Nat} (hx : x < 2 ^ G.length) : x < 512 := Nat.lt_of_lt_of_le hx (show 2 ^ G.length ≤ 2 ^ 9 from Nat.pow_le_pow_right (by omega) h)
theorem all_eq (G : List Nat) (h : G.length ≤ 9) : width_town_all.f (gi G) = some ((2 ^ G.length - 1 : Nat) : Int) := by
 unfold width_town_all.f
 have h1 : 2 ^ G.length ≤ 2 ^ 9 := Nat.pow_le_pow_right (by omega) h
 have h2 := Nat.two_pow_pos G.length
 rw [gi_length, s_one _ (by omega), w64_small _ (by omega) (by omega)]
 congr 1
 omega
theorem mx_nat (a b : Nat) : mx (a : Int) (b : Int) = ((max a b : Nat) : Int) := by unfold mx; split <;> omega
theorem mn_nat (a b : Nat) : mn (a : Int) (b : Int) = ((min a b : Nat) : Int) := by unfold mn; split <;> omega
theorem awake_ev : Ev (fun k => lampblacklaw02_awake.f k) true := Ev.of (lampblacklaw02_awake.mono) (k := 40) (by decide +kernel)
end Go.Proofs.YtoffehihicabcaaDoor.X
end
section
namespace Go.Proofs.YtoffehihicabcaaDoor.X
open Go.RowKit YtoffehihicabcaaDoorW.PrintWords YtoffehihicabcaaDoorW.PrintLast YtoffehihicabcaaDoorW.PrintMore
attribute [local go_sem] max2_int min2_int max_two min_two max_three min_three max_four min_four
noncomputable section
mutual
def lampblackref02_Connected.j0 : Nat → List Int → Int → Bool → Option (Bool)
 | 0, _, _, _ => none
 | k + 1, x0, x1, x14 => if x14 = true then (some false) else (lampblackref02_Connected.l0 k x0 x1 0)
def lampblackref02_Connected.l0 : Nat → List Int → Int → Int → Option (Bool)
 | 0, _, _, _ => none
 | k + 1, x0, x1, x5 => if 0 ≤ x5 then (if (Go.bits .and .i64 (shr .i64 x1 x5) 1) = 0 then (lampblackref02_Connected.l0 k x0 x1 (wrap64 (x5 + 1))) else ((lampblackref01_Reached.f k x0 x1 x5).bind fun t219 => (some (t219 == x1)))) else (none)
end
def lampblackref02_Connected.f (k : Nat) (l0 : List Int) (a1 : Int) : Option (Bool) := if a1 ≤ 0 then (lampblackref02_Connected.j0 k l0 a1 true) else (lampblackref02_Connected.j0 k l0 a1 (decide (a1 ≥ (shl .i64 1 (l0.length : Int)))))
end
noncomputable section
def lampblackref02_Around.l0 : Nat → List Int → Int → Int → Int → Int → Option (Int)
 | 0, _, _, _, _, _ => none
 | k + 1, x0, x1, x5, x8, x9 => if x9 < x8 then (if 0 ≤ x9 then (if (Go.bits .and .i64 (shr .i64 x1 x9) 1) = 1 then (if x9 < (x0.length : Int) then (lampblackref02_Around.l0 k x0 x1 (Go.bits .or .i64 x5 (rd x0 x9)) x8 (wrap64 (x9 + 1))) else (none)) else (lampblackref02_Around.l0 k x0 x1 x5 x8 (wrap64 (x9 + 1)))) else (none)) else (some x5)
def lampblackref02_Around.f (k : Nat) (l0 : List Int) (a1 : Int) : Option (Int) := lampblackref02_Around.l0 k l0 a1 0 (l0.length : Int) 0
end
noncomputable section
def lampblackref02_Touch.f (k : Nat) (l0 : List Int) (a1 : Int) (a2 : Int) : Option (Bool) := (lampblackref02_Around.f k l0 a1).bind fun t221 => (some ((Go.bits .and .i64 (Go.bits .or .i64 a1 t221) a2) != 0))
end
noncomputable section
end
noncomputable section
def lampblackref02_Size.l0 : Nat → Int → Int → Option (Int)
 | 0, _, _ => none
 | k + 1, x0, x3 => if x0 > 0 then (lampblackref02_Size.l0 k (Go.bits .and .i64 x0 (wrap64 (x0 - 1))) (wrap64 (x3 + 1))) else (some x3)
def lampblackref02_Size.f (k : Nat) (a0 : Int) : Option (Int) := lampblackref02_Size.l0 k a0 0
end
noncomputable section
end
end Go.Proofs.YtoffehihicabcaaDoor.X
end
section
namespace Go.Proofs.YtoffehihicabcaaDoor.X
open Go.RowKit YtoffehihicabcaaDoorW.PrintWords YtoffehihicabcaaDoorW.PrintLast YtoffehihicabcaaDoorW.PrintMore YtoffehihicabcaaDoor.T
def low (a : Nat) : Nat := (els a 9).headD 0
theorem few_eq (g : List Int) (hg : g.length < 2 ^ 44) : ∃ h, lampblacklaw02_Few.f g = some h ∧ (chk 9 g = true → h = g) ∧ (chk 9 g = false → chk 9 h = false) ∧ h.length ≤ 13 := by
 have hm : mn (g.length : Int) 13 = ((min g.length 13 : Nat) : Int) := mn_nat g.length 13
 refine ⟨g.take (min g.length 13), ?_, ?_, ?_, ?_⟩
 ·unfold lampblacklaw02_Few.f slices_Clone_Graph.f
  simp only [hm, Int.toNat_natCast]
  rw [if_pos (by omega), if_pos (by omega)]
  simp only [Option.bind_some, List.length_nil, List.nil_append]
  rw [if_pos (by rw [List.length_take]; omega)]
  rfl
 ·intro h
  simp only [chk, Bool.and_eq_true, decide_eq_true_eq] at h
  exact List.take_of_length_le (by omega)
 ·intro h
  by_cases hl : g.length ≤ 13
  ·rw [List.take_of_length_le (by omega)]; exact h
  ·unfold chk
   have : ¬ (List.take (min g.length 13) g).length ≤ 9 := by rw [List.length_take]; omega
   rw [decide_eq_false this, Bool.and_false, Bool.false_and]
 ·rw [List.length_take]; omega
def cycB (P : List Int) : Nat → Int → Bool
 | 0, at_ => decide (0 ≤ at_)
 | d + 1, at_ => if at_ < 0 then false else cycB P d (rd P at_)
def InP (P : List Int) : Prop := ∀ i, i < P.length → -1 ≤ rd P (i : Int) ∧ rd P (i : Int) < (P.length : Int)
def bothB (u v : Nat) (b : Int) : Bool := b.toNat.testBit u && b.toNat.testBit v
def bitI (x : Int) (v : Nat) : Bool := x.toNat.testBit v
def tl1 (B P : List Int) (n all_ : Nat) : Nat → Nat → Nat → Nat → Option (Nat × Nat)
 | 0, _, ro, ac => some (ro, ac)
 | d + 1, i, ro, ac => if rd P (i : Int) < -1 then none else if (n : Int) ≤ rd P (i : Int) then none else if rd B (i : Int) < 0 then none else if (all_ : Int) < rd B (i : Int) then none else tl1 B P n all_ d (i + 1) (if rd P (i : Int) < 0 then ro + 1 else ro) (ac ||| (rd B (i : Int)).toNat)
def topsF (B P : List Int) (v : Nat) : Nat → Nat → Nat → Nat
 | 0, _, t => t
 | d + 1, i, t => topsF B P v d (i + 1) (if bitI (rd B (i : Int)) v && (decide (rd P (i : Int) < 0) || !bitI (rd B (rd P (i : Int))) v) then t + 1 else t)
def nbF (B : List Int) (v : Nat) : List Nat → Bool
 | [] => true
 | u :: us => B.any (bothB u v) && nbF B v us
def tl2 (G : List Nat) (B P : List Int) : Nat → Nat → Bool
 | 0, _ => true
 | d + 1, v => if topsF B P v B.length 0 0 = 1 then nbF B v (els (G.getD v 0) 9) && tl2 G B P d (v + 1) else false
def treeB2 (G : List Nat) (B P : List Int) : Option (Nat × Nat) → Bool
 | none => false
 | some r => if r.1 = 1 then if r.2 = 2 ^ G.length - 1 then if P.any (cycB P P.length) then false else tl2 G B P G.length 0 else false else false
def treeB (G : List Nat) (B P : List Int) : Bool := if B.length < 1 then false else if 30 < B.length then false else if P.length = B.length then treeB2 G B P (tl1 B P B.length (2 ^ G.length - 1) B.length 0 0 0) else false
theorem tl1_ok (B P : List Int) (n all_ : Nat) : ∀ (d i ro ac : Nat) (r : Nat × Nat), tl1 B P n all_ d i ro ac = some r → ∀ j, i ≤ j → j < i + d → -1 ≤ rd P (j : Int) ∧ rd P (j : Int) < (n : Int) ∧ 0 ≤ rd B (j : Int) ∧ rd B (j : Int) ≤ (all_ : Int)
 | 0, i, _, _, _, _, j, h1, h2 => by omega
 | d + 1, i, ro, ac, r, h, j, h1, h2 => by
  simp only [tl1] at h
  split at h
  ·cases h
  ·split at h
   ·cases h
   ·split at h
    ·cases h
    ·split at h
     ·cases h
     ·by_cases e : j = i
      ·subst e; omega
      ·exact tl1_ok B P n all_ d (i + 1) _ _ r h j (by omega) (by omega)
end Go.Proofs.YtoffehihicabcaaDoor.X
end
section
namespace Go.Proofs.YtoffehihicabcaaDoor.X
open Go.RowKit YtoffehihicabcaaDoorW.PrintWords YtoffehihicabcaaDoorW.PrintLast YtoffehihicabcaaDoorW.PrintMore
attribute [local go_sem] max2_int min2_int max_two min_two max_three min_three max_four min_four
noncomputable section
mutual
def lampblackref02_IsTree.j0 : Nat → List Int → Int → Bool → List Int → List Int → Option (Int × Bool)
 | 0, _, _, _, _, _ => none
 | k + 1, x0, x6, x34, x418000, x418001 => if x34 = true then (some (0, false)) else (lampblackref02_IsTree.l0 k x0 x6 0 0 x418001 (x418001.length : Int) 0 x418000 x418001)
def lampblackref02_IsTree.l0 : Nat → List Int → Int → Int → Int → List Int → Int → Int → List Int → List Int → Option (Int × Bool)
 | 0, _, _, _, _, _, _, _, _, _ => none
 | k + 1, x0, x6, x7, x8, x36, x37, x38, x418000, x418001 => if x38 < x37 then (if 0 ≤ x38 then (if x38 < (x36.length : Int) then (if (rd x36 x38) < (-1) then (lampblackref02_IsTree.j2 k x0 x6 x7 x8 x38 (rd x36 x38) x36 x37 x38 true x418000 x418001) else (if (rd x36 x38) ≥ x6 then (lampblackref02_IsTree.j2 k x0 x6 x7 x8 x38 (rd x36 x38) x36 x37 x38 true x418000 x418001) else (if x38 < (x418000.length : Int) then (if (rd x418000 x38) < 0 then (lampblackref02_IsTree.j2 k x0 x6 x7 x8 x38 (rd x36 x38) x36 x37 x38 true x418000 x418001) else (lampblackref02_IsTree.j2 k x0 x6 x7 x8 x38 (rd x36 x38) x36 x37 x38 (decide ((rd x418000 x38) ≥ (shl .i64 1 (x0.length : Int)))) x418000 x418001)) else (none)))) else (none)) else (none)) else (lampblackref02_IsTree.l1 k x0 x6 x7 x8 (x418001.length : Int) 0 x418000 x418001)
def lampblackref02_IsTree.j2 : Nat → List Int → Int → Int → Int → Int → Int → List Int → Int → Int → Bool → List Int → List Int → Option (Int × Bool)
 | 0, _, _, _, _, _, _, _, _, _, _, _, _ => none
 | k + 1, x0, x6, x7, x8, x9, x10, x36, x37, x38, x68, x418000, x418001 => if x68 = true then (some (0, false)) else (if 0 ≤ x9 then (if x9 < (x418000.length : Int) then ((lampblackref02_Size.f k (rd x418000 x9)).bind fun t422 => (if x10 < 0 then (lampblackref02_IsTree.l0 k x0 x6 (wrap64 (x7 + 1)) (mx x8 t422) x36 x37 (wrap64 (x38 + 1)) x418000 x418001) else (lampblackref02_IsTree.l0 k x0 x6 x7 (mx x8 t422) x36 x37 (wrap64 (x38 + 1)) x418000 x418001))) else (none)) else (none))
def lampblackref02_IsTree.l1 : Nat → List Int → Int → Int → Int → Int → Int → List Int → List Int → Option (Int × Bool)
 | 0, _, _, _, _, _, _, _, _ => none
 | k + 1, x0, x6, x7, x8, x84, x85, x418000, x418001 => if x85 < x84 then (lampblackref02_IsTree.l2 k x0 x6 x7 x8 x85 x84 x85 x6 0 x418000 x418001) else (if x7 = 1 then (lampblackref02_IsTree.l3 k x0 x8 (x0.length : Int) 0 x418000 x418001) else (some (0, false)))
def lampblackref02_IsTree.l2 : Nat → List Int → Int → Int → Int → Int → Int → Int → Int → Int → List Int → List Int → Option (Int × Bool)
 | 0, _, _, _, _, _, _, _, _, _, _, _ => none
 | k + 1, x0, x6, x7, x8, x12, x84, x85, x89, x90, x418000, x418001 => if x90 < x89 then (if x12 ≥ 0 then (if 0 ≤ x12 then (if x12 < (x418001.length : Int) then (lampblackref02_IsTree.l2 k x0 x6 x7 x8 (rd x418001 x12) x84 x85 x89 (wrap64 (x90 + 1)) x418000 x418001) else (none)) else (none)) else (lampblackref02_IsTree.l2 k x0 x6 x7 x8 x12 x84 x85 x89 (wrap64 (x90 + 1)) x418000 x418001)) else (if x12 ≥ 0 then (some (0, false)) else (lampblackref02_IsTree.l1 k x0 x6 x7 x8 x84 (wrap64 (x85 + 1)) x418000 x418001))
def lampblackref02_IsTree.l3 : Nat → List Int → Int → Int → Int → List Int → List Int → Option (Int × Bool)
 | 0, _, _, _, _, _, _ => none
 | k + 1, x0, x8, x106, x107, x418000, x418001 => if x107 < x106 then (lampblackref02_IsTree.l4 k x0 x8 x107 0 0 x106 x107 x418000 (x418000.length : Int) 0 x418000 x418001) else (some (wrap64 (x8 - 1), true))
def lampblackref02_IsTree.l4 : Nat → List Int → Int → Int → Int → Int → Int → Int → List Int → Int → Int → List Int → List Int → Option (Int × Bool)
 | 0, _, _, _, _, _, _, _, _, _, _, _, _ => none
 | k + 1, x0, x8, x13, x14, x15, x106, x107, x111, x112, x113, x418000, x418001 => if x113 < x112 then (if 0 ≤ x113 then (if x113 < (x111.length : Int) then (if 0 ≤ x13 then (if (Go.bits .and .i64 (shr .i64 (rd x111 x113) x13) 1) = 0 then (lampblackref02_IsTree.l4 k x0 x8 x13 x14 x15 x106 x107 x111 x112 (wrap64 (x113 + 1)) x418000 x418001) else (if x113 < (x418001.length : Int) then (if (rd x418001 x113) < 0 then (lampblackref02_IsTree.l4 k x0 x8 x13 (wrap64 (x14 + 1)) (Go.bits .or .i64 x15 (rd x111 x113)) x106 x107 x111 x112 (wrap64 (x113 + 1)) x418000 x418001) else (if 0 ≤ (rd x418001 x113) then (if (rd x418001 x113) < (x418000.length : Int) then (if (Go.bits .and .i64 (shr .i64 (rd x418000 (rd x418001 x113)) x13) 1) = 0 then (lampblackref02_IsTree.l4 k x0 x8 x13 (wrap64 (x14 + 1)) (Go.bits .or .i64 x15 (rd x111 x113)) x106 x107 x111 x112 (wrap64 (x113 + 1)) x418000 x418001) else (lampblackref02_IsTree.l4 k x0 x8 x13 x14 (Go.bits .or .i64 x15 (rd x111 x113)) x106 x107 x111 x112 (wrap64 (x113 + 1)) x418000 x418001)) else (none)) else (none))) else (none))) else (none)) else (none)) else (none)) else (if x14 = 1 then (if 0 ≤ x13 then (if x13 < (x0.length : Int) then (if (Go.bits .andNot .i64 (rd x0 x13) x15) = 0 then (lampblackref02_IsTree.l3 k x0 x8 x106 (wrap64 (x107 + 1)) x418000 x418001) else (some (0, false))) else (none)) else (none)) else (some (0, false)))
end
def lampblackref02_IsTree.f (k : Nat) (l0 : List Int) (l1_0 : List Int) (l1_1 : List Int) : Option (Int × Bool) := if (l1_0.length : Int) < 1 then (lampblackref02_IsTree.j0 k l0 (l1_0.length : Int) true l1_0 l1_1) else (if (l1_0.length : Int) > 30 then (lampblackref02_IsTree.j0 k l0 (l1_0.length : Int) true l1_0 l1_1) else (lampblackref02_IsTree.j0 k l0 (l1_0.length : Int) ((l1_1.length : Int) != (l1_0.length : Int)) l1_0 l1_1))
end
noncomputable section
def width_Tree_width.l0 : Nat → Int → List Int → Int → Int → Option (Int)
 | 0, _, _, _, _ => none
 | k + 1, x3, x7, x8, x9 => if x9 < x8 then (if 0 ≤ x9 then (if x9 < (x7.length : Int) then ((width_count.f (rd x7 x9)).bind fun t510 => (width_Tree_width.l0 k (mx x3 t510) x7 x8 (wrap64 (x9 + 1)))) else (none)) else (none)) else (some (wrap64 (x3 - 1)))
def width_Tree_width.f (k : Nat) (l0_0 : List Int) (l0_1 : List Int) : Option (Int) := width_Tree_width.l0 k 0 l0_0 (l0_0.length : Int) 0
set_option maxHeartbeats 8000000 in
set_option maxRecDepth 100000 in
theorem width_Tree_width.calls (k : Nat) (A0_0 : Option Addr) (c0_0 : Nat) (l0_0 : List Int) (A0_1 : Option Addr) (c0_1 : Nat) (l0_1 : List Int) (r : Int) (w : World) (hr0_0 : Kd.C (Kd.int .i64) w A0_0 l0_0.length l0_0) (hc0_0 : l0_0.length ≤ c0_0) (hr0_1 : Kd.C (Kd.int .i64) w A0_1 l0_1.length l0_1) (hc0_1 : l0_1.length ≤ c0_1) (h : width_Tree_width.f k l0_0 l0_1 = some r) :
  Calls Tryd.prog 81 #[.agg #[.slice A0_0 l0_0.length c0_0, .slice A0_1 l0_1.length c0_1]] w fun e w' => e = .returned (.int .i64 r) ∧ Below w.heap.size w w' := by
 have hu53 := Tryd.underlying53
 have HR0_0 := Aside0.mk hr0_0
 have HC0_0 := Aside0.mk hc0_0
 clear hr0_0 hc0_0
 have HR0_1 := Aside0.mk hr0_1
 have HC0_1 := Aside0.mk hc0_1
 clear hr0_1 hc0_1
 have HB := Aside0.mk (Below.refl w.heap.size w)
 have H : (width_Tree_width.l0 k 0 l0_0 (l0_0.length : Int) 0) = some r := h
 clear h
 have H' := Aside0.mk H
 clear H
 go_enter Tryd.func81, Tryd.ntmps81
 go_wp2_with (first | ((with_reducible refine gate_dst (N := 1) rfl ?_); refine box_event ?hg (N := 1) ?hd (cs := #[.slice A0_0 l0_0.length c0_0, .slice A0_1 l0_1.length c0_1]) (t := 53) ?hr ?_; (case hd => rfl); (case hg => rfl); (case hr => first | (go_simp; done) | (go_simp; rfl)); intro gb508 hg w2 hbox hb; have n0_ := Aside0.mk (below_step (Qaw) hb); have n1_ := Aside0.mk (hbox); have n2_ := Aside0.mk ((by rw [hg]; exact (below_size (Qaw)) : w.heap.size ≤ gb508)); have n3_ := Aside0.mk ((by rw [hg]; exact (below_size (Qaw)) : w.heap.size ≤ gb508)); clear HB; have HB := n0_; have BK508 := n1_; have GW508 := n2_; have GE508 := n3_; clear n0_ n1_ n2_ n3_; clear hb hbox hg; have hcz3_0 : w2.cell? ⟨gb508, 0, none⟩ = some (.slice A0_0 l0_0.length c0_0) := (blk_cell BK508.out 0).trans rfl; have hcz3_1 : w2.cell? ⟨gb508, 1, none⟩ = some (.slice A0_1 l0_1.length c0_1) := (blk_cell BK508.out 1).trans rfl; have hfz3_0 := blk_frozen BK508.out 0; have hfz3_1 := blk_frozen BK508.out 1))
 go_loopg [3, 9] k (fun kq v3 v9 w' => ∃ (x3_1 : Int) (x9_1 : Int), v3 = .int .i64 x3_1 ∧ v9 = .int .i64 x9_1 ∧ Aside0 (width_Tree_width.l0 kq x3_1 l0_0 (l0_0.length : Int) x9_1 = some r) ∧ Aside0 (kq ≤ k) ∧ Aside0 (w'.heap[gb508]? = some (.cells #[(.slice A0_0 l0_0.length c0_0), (.slice A0_1 l0_1.length c0_1)] 53 (0, 0))) ∧ Aside0 (Below w.heap.size w w'))
 case atStart => exact ⟨(0), (0), (Qrs), (Qrs), H', ⟨Nat.le_refl _⟩, ⟨by (with_reducible repeat (first | refine blk_drewN ?_ _ | refine blk_drew ?_ | refine blk_alloc ?_ _)); exact BK508.out⟩, ⟨by repeat (first | (with_reducible first | exact HB.out | apply below_alloc | apply pw_below_drewN | apply below_drew1 | refine below_set ?_ GE508.out) | exact HB.out)⟩⟩
 case round =>
  clear H'
  try clear p2
  try clear hcz3_0
  try clear hcz3_1
  try clear hfz3_0
  try clear hfz3_1
  obtain ⟨x3_1, x9_1, rfl, rfl, HA, HK1, BK508, HB⟩ := hrel
  cases gk with
  | zero => exact absurd HA.out (by simp [width_Tree_width.l0])
  | succ k1 =>
   have H := HA.out
   clear HA
   simp only [width_Tree_width.l0] at H
   by_cases c4 : x9_1 < (l0_0.length : Int)
   ·rw [if_pos c4] at H
    have c4b0 : decide (x9_1 < (l0_0.length : Int)) = true := decide_eq_true c4
    clear c4
    by_cases c5 : 0 ≤ x9_1
    ·rw [if_pos c5] at H
     have c5b0 : decide (0 ≤ x9_1) = true := decide_eq_true c5
     clear c5
     by_cases c6 : x9_1 < (l0_0.length : Int)
     ·rw [if_pos c6] at H
      have c6b0 : decide (x9_1 < (l0_0.length : Int)) = true := decide_eq_true c6
      clear c6
      replace H := Option.bind_eq_some_iff.mp H
      obtain ⟨t510, A70, H⟩ := H
      replace H : (width_Tree_width.l0 k1 (mx x3_1 t510) l0_0 (l0_0.length : Int) (wrap64 (x9_1 + 1))) = some r := H
      have A7 := Aside0.mk A70
      clear A70
      obtain ⟨ji8, hji8⟩ : ∃ j_ : Int, (mx x3_1 t510) = j_ := ⟨_, rfl⟩
      replace H : (width_Tree_width.l0 k1 ji8 l0_0 (l0_0.length : Int) (wrap64 (x9_1 + 1))) = some r := by first | (rw [hji8] at H; exact H) | (simp only [hji8] at H ⊢; exact H)
      (try rw [hji8] at A7)
      have hji8_ : (if x3_1 < t510 then t510 else x3_1) = ji8 := hji8
      have H' := Aside0.mk H
      clear H
      have p509 : 0 ≤ (x9_1 : Int) := of_decide_eq_true (Qas)
      have q509 : x9_1 < (l0_0.length : Int) := of_decide_eq_true (Qas)
      obtain ⟨ad509, e509, hx509_0⟩ := Kd.at_int HR0_0.out x9_1 p509 q509
      cases e509
      replace hx509_0 := (HB.out.cell (World.block_lt_of_cell? w _ hx509_0)).trans hx509_0
      replace p509 := eq_true p509
      replace q509 := eq_true q509
      go_wp2_with (first | ((with_reducible refine gate_callee (f := 68) rfl ?_); refine goesL_ (some 15) rfl rfl Tryd.func68 (by kernel_rfl) rfl #[.int .i64 (rd l0_0 x9_1)] rfl (Qls) ?_; (with_reducible refine (width_count.calls (rd l0_0 x9_1) t510 _ A7.out).mono ?_); rintro e w' ⟨rfl, ⟨nd, rfl⟩⟩; refine ⟨_, rfl, ?_⟩))
      go_roundg k1
      case measure => have := HK1.out; omega
      case rel => exact ⟨(ji8), (wrap64 (x9_1 + 1)), (by first | rfl | (simp; done) | (simp only [← hji8] <;> (first | rfl | simp)) | (simp [*]; done)), (Qrs), H', ⟨by have := HK1.out; omega⟩, ⟨by (with_reducible repeat (first | refine blk_drewN ?_ _ | refine blk_drew ?_ | refine blk_alloc ?_ _)); exact BK508.out⟩, ⟨by repeat (first | (with_reducible first | exact HB.out | apply below_alloc | apply pw_below_drewN | apply below_drew1 | refine below_set ?_ GE508.out) | exact HB.out)⟩⟩
     ·rw [if_neg c6] at H
      exact absurd H (by simp)
    ·rw [if_neg c5] at H
     exact absurd H (by simp)
   ·rw [if_neg c4] at H
    have c4b0 : decide (x9_1 < (l0_0.length : Int)) = false := decide_eq_false c4
    clear c4
    obtain rfl := Option.some.inj H
    go_wp2
    go_ret
    exact ⟨by first | rfl | (simp [errW_none, errW_some] <;> rfl) | (simp [*, errW_none, errW_some] <;> rfl), by repeat (first | (with_reducible first | exact HB.out | apply below_alloc | apply pw_below_drewN | apply below_drew1 | refine below_set ?_ GE508.out) | exact HB.out)⟩
end
end Go.Proofs.YtoffehihicabcaaDoor.X
end
section
namespace Go.Proofs.YtoffehihicabcaaDoor.X
open Go.RowKit YtoffehihicabcaaDoorW.PrintWords YtoffehihicabcaaDoorW.PrintLast YtoffehihicabcaaDoorW.PrintMore YtoffehihicabcaaDoor.T
def upI (P : List Int) (a : Int) : Int := if a < 0 then a else rd P a
def upN (P : List Int) : Nat → Int → Int
 | 0, a => a
 | d + 1, a => upN P d (upI P a)
theorem upN_neg (P : List Int) {a : Int} (h : a < 0) : ∀ d, upN P d a = a
 | 0 => rfl
 | d + 1 => by rw [upN, upI, if_pos h, upN_neg P h d]
theorem cycB_up (P : List Int) : ∀ d a, cycB P d a = decide (0 ≤ upN P d a)
 | 0, a => rfl
 | d + 1, a => by
  rw [cycB, upN, upI]
  by_cases h : a < 0
  ·rw [if_pos h, if_pos h, upN_neg P h d]
   simp; omega
  ·rw [if_neg h, if_neg h, cycB_up P d]
theorem upN_add (P : List Int) : ∀ (d e : Nat) (a : Int), upN P (d + e) a = upN P e (upN P d a)
 | 0, e, a => by rw [Nat.zero_add]; rfl
 | d + 1, e, a => by rw [show d + 1 + e = (d + e) + 1 by omega, upN, upN_add P d e, upN]
def rootsF (P : List Int) : Nat → Nat → Nat → Nat
 | 0, _, t => t
 | d + 1, i, t => rootsF P d (i + 1) (if rd P (i : Int) < 0 then t + 1 else t)
def unionF (B : List Int) : Nat → Nat → Nat → Nat
 | 0, _, t => t
 | d + 1, i, t => unionF B d (i + 1) (t ||| (rd B (i : Int)).toNat)
def mostF (B : List Int) : Nat → Nat → Nat → Nat
 | 0, _, t => t
 | d + 1, i, t => mostF B d (i + 1) (max t (pc (rd B (i : Int)).toNat 9))
def InT (G : List Nat) (B P : List Int) (n i : Nat) : Prop := -1 ≤ rd P (i : Int) ∧ rd P (i : Int) < (n : Int) ∧ 0 ≤ rd B (i : Int) ∧ rd B (i : Int) < ((2 ^ G.length : Nat) : Int)
structure TD (G : List Nat) (B P : List Int) : Prop where
 pos : 1 ≤ B.length
 most : B.length ≤ 30
 len : P.length = B.length
 inn : ∀ i, i < B.length → InT G B P B.length i
 root : rootsF P B.length 0 0 = 1
 acyc : ∀ i : Nat, i < B.length → upN P B.length (i : Int) < 0
 tops : ∀ v, v < G.length → topsF B P v B.length 0 0 = 1
 edge : ∀ v u, Adj G v u → ∃ i : Nat, i < B.length ∧ bitI (rd B (i : Int)) v = true ∧ bitI (rd B (i : Int)) u = true
theorem tl1_eq (G : List Nat) (B P : List Int) (n : Nat) : ∀ (d i ro ac : Nat), (∀ j, i ≤ j → j < i + d → InT G B P n j) → tl1 B P n (2 ^ G.length - 1) d i ro ac = some (rootsF P d i ro, unionF B d i ac)
 | 0, i, ro, ac, _ => rfl
 | d + 1, i, ro, ac, h => by
  obtain ⟨h1, h2, h3, h4⟩ := h i (Nat.le_refl _) (by omega)
  have := Nat.two_pow_pos G.length
  rw [tl1, if_neg (by omega), if_neg (by omega), if_neg (by omega), if_neg (by omega), tl1_eq G B P n d (i + 1) _ _ fun j hj hj2 => h j (by omega) (by omega)]
  rfl
theorem tl1_in (G : List Nat) (B P : List Int) (n : Nat) {d i ro ac : Nat} {r : Nat × Nat} (h : tl1 B P n (2 ^ G.length - 1) d i ro ac = some r) (j : Nat) (h1 : i ≤ j) (h2 : j < i + d) : InT G B P n j := by
 have := tl1_ok B P n _ d i ro ac r h j h1 h2
 have := Nat.two_pow_pos G.length
 exact ⟨by omega, by omega, by omega, by omega⟩
theorem unionF_bit (B : List Int) (v : Nat) : ∀ (d i t : Nat), bset (unionF B d i t) v ↔ bset t v ∨ ∃ j, i ≤ j ∧ j < i + d ∧ bitI (rd B (j : Int)) v = true
 | 0, i, t => ⟨fun h => .inl h, fun h => by
   rcases h with h | ⟨j, h1, h2, _⟩
   ·exact h
   ·omega⟩
 | d + 1, i, t => by
  rw [unionF, unionF_bit B v d (i + 1)]
  have e : bset (t ||| (rd B (i : Int)).toNat) v ↔ bset t v ∨ bitI (rd B (i : Int)) v = true := by
   unfold bset bitI
   rw [Nat.testBit_or, Bool.or_eq_true]
  rw [e]
  constructor
  ·rintro ((h | h) | ⟨j, h1, h2, h3⟩)
   ·exact .inl h
   ·exact .inr ⟨i, Nat.le_refl _, by omega, h⟩
   ·exact .inr ⟨j, by omega, by omega, h3⟩
  ·rintro (h | ⟨j, h1, h2, h3⟩)
   ·exact .inl (.inl h)
   ·by_cases e : j = i
    ·subst e; exact .inl (.inr h3)
    ·exact .inr ⟨j, by omega, by omega, h3⟩
theorem unionF_lt (B : List Int) {N : Nat} : ∀ (d i t : Nat), t < 2 ^ N → (∀ j, i ≤ j → j < i + d → 0 ≤ rd B (j : Int) ∧ rd B (j : Int) < ((2 ^ N : Nat) : Int)) → unionF B d i t < 2 ^ N
 | 0, i, t, h, _ => h
 | d + 1, i, t, h, hb => by
  rw [unionF]
  have := hb i (Nat.le_refl _) (by omega)
  exact unionF_lt B d (i + 1) _ (Nat.or_lt_two_pow h (by omega)) fun j h1 h2 => hb j (by omega) (by omega)
theorem topsF_none (B P : List Int) (v : Nat) : ∀ (d i t : Nat), (∀ j, i ≤ j → j < i + d → bitI (rd B (j : Int)) v = false) → topsF B P v d i t = t
 | 0, i, t, _ => rfl
 | d + 1, i, t, h => by
  rw [topsF, h i (Nat.le_refl _) (by omega), topsF_none B P v d (i + 1) _ fun j h1 h2 => h j (by omega) (by omega)]
  simp
theorem nbF_iff (B : List Int) (v : Nat) : ∀ l : List Nat, nbF B v l = true ↔ ∀ u ∈ l, ∃ i : Nat, i < B.length ∧ bitI (rd B (i : Int)) v = true ∧ bitI (rd B (i : Int)) u = true
 | [] => by simp [nbF]
 | u :: l => by
  rw [nbF, Bool.and_eq_true, nbF_iff B v l, List.any_eq_true]
  have e : (∃ x ∈ B, bothB u v x = true) ↔ ∃ i : Nat, i < B.length ∧ bitI (rd B (i : Int)) v = true ∧ bitI (rd B (i : Int)) u = true := by
   constructor
   ·rintro ⟨x, hx, h⟩
    obtain ⟨i, hi, rfl⟩ := List.mem_iff_getElem.1 hx
    have hr : rd B (i : Int) = B[i] := by unfold rd; rw [Int.toNat_natCast, List.getD_eq_getElem?_getD, List.getElem?_eq_getElem hi]; rfl
    unfold bothB at h
    rw [Bool.and_eq_true] at h
    exact ⟨i, hi, by rw [hr]; exact h.2, by rw [hr]; exact h.1⟩
   ·rintro ⟨i, hi, h1, h2⟩
    have hr : rd B (i : Int) = B[i] := by unfold rd; rw [Int.toNat_natCast, List.getD_eq_getElem?_getD, List.getElem?_eq_getElem hi]; rfl
    rw [hr] at h1 h2
    exact ⟨B[i], List.getElem_mem hi, by unfold bothB; rw [Bool.and_eq_true]; exact ⟨h2, h1⟩⟩
  rw [e]
  simp
theorem tl2_iff (G : List Nat) (B P : List Int) : ∀ (d v : Nat), tl2 G B P d v = true ↔ ∀ u, v ≤ u → u < v + d → topsF B P u B.length 0 0 = 1 ∧ nbF B u (els (G.getD u 0) 9) = true
 | 0, v => by
  rw [tl2]
  exact ⟨fun _ u h1 h2 => by omega, fun _ => rfl⟩
 | d + 1, v => by
  rw [tl2]
  constructor
  ·intro h u h1 h2
   by_cases ht : topsF B P v B.length 0 0 = 1
   ·rw [if_pos ht, Bool.and_eq_true, tl2_iff G B P d (v + 1)] at h
    by_cases e : u = v
    ·subst e; exact ⟨ht, h.1⟩
    ·exact h.2 u (by omega) (by omega)
   ·rw [if_neg ht] at h; cases h
  ·intro h
   obtain ⟨h1, h2⟩ := h v (Nat.le_refl _) (by omega)
   rw [if_pos h1, h2, Bool.true_and, tl2_iff G B P d (v + 1)]
   exact fun u h3 h4 => h u (by omega) (by omega)
theorem up_within {P : List Int} {n : Nat} (hP : ∀ i, i < n → rd P (i : Int) < (n : Int)) {i : Nat} (hi : i < n) {m : Nat} (hm : upN P m (i : Int) < 0) : upN P n (i : Int) < 0 := by
 apply Classical.byContradiction
 intro hno
 have stay : ∀ d e : Nat, upN P d (i : Int) < 0 → upN P (d + e) (i : Int) < 0 := fun d e h => by rw [upN_add, upN_neg P h]; exact h
 have hin : ∀ d, d ≤ n → ∃ j : Nat, upN P d (i : Int) = (j : Int) ∧ j < n := by
  intro d
  induction d with
  | zero => intro _; exact ⟨i, rfl, hi⟩
  | succ d ih =>
   intro hd
   obtain ⟨j, h1, h2⟩ := ih (by omega)
   have h3 : upN P (d + 1) (i : Int) = rd P (j : Int) := by
    rw [upN_add P d 1, h1]
    show upI P (j : Int) = _
    rw [upI, if_neg (by omega)]
   have h4 : ¬ upN P (d + 1) (i : Int) < 0 := fun h => hno (by
    have := stay (d + 1) (n - (d + 1)) h
    rwa [show d + 1 + (n - (d + 1)) = n by omega] at this)
   have := hP j h2
   exact ⟨(rd P (j : Int)).toNat, by rw [h3] at h4 ⊢; omega, by rw [h3] at h4; omega⟩
 obtain ⟨a, b, hab, hb, e⟩ : ∃ a b, a < b ∧ b ≤ n ∧ upN P a (i : Int) = upN P b (i : Int) := by
  apply Classical.byContradiction
  intro hx
  have hnd : ((List.range (n + 1)).map fun d => (upN P d (i : Int)).toNat).Nodup := by
   refine List.pairwise_map.2 (List.Pairwise.imp_of_mem (fun {a b} ha hb hlt e => hx ⟨a, b, hlt, by have := List.mem_range.1 hb; omega, ?_⟩) List.pairwise_lt_range)
   obtain ⟨j, h1, _⟩ := hin a (by have := List.mem_range.1 ha; omega)
   obtain ⟨j', h1', _⟩ := hin b (by have := List.mem_range.1 hb; omega)
   rw [h1, h1'] at e ⊢
   have e2 : j = j' := by simpa using e
   rw [e2]
  have := nodup_le hnd (m := List.range n) fun x hx => by
   obtain ⟨d, hd, rfl⟩ := List.mem_map.1 hx
   obtain ⟨j, h1, h2⟩ := hin d (by have := List.mem_range.1 hd; omega)
   rw [h1]
   exact List.mem_range.2 (by simpa using h2)
  simp at this
  omega
 have round : ∀ k, upN P (a + k * (b - a)) (i : Int) = upN P a (i : Int) := by
  intro k
  induction k with
  | zero => simp
  | succ k ih =>
   rw [show a + (k + 1) * (b - a) = (a + k * (b - a)) + (b - a) by rw [Nat.succ_mul]; omega, upN_add, ih, ← upN_add, show a + (b - a) = b by omega, ← e]
 obtain ⟨j, h1, h2⟩ := hin a (by omega)
 have h3 := round m
 have h4 : m ≤ a + m * (b - a) := by
  have : m * 1 ≤ m * (b - a) := Nat.mul_le_mul_left m (by omega)
  omega
 have h5 := stay m (a + m * (b - a) - m) hm
 rw [show m + (a + m * (b - a) - m) = a + m * (b - a) by omega, h3, h1] at h5
 omega
theorem rd_mem {P : List Int} {i : Nat} (hi : i < P.length) : rd P (i : Int) = P[i] := by unfold rd; rw [Int.toNat_natCast, List.getD_eq_getElem?_getD, List.getElem?_eq_getElem hi]; rfl
theorem acyc_iff {P : List Int} {n : Nat} (hl : P.length = n) (hP : ∀ i, i < n → rd P (i : Int) < (n : Int)) : P.any (cycB P n) = false ↔ ∀ i : Nat, i < n → upN P n (i : Int) < 0 := by
 rw [List.any_eq_false]
 have up1 : ∀ i : Nat, upN P n (rd P (i : Int)) = upN P (n + 1) (i : Int) := fun i => by
  rw [upN, upI, if_neg (by omega)]
 constructor
 ·intro h i hi
  have h1 := h (rd P (i : Int)) (by rw [rd_mem (by omega)]; exact List.getElem_mem _)
  rw [cycB_up] at h1
  have h2 : upN P (n + 1) (i : Int) < 0 := by rw [← up1]; simpa using h1
  exact up_within hP hi h2
 ·intro h x hx
  obtain ⟨i, hi, rfl⟩ := List.mem_iff_getElem.1 hx
  rw [cycB_up, ← rd_mem hi, up1, show n + 1 = n + 1 from rfl, upN_add P n 1]
  have := h i (by omega)
  show ¬ decide (0 ≤ upI P (upN P n (i : Int))) = true
  rw [upI, if_pos this]
  simp; omega
theorem treeB_iff {G : List Nat} (hG : Gr 9 G) (B P : List Int) : treeB G B P = true ↔ TD G B P := by
 have hn := hG.most
 have h0 := Nat.two_pow_pos G.length
 unfold treeB
 constructor
 ·intro h
  by_cases h1 : B.length < 1
  ·rw [if_pos h1] at h; cases h
  rw [if_neg h1] at h
  by_cases h2 : 30 < B.length
  ·rw [if_pos h2] at h; cases h
  rw [if_neg h2] at h
  by_cases h3 : P.length = B.length
  ·rw [if_pos h3] at h
   cases ht : tl1 B P B.length (2 ^ G.length - 1) B.length 0 0 0 with
   | none => rw [ht] at h; cases h
   | some r =>
    rw [ht] at h
    have hin : ∀ i, i < B.length → InT G B P B.length i := fun i hi => tl1_in G B P B.length ht i (Nat.zero_le _) (by omega)
    rw [tl1_eq G B P B.length B.length 0 0 0 fun j _ hj => hin j (by omega)] at ht
    obtain rfl := Option.some.inj ht
    simp only [treeB2] at h
    by_cases h4 : rootsF P B.length 0 0 = 1
    ·rw [if_pos h4] at h
     by_cases h5 : unionF B B.length 0 0 = 2 ^ G.length - 1
     ·rw [if_pos h5] at h
      by_cases h6 : P.any (cycB P P.length) = true
      ·rw [if_pos h6] at h; cases h
      ·rw [if_neg h6, tl2_iff] at h
       rw [h3] at h6
       refine ⟨by omega, by omega, h3, hin, h4, (acyc_iff h3 fun i hi => (hin i hi).2.1).1 (by simpa using h6), fun v hv => (h v (Nat.zero_le _) (by omega)).1, fun v u hvu => ?_⟩
       have hv := hG.adj_lt' hvu
       have hu := hG.adj_lt hvu
       exact (nbF_iff B v _).1 (h v (Nat.zero_le _) (by omega)).2 u (mem_els.2 ⟨by omega, hvu⟩)
     ·rw [if_neg h5] at h; cases h
    ·rw [if_neg h4] at h; cases h
  ·rw [if_neg h3] at h; cases h
 ·intro h
  have e1 := h.pos
  have e2 := h.most
  rw [if_neg (by omega), if_neg (by omega), if_pos h.len, tl1_eq G B P B.length B.length 0 0 0 fun j _ hj => h.inn j (by omega)]
  have hun : unionF B B.length 0 0 = 2 ^ G.length - 1 := Nat.eq_of_testBit_eq fun v => by
   have h1 := unionF_bit B v B.length 0 0
   have h2 := all_bit G.length v
   have h3 : bset (unionF B B.length 0 0) v ↔ bset (2 ^ G.length - 1) v := by
    rw [h1, h2]
    constructor
    ·intro h4
     have h5 : unionF B B.length 0 0 < 2 ^ G.length := unionF_lt B B.length 0 0 h0 fun j _ hj => ⟨(h.inn j (by omega)).2.2.1, (h.inn j (by omega)).2.2.2⟩
     exact bit_lt h5 (h1.2 h4)
    ·intro hv
     apply Classical.byContradiction
     intro h4
     have h5 := h.tops v hv
     rw [topsF_none B P v B.length 0 0 fun j _ hj => by
      cases hb : bitI (rd B (j : Int)) v
      ·rfl
      ·exact absurd (.inr ⟨j, Nat.zero_le _, by omega, hb⟩) h4] at h5
     cases h5
   unfold bset at h3
   exact Bool.eq_iff_iff.2 h3
  simp only [treeB2]
  have hac := (acyc_iff h.len fun i hi => (h.inn i hi).2.1).2 h.acyc
  rw [if_pos h.root, if_pos hun, h.len, if_neg (by rw [hac]; simp), tl2_iff]
  intro v _ hv
  refine ⟨h.tops v (by omega), (nbF_iff B v _).2 fun u hu => h.edge v u (mem_els.1 hu).2⟩
section
variable {G : List Nat} (hG : Gr 9 G) {B P : List Int} {n : Nat} (hB : B.length = n) (hP : P.length = n) (hn : n ≤ 30)
include hG hB hP hn
end
end Go.Proofs.YtoffehihicabcaaDoor.X
end
section
namespace Go.Proofs.YtoffehihicabcaaDoor.T
open Go.RowKit YtoffehihicabcaaDoorW.PrintWords YtoffehihicabcaaDoorW.PrintLast YtoffehihicabcaaDoorW.PrintMore
def IsOrd (n : Nat) (l : List Int) : Prop := ∃ P : List Nat, l = gi P ∧ P.Nodup ∧ (∀ v ∈ P, v < n) ∧ P.length = n
theorem gi_inj {a b : List Nat} (h : gi a = gi b) : a = b := by
 induction a generalizing b with
 | nil => cases b with
  | nil => rfl
  | cons => simp [gi] at h
 | cons x a ih => cases b with
  | nil => simp [gi] at h
  | cons y b =>
   simp only [gi, List.map_cons, List.cons.injEq] at h
   rw [ih (show gi a = gi b from h.2)]
   congr 1
   omega
theorem IsOrd.of {n : Nat} {P : List Nat} (h1 : P.Nodup) (h2 : ∀ v ∈ P, v < n) : IsOrd n (gi P) ↔ P.length = n := by
 constructor
 ·rintro ⟨Q, e, _, _, h⟩
  rw [gi_inj e]; exact h
 ·intro h; exact ⟨P, rfl, h1, h2, h⟩
theorem IsOrd.length {n : Nat} {l : List Int} (h : IsOrd n l) : l.length = n := by
 obtain ⟨P, rfl, _, _, h⟩ := h
 rw [gi_length, h]
def lft (G : List Nat) (gone : Nat) : Nat := diff (2 ^ G.length - 1) gone
theorem lft_bit (G : List Nat) (gone v : Nat) : bset (lft G gone) v ↔ v < G.length ∧ ¬ bset gone v := by
 unfold lft; rw [diff_bset, all_bit]
theorem eq_bits {x y : Nat} (h : ∀ j, bset x j ↔ bset y j) : x = y := Nat.eq_of_testBit_eq fun j => by
 have := h j
 unfold bset at this
 exact Bool.eq_iff_iff.2 this
theorem or_bit (x v j : Nat) : bset (x ||| 2 ^ v) j ↔ bset x j ∨ j = v := by
 unfold bset
 rw [Nat.testBit_or, Bool.or_eq_true]
 have := two_pow_bit v j
 unfold bset at this
 rw [this]
theorem lft_or {G : List Nat} {gone v : Nat} : lft G (gone ||| 2 ^ v) = diff (lft G gone) (2 ^ v) := by
 apply eq_bits
 intro j
 rw [lft_bit, or_bit, diff_bset, lft_bit, two_pow_bit, not_or]
 exact and_assoc.symm
section
variable {G : List Nat} (hn : G.length ≤ 9)
include hn
end
end Go.Proofs.YtoffehihicabcaaDoor.T
end
section
namespace Go.Proofs.YtoffehihicabcaaDoor.X
open Go.RowKit YtoffehihicabcaaDoorW.PrintWords YtoffehihicabcaaDoorW.PrintLast YtoffehihicabcaaDoorW.PrintMore YtoffehihicabcaaDoor.T
theorem und3 : Tryd.prog.underlying 3 = some (.int .i64) := by kernel_rfl
theorem law3 : Maps.Keyed Tryd.prog 3 := Maps.int_keyed und3
theorem key3 (g : Nat) (hg : g < 2 ^ 62) : keyOf Tryd.prog 3 (.int .i64 (g : Int)) = some (.int .i64 (g : Int)) := Maps.keyOf_int_mk und3 (by
 have h1 : (IntKind.i64.min : Int) = -9223372036854775808 := by decide
 have h2 : (IntKind.i64.max : Int) = 9223372036854775807 := by decide
 simp only [Lit.wf, decide_eq_true_eq, Bool.and_eq_true, h1, h2]
 omega)
def Knows (N : Nat) (f : Nat → Bool) (D : DataW Unit) : Prop :=
 (∀ kl, Maps.has D kl = true → ∃ g : Nat, g < N ∧ kl = .int .i64 (g : Int)) ∧ ∀ g : Nat, g < N → Maps.has D (.int .i64 (g : Int)) = true → D.atKey (.int .i64 (g : Int)) (.lit (.bool false)) = .lit (.bool (f g))
theorem own_bound {W : World} {b n N : Nat} {f : Nat → Bool} {D : DataW Unit} (h : W.ownsMap Tryd.prog 3 (plainElem Tryd.prog 4) b n D) (hk : Knows N f D) : W.ownsMap Tryd.prog 3 (plainElem Tryd.prog 4) b N D := by
 obtain ⟨L, e, h1, h2⟩ := h.canon law3
 obtain ⟨es, clock, hb, F, hs, hD⟩ := h
 refine ⟨es, clock, hb, F, ?_, hD⟩
 rw [hD] at e
 have e := DataW.map.inj e
 have hlen : es.size = L.length := by rw [← e, length_sorted]; simp
 rw [hlen]
 have hnd : (L.map fun p => match p.1 with | .int _ z => z.toNat | _ => 0).Nodup := by
  refine List.pairwise_map.2 (((Maps.apart_of_rising h1).imp_of_mem fun {a b} ha hb hab e2 => hab ?_))
  have key : ∀ p ∈ L, ∃ g : Nat, g < N ∧ p.1 = .int .i64 (g : Int) := fun p hp => hk.1 p.1 (by
   rw [hD, e, Maps.has_eq]
   exact List.any_eq_true.2 ⟨p, hp, WideAt.sameKey_self (h2 p hp)⟩)
  obtain ⟨g1, _, k1⟩ := key a ha
  obtain ⟨g2, _, k2⟩ := key b hb
  rw [k1, k2] at e2 ⊢
  simp at e2
  rw [e2]
 have hle : (L.map fun p => match p.1 with | .int _ z => z.toNat | _ => 0).length ≤ (List.range N).length := by
  refine nodup_le hnd fun x hx => ?_
  obtain ⟨p, hp, rfl⟩ := List.mem_map.1 hx
  obtain ⟨g, hg, k⟩ := hk.1 p.1 (by
   rw [hD, e, Maps.has_eq]
   exact List.any_eq_true.2 ⟨p, hp, WideAt.sameKey_self (h2 p hp)⟩)
  rw [k]
  exact List.mem_range.2 (by simpa using hg)
 simpa using hle
structure KM (W0 W : World) (mB N : Nat) (f : Nat → Bool) : Prop where
 map : ∃ D, W.ownsMap Tryd.prog 3 (plainElem Tryd.prog 4) mB N D ∧ Knows N f D
 grown : W0.grownBy W (some mB)
theorem KM.low {W0 W V : World} {mB N : Nat} {f : Nat → Bool} (h : KM W0 W mB N f) (hg : W.grownBy V none) : KM W0 V mB N f := by
 obtain ⟨⟨D, h1, h2⟩, h3⟩ := h
 exact ⟨⟨D, h1.kept hg (by simp), h2⟩, grown_new h3 hg (fun _ e => by cases e)⟩
theorem KM.put {W0 W V : World} {mB N g : Nat} {f : Nat → Bool} {D : DataW Unit} (h : KM W0 W mB N f) (hk : Knows N f D) (hg : g < N) (hN : N < 2 ^ 62) (ho : V.ownsMap Tryd.prog 3 (plainElem Tryd.prog 4) mB (N + 1) (D.put (.int .i64 (g : Int)) (.lit (.bool (f g))))) (hD : Maps.IsMap D) (hgr : W.grownBy V (some mB)) : KM W0 V mB N f := by
 have hkl := law3.key (key3 g (by omega))
 have hk2 : Knows N f (D.put (.int .i64 (g : Int)) (.lit (.bool (f g)))) := by
  refine ⟨fun kl hh => ?_, fun g' hg' hh => ?_⟩
  ·by_cases e : kl = .int .i64 (g : Int)
   ·exact ⟨g, hg, e⟩
   ·rw [Maps.has_put_other e] at hh
    exact hk.1 kl hh
  ·by_cases e : (Lit.int .i64 (g' : Int)) = .int .i64 (g : Int)
   ·have eg : g' = g := by
     injection e with _ e
     omega
    subst eg
    rw [Maps.atKey_put_same hD hkl]
   ·rw [Maps.has_put_other e] at hh
    rw [Maps.atKey_put_other e]
    exact hk.2 g' hg' hh
 exact ⟨⟨_, own_bound ho hk2, hk2⟩, grown_then h.grown hgr⟩
end Go.Proofs.YtoffehihicabcaaDoor.X
end
section
namespace Go.Proofs.YtoffehihicabcaaDoor.X
open Go.RowKit YtoffehihicabcaaDoorW.PrintWords YtoffehihicabcaaDoorW.PrintLast YtoffehihicabcaaDoorW.PrintMore YtoffehihicabcaaDoor.T
attribute [local go_sem] max2_int min2_int max_two min_two max_three min_three max_four min_four run_makeMap
section
variable (tB kB bB cB mB : Nat)
end
theorem gi_toNatO (G : List Nat) : (gi G).map Int.toNat = G := by
 unfold gi
 rw [List.map_map]
 conv => rhs; rw [← List.map_id G]
 exact List.map_congr_left fun x _ => by simp
end Go.Proofs.YtoffehihicabcaaDoor.X
end
section
namespace Go.Proofs.YtoffehihicabcaaDoor.X
open Go.RowKit YtoffehihicabcaaDoorW.PrintWords YtoffehihicabcaaDoorW.PrintLast YtoffehihicabcaaDoorW.PrintMore
attribute [local go_sem] max2_int min2_int max_two min_two max_three min_three max_four min_four
noncomputable section
def lampblackref02_turn.f (k : Nat) (l0 : List Int) (a1 : Int) (a2 : Int) : Option (Int) := if 0 ≤ a2 then ((lampblackref01_Reached.f k l0 (Go.bits .or .i64 a1 (shl .i64 1 a2)) a2).bind fun t343 => ((lampblackref02_Around.f k l0 t343).bind fun t344 => ((lampblackref02_Size.f k (Go.bits .andNot .i64 (Go.bits .andNot .i64 t344 a1) (shl .i64 1 a2))).bind fun t345 => (some t345)))) else (none)
end
noncomputable section
mutual
def lampblackref02_rest.l0 : Nat → List Int → Int → List Int → Int → Option (List Int)
 | 0, _, _, _, _ => none
 | k + 1, x0, x3, x4, x5 => if x5 ≥ 0 then (if 0 ≤ x5 then (if x5 < (x4.length : Int) then (lampblackref02_rest.l1 k x0 x3 (x4.set (x5 : Int).toNat x3) x5 (x0.length : Int) 0) else (none)) else (none)) else (some x4)
def lampblackref02_rest.l1 : Nat → List Int → Int → List Int → Int → Int → Int → Option (List Int)
 | 0, _, _, _, _, _, _ => none
 | k + 1, x0, x3, x4, x5, x24, x25 => if x25 < x24 then (if 0 ≤ x25 then (if (Go.bits .and .i64 (shr .i64 x5 x25) 1) = 0 then (if 0 ≤ x5 then (if x5 < (x4.length : Int) then ((lampblackref02_turn.f k x0 x5 x25).bind fun t351 => (if 0 ≤ (Go.bits .or .i64 x5 (shl .i64 1 x25)) then (if (Go.bits .or .i64 x5 (shl .i64 1 x25)) < (x4.length : Int) then (lampblackref02_rest.l1 k x0 x3 (x4.set (x5 : Int).toNat (mn (rd x4 x5) (mx t351 (rd x4 (Go.bits .or .i64 x5 (shl .i64 1 x25)))))) x5 x24 (wrap64 (x25 + 1))) else (none)) else (none))) else (none)) else (none)) else (lampblackref02_rest.l1 k x0 x3 x4 x5 x24 (wrap64 (x25 + 1)))) else (none)) else (lampblackref02_rest.l0 k x0 x3 x4 (wrap64 (x5 - 1)))
end
end
noncomputable section
mutual
def lampblackref02_Order.l0 : Nat → List Int → List Int → List Int → Int → Int → Int → Option (List Int)
 | 0, _, _, _, _, _, _ => none
 | k + 1, x0, x3, x4, x5, x10, x11 => if x11 < x10 then (lampblackref02_Order.l1 k x0 x3 x4 x5 x10 x11 (x0.length : Int) 0) else (some x4)
def lampblackref02_Order.l1 : Nat → List Int → List Int → List Int → Int → Int → Int → Int → Int → Option (List Int)
 | 0, _, _, _, _, _, _, _, _ => none
 | k + 1, x0, x3, x4, x5, x10, x11, x14, x15 => if x15 < x14 then (if 0 ≤ x15 then (if (Go.bits .and .i64 (shr .i64 x5 x15) 1) = 0 then ((lampblackref02_turn.f k x0 x5 x15).bind fun t363 => (if 0 ≤ (Go.bits .or .i64 x5 (shl .i64 1 x15)) then (if (Go.bits .or .i64 x5 (shl .i64 1 x15)) < (x3.length : Int) then (if 0 < (x3.length : Int) then (if (mx t363 (rd x3 (Go.bits .or .i64 x5 (shl .i64 1 x15)))) ≤ (rd x3 0) then (if x4.length < 17592186044416 then (lampblackref02_Order.l0 k x0 x3 (x4 ++ [x15]) (Go.bits .or .i64 x5 (shl .i64 1 x15)) x10 (wrap64 (x11 + 1))) else (none)) else (lampblackref02_Order.l1 k x0 x3 x4 x5 x10 x11 x14 (wrap64 (x15 + 1)))) else (none)) else (none)) else (none))) else (lampblackref02_Order.l1 k x0 x3 x4 x5 x10 x11 x14 (wrap64 (x15 + 1)))) else (none)) else (lampblackref02_Order.l0 k x0 x3 x4 x5 x10 (wrap64 (x11 + 1)))
end
end
noncomputable section
end
noncomputable section
def lampblackref02_Along.l0 : Nat → List Int → Int → Int → List Int → Int → Int → Option (Int)
 | 0, _, _, _, _, _, _ => none
 | k + 1, x0, x5, x6, x9, x10, x11 => if x11 < x10 then (if 0 ≤ x11 then (if x11 < (x9.length : Int) then ((lampblackref02_turn.f k x0 x6 (rd x9 x11)).bind fun t371 => (if 0 ≤ (rd x9 x11) then (lampblackref02_Along.l0 k x0 (mx x5 t371) (Go.bits .or .i64 x6 (shl .i64 1 (rd x9 x11))) x9 x10 (wrap64 (x11 + 1))) else (none))) else (none)) else (none)) else (some x5)
end
noncomputable section
def lampblackref02_IsOrder.l0 : Nat → List Int → Int → Int → List Int → Int → Int → Option (Bool)
 | 0, _, _, _, _, _, _ => none
 | k + 1, x0, x1, x5, x8, x9, x10 => if x10 < x9 then (if 0 ≤ x10 then (if x10 < (x8.length : Int) then (if (rd x8 x10) < 0 then (some false) else (if (rd x8 x10) ≥ x1 then (some false) else (if 0 ≤ (rd x8 x10) then (if (Go.bits .and .i64 (shr .i64 x5 (rd x8 x10)) 1) = 1 then (some false) else (lampblackref02_IsOrder.l0 k x0 x1 (Go.bits .or .i64 x5 (shl .i64 1 (rd x8 x10))) x8 x9 (wrap64 (x10 + 1)))) else (none)))) else (none)) else (none)) else (some ((x0.length : Int) == x1))
end
noncomputable section
def width_town_isOrder.l0 : Nat → List Int → List Int → Int → List Int → Int → Int → Option (Bool)
 | 0, _, _, _, _, _, _ => none
 | k + 1, x0, x1, x5, x8, x9, x10 => if x10 < x9 then (if 0 ≤ x10 then (if x10 < (x8.length : Int) then (if (rd x8 x10) < 0 then (some false) else (if (rd x8 x10) ≥ (x0.length : Int) then (some false) else (if 0 ≤ (rd x8 x10) then (width_town_isOrder.l0 k x0 x1 (Go.bits .or .i64 x5 (shl .i64 1 (rd x8 x10))) x8 x9 (wrap64 (x10 + 1))) else (none)))) else (none)) else (none)) else (if (x1.length : Int) = (x0.length : Int) then ((width_town_all.f x0).bind fun t335 => (some (x5 == t335))) else (some false))
end
noncomputable section
mutual
def width_Along.j0 : Nat → List Int → List Int → Bool → Option (Int × Int)
 | 0, _, _, _ => none
 | k + 1, x1, x6, x24 => if x24 = true then (some (0, 2)) else (width_Along.l0 k x6 0 0 x1 (x1.length : Int) 0)
def width_Along.l0 : Nat → List Int → Int → Int → List Int → Int → Int → Option (Int × Int)
 | 0, _, _, _, _, _, _ => none
 | k + 1, x6, x8, x9, x25, x26, x27 => if x27 < x26 then (if 0 ≤ x27 then (if x27 < (x25.length : Int) then ((width_town_degree.f k x6 (rd x25 x27) x8).bind fun t342 => (if 0 ≤ (rd x25 x27) then (width_Along.l0 k x6 (Go.bits .or .i64 x8 (shl .i64 1 (rd x25 x27))) (mx x9 t342) x25 x26 (wrap64 (x27 + 1))) else (none))) else (none)) else (none)) else (some (x9, 0))
end
end
noncomputable section
end
noncomputable section
mutual
def width_town_decompose.l0 : Nat → List Int → List Int → Int → List Int → Int → Int → List Int → List Int → Option (List Int × List Int)
 | 0, _, _, _, _, _, _, _, _ => none
 | k + 1, x0, x3, x5, x13, x14, x15, x565000, x565001 => if x15 < x14 then (if 0 ≤ x15 then (if x15 < (x13.length : Int) then (if 0 ≤ (rd x13 x15) then ((width_town_part.f k x0 (shl .i64 1 (rd x13 x15)) (Go.bits .or .i64 x5 (shl .i64 1 (rd x13 x15)))).bind fun t566 => ((width_town_around.f k x0 t566).bind fun t567 => (if x565000.length < 17592186044416 then (width_town_decompose.l1 k x0 x3 (Go.bits .or .i64 x5 (shl .i64 1 (rd x13 x15))) (Go.bits .andNot .i64 (Go.bits .andNot .i64 t567 x5) (shl .i64 1 (rd x13 x15))) (wrap64 (x15 + 1)) (wrap64 (x15 + 1)) x13 x14 x15 (x565000 ++ [Go.bits .or .i64 (Go.bits .andNot .i64 (Go.bits .andNot .i64 t567 x5) (shl .i64 1 (rd x13 x15))) (shl .i64 1 (rd x13 x15))]) x565001) else (none)))) else (none)) else (none)) else (none)) else (some (x565000, x565001))
def width_town_decompose.l1 : Nat → List Int → List Int → Int → Int → Int → Int → List Int → Int → Int → List Int → List Int → Option (List Int × List Int)
 | 0, _, _, _, _, _, _, _, _, _, _, _ => none
 | k + 1, x0, x3, x5, x8, x9, x10, x13, x14, x15, x565000, x565001 => if x10 < (x3.length : Int) then (if 0 ≤ x10 then (if 0 ≤ (rd x3 x10) then (if (Go.bits .and .i64 (shr .i64 x8 (rd x3 x10)) 1) = 1 then (if x10 = (x3.length : Int) then (if x565001.length < 17592186044416 then (width_town_decompose.l0 k x0 x3 x5 x13 x14 (wrap64 (x15 + 1)) x565000 (x565001 ++ [(-1)])) else (none)) else (if x565001.length < 17592186044416 then (width_town_decompose.l0 k x0 x3 x5 x13 x14 (wrap64 (x15 + 1)) x565000 (x565001 ++ [x10])) else (none))) else (width_town_decompose.l1 k x0 x3 x5 x8 x9 (wrap64 (x10 + 1)) x13 x14 x15 x565000 x565001)) else (none)) else (none)) else (if x9 = (x3.length : Int) then (if x565001.length < 17592186044416 then (width_town_decompose.l0 k x0 x3 x5 x13 x14 (wrap64 (x15 + 1)) x565000 (x565001 ++ [(-1)])) else (none)) else (if x565001.length < 17592186044416 then (width_town_decompose.l0 k x0 x3 x5 x13 x14 (wrap64 (x15 + 1)) x565000 (x565001 ++ [x9])) else (none)))
end
def width_town_decompose.T9 : Bool × List (List Nat × List Nat) := (true, [([], []), ([0], [0]), ([], []), ([], []), ([3], [3]), ([2, 4], [2, 4]), ([5], [5]), ([1, 6], [1, 6]), ([0, 1, 2, 3, 4, 5, 6, 7], []), ([8, 7, 7, 0, 1, 2, 3, 4, 5, 6, 7], [7, 8])])
def width_town_decompose.B9 : List Nat := [0, 1, 0, 0, 8, 28, 60, 127, 255, 511]
theorem width_town_decompose.tab9 : rtab .any (opsOf Tryd.f83 9) = width_town_decompose.T9 := by kernel_rfl
theorem width_town_decompose.bits9 : waitsOk width_town_decompose.T9.2 width_town_decompose.B9 = true := by kernel_rfl
end
noncomputable section
end
end Go.Proofs.YtoffehihicabcaaDoor.X
end
section
namespace Go.Proofs.YtoffehihicabcaaDoor.X
open Go.RowKit YtoffehihicabcaaDoorW.PrintWords YtoffehihicabcaaDoorW.PrintLast YtoffehihicabcaaDoorW.PrintMore YtoffehihicabcaaDoor.T
structure OrdL (G O : List Nat) : Prop where
 nd : O.Nodup
 inn : ∀ v ∈ O, v < G.length
 len : O.length = G.length
section
variable {G O : List Nat} (hG : Gr 9 G) (h : OrdL G O)
include hG h
omit hG in
end
theorem treeWidth_l0 (B P : List Int) (hB : ∀ i, i < B.length → 0 ≤ rd B (i : Int) ∧ rd B (i : Int) < 512) (hl : B.length ≤ 30) : ∀ d i m, i + d = B.length → m ≤ 9 → Ev (fun k => width_Tree_width.l0 k (m : Nat) B (B.length : Int) (i : Int)) ((mostF B d i m : Int) - 1) := by
 intro d
 induction d with
 | zero =>
  intro i m hi hm
  rw [mostF]
  refine Ev.step (f := fun _ => some (wrap64 ((m : Int) - 1))) (fun k => by rw [width_Tree_width.l0, if_neg (by omega)]) (Ev.some ?_)
  rw [w64_small _ (by omega) (by omega)]
 | succ d ih =>
  intro i m hi hm
  obtain ⟨b1, b2⟩ := hB i (by omega)
  obtain ⟨b, hb⟩ : ∃ b : Nat, rd B (i : Int) = (b : Int) := ⟨(rd B (i : Int)).toNat, by omega⟩
  have hbt : (rd B (i : Int)).toNat = b := by omega
  have hpc := pc_le b 9
  rw [mostF, hbt]
  refine Ev.step (fun k => by rw [width_Tree_width.l0, if_pos (by omega), if_pos (by omega), if_pos (by omega), hb, wrap_succ i (by omega)]) (Ev.bind1 (count_eq b (by omega)) ?_)
  rw [mx_nat]
  exact ih (i + 1) _ (by omega) (by omega)
theorem treeWidth_ev {G : List Nat} (hG : Gr 9 G) {B P : List Int} (h : TD G B P) : Ev (fun k => width_Tree_width.f k B P) ((mostF B B.length 0 0 : Int) - 1) := by
 have h29 : 2 ^ G.length ≤ 2 ^ 9 := Nat.pow_le_pow_right (by omega) hG.most
 unfold width_Tree_width.f
 exact treeWidth_l0 B P (fun i hi => by have := h.inn i hi; exact ⟨this.2.2.1, by have := this.2.2.2; omega⟩) h.most B.length 0 0 (by omega) (by omega)
end Go.Proofs.YtoffehihicabcaaDoor.X
end
