/- Part 1 of what WidthParts rests on: contracts of the functions that it reaches, and what they compute, in plain words. -/
import Derived.Test.YtoffehihicabcaaDoorZWidthParts0
import Derived.Test.YtoffehihicabcaaDoorWMore
import Derived.Laws.BitsLemmas
section
-- by ownprint.py (wip/tool), over the kit's print
namespace Go.Proofs.YtoffehihicabcaaDoor.X
open Go.RowKit Go.Proofs.YtoffehihicabcaaDoorW.PrintWords Go.Proofs.YtoffehihicabcaaDoorW.PrintLast Go.Proofs.YtoffehihicabcaaDoorW.PrintMore
attribute [local go_sem] max2_int min2_int max_two min_two max_three min_three max_four min_four
set_option linter.unusedVariables false
set_option linter.unusedSimpArgs false

/-! ### lampblacklaw02_WidthParts: function 3 -/
mutual
def lampblacklaw02_WidthParts.j0 : Nat → List Int → Int → Int → Int → Int → Bool → Option (Bool)
  | 0, _, _, _, _, _, _ => none
  | k + 1, x0, x1, x2, x7, x8, x29 => if x29 = true then (if x8 = 0 then ((lampblacklaw02_awake.f k).bind fun t164 => (some t164)) else (if x8 = 2 then ((lampblacklaw02_awake.f k).bind fun t165 => (some t165)) else (some false))) else (if (IntKind.u64.wrap ((x0.length : Int))) = 0 then (none) else ((lampblacklaw02_without.f k x0 (wrap64 (Int.tmod (IntKind.u64.wrap (x1)) (IntKind.u64.wrap ((x0.length : Int)))))).bind fun t166 => ((some (([t166] : List (List Int)) : List (List Int))).bind fun y169 => (if 0 ≤ (wrap64 (Int.tmod (IntKind.u64.wrap (x1)) (IntKind.u64.wrap ((x0.length : Int))))) then (if (wrap64 (Int.tmod (IntKind.u64.wrap (x1)) (IntKind.u64.wrap ((x0.length : Int))))) < (x0.length : Int) then (if 0 ≤ (wrap64 (Int.tmod (IntKind.u64.wrap (x2)) (IntKind.u64.wrap ((x0.length : Int))))) then (if (Go.bits .and .i64 (shr .i64 (rd x0 (wrap64 (Int.tmod (IntKind.u64.wrap (x1)) (IntKind.u64.wrap ((x0.length : Int)))))) (wrap64 (Int.tmod (IntKind.u64.wrap (x2)) (IntKind.u64.wrap ((x0.length : Int)))))) 1) = 1 then ((lampblacklaw02_Few.f x0).bind fun t173 => ((lampblacklaw02_Few.f x0).bind fun t176 => (if (wrap64 (Int.tmod (IntKind.u64.wrap (x1)) (IntKind.u64.wrap ((x0.length : Int))))) < (t173.length : Int) then ((some (t173.set ((wrap64 (Int.tmod (IntKind.u64.wrap (x1)) (IntKind.u64.wrap ((x0.length : Int))))) : Int).toNat (Go.bits .andNot .i64 (rd t173 (wrap64 (Int.tmod (IntKind.u64.wrap (x1)) (IntKind.u64.wrap ((x0.length : Int)))))) (shl .i64 1 (wrap64 (Int.tmod (IntKind.u64.wrap (x2)) (IntKind.u64.wrap ((x0.length : Int))))))) : List Int)).bind fun y180 => (if (wrap64 (Int.tmod (IntKind.u64.wrap (x2)) (IntKind.u64.wrap ((x0.length : Int))))) < (t173.length : Int) then (lampblacklaw02_WidthParts.l0 k x0 (wrap64 (Int.tmod (IntKind.u64.wrap (x1)) (IntKind.u64.wrap ((x0.length : Int))))) (wrap64 (Int.tmod (IntKind.u64.wrap (x2)) (IntKind.u64.wrap ((x0.length : Int))))) x7 y169 (y180.set ((wrap64 (Int.tmod (IntKind.u64.wrap (x2)) (IntKind.u64.wrap ((x0.length : Int))))) : Int).toNat (Go.bits .andNot .i64 (rd y180 (wrap64 (Int.tmod (IntKind.u64.wrap (x2)) (IntKind.u64.wrap ((x0.length : Int)))))) (shl .i64 1 (wrap64 (Int.tmod (IntKind.u64.wrap (x1)) (IntKind.u64.wrap ((x0.length : Int)))))))) t176 (t176.length : Int) 0) else (none))) else (none)))) else (lampblacklaw02_WidthParts.j2 k x7 y169)) else (none)) else (none)) else (none)))))
def lampblacklaw02_WidthParts.j2 : Nat → Int → List (List Int) → Option (Bool)
  | 0, _, _ => none
  | k + 1, x7, x9 => lampblacklaw02_WidthParts.l1 k x7 x9 (x9.length : Int) 0
def lampblacklaw02_WidthParts.l1 : Nat → Int → List (List Int) → Int → Int → Option (Bool)
  | 0, _, _, _, _ => none
  | k + 1, x7, x135, x136, x137 => if x137 < x136 then (if 0 ≤ x137 then (if x137 < (x135.length : Int) then ((width_Width.f k (rd_L1 x135 x137)).bind fun bt200 => (if bt200.2 = 0 then (if bt200.1 > x7 then (some false) else (if bt200.1 < (wrap64 (x7 - 1)) then (some false) else (lampblacklaw02_WidthParts.l1 k x7 x135 x136 (wrap64 (x137 + 1))))) else (some false))) else (none)) else (none)) else ((lampblacklaw02_awake.f k).bind fun t202 => (some t202))
def lampblacklaw02_WidthParts.l0 : Nat → List Int → Int → Int → Int → List (List Int) → List Int → List Int → Int → Int → Option (Bool)
  | 0, _, _, _, _, _, _, _, _, _ => none
  | k + 1, x0, x1, x2, x7, x9, x10, x11, x86, x87 => if x87 < x86 then (if x87 = x1 then (lampblacklaw02_WidthParts.l0 k x0 x1 x2 x7 x9 x10 x11 x86 (wrap64 (x87 + 1))) else (if 0 ≤ x2 then (if x2 < (x0.length : Int) then (if 0 ≤ x87 then (if (Go.bits .and .i64 (shr .i64 (rd x0 x2) x87) 1) = 1 then (if x87 < (x11.length : Int) then (if 0 ≤ x1 then ((some (x11.set (x87 : Int).toNat (Go.bits .or .i64 (rd x11 x87) (shl .i64 1 x1)) : List Int)).bind fun y185 => (if x1 < (x11.length : Int) then (lampblacklaw02_WidthParts.l0 k x0 x1 x2 x7 x9 x10 (y185.set (x1 : Int).toNat (Go.bits .or .i64 (rd y185 x1) (shl .i64 1 x87))) x86 (wrap64 (x87 + 1))) else (none))) else (none)) else (none)) else (lampblacklaw02_WidthParts.l0 k x0 x1 x2 x7 x9 x10 x11 x86 (wrap64 (x87 + 1)))) else (none)) else (none)) else (none))) else (if 0 ≤ x1 then (if x1 < (x11.length : Int) then ((lampblacklaw02_without.f k (x11.set (x1 : Int).toNat (Go.bits .andNot .i64 (rd x11 x1) (shl .i64 1 x1))) x2).bind fun t190 => ((some (([x10, t190] : List (List Int)) : List (List Int))).bind fun y193 => (if x9.length + y193.length < 5864062014805 then (lampblacklaw02_WidthParts.j2 k x7 (x9 ++ y193)) else (none)))) else (none)) else (none))
end
def lampblacklaw02_WidthParts.f (k : Nat) (l0 : List Int) (a1 : Int) (a2 : Int) : Option (Bool) := (lampblacklaw02_Few.f l0).bind fun t159 => ((width_Width.f k t159).bind fun bt162 => (if bt162.2 = 0 then (lampblacklaw02_WidthParts.j0 k l0 a1 a2 bt162.1 bt162.2 (decide ((l0.length : Int) < 2))) else (lampblacklaw02_WidthParts.j0 k l0 a1 a2 bt162.1 bt162.2 true)))
theorem lampblacklaw02_WidthParts.mono_l : ∀ k, (∀ y0 y1 y2 y3 y4 y5, LeO (lampblacklaw02_WidthParts.j0 k y0 y1 y2 y3 y4 y5) (lampblacklaw02_WidthParts.j0 (k + 1) y0 y1 y2 y3 y4 y5)) ∧ (∀ y0 y1, LeO (lampblacklaw02_WidthParts.j2 k y0 y1) (lampblacklaw02_WidthParts.j2 (k + 1) y0 y1)) ∧ (∀ y0 y1 y2 y3, LeO (lampblacklaw02_WidthParts.l1 k y0 y1 y2 y3) (lampblacklaw02_WidthParts.l1 (k + 1) y0 y1 y2 y3)) ∧ (∀ y0 y1 y2 y3 y4 y5 y6 y7 y8, LeO (lampblacklaw02_WidthParts.l0 k y0 y1 y2 y3 y4 y5 y6 y7 y8) (lampblacklaw02_WidthParts.l0 (k + 1) y0 y1 y2 y3 y4 y5 y6 y7 y8))
  | 0 => ⟨fun _ _ _ _ _ _ r h => by simp [lampblacklaw02_WidthParts.j0] at h, fun _ _ r h => by simp [lampblacklaw02_WidthParts.j2] at h, fun _ _ _ _ r h => by simp [lampblacklaw02_WidthParts.l1] at h, fun _ _ _ _ _ _ _ _ _ r h => by simp [lampblacklaw02_WidthParts.l0] at h⟩
  | k + 1 => by
    obtain ⟨ih0, ih1, ih2, ih3⟩ := lampblacklaw02_WidthParts.mono_l k
    refine ⟨?_, ?_, ?_, ?_⟩
    · intro y0 y1 y2 y3 y4 y5
      unfold lampblacklaw02_WidthParts.j0
      repeat' first
      | (with_reducible exact ih0 _ _ _ _ _ _)
      | (with_reducible exact ih1 _ _)
      | (with_reducible exact ih2 _ _ _ _)
      | (with_reducible exact ih3 _ _ _ _ _ _ _ _ _)
      | (with_reducible exact lampblacklaw02_awake.mono _)
      | (with_reducible exact lampblacklaw02_without.mono _ _ _)
      | (with_reducible exact width_Width.mono _ _)
      | (with_reducible exact LeO.refl _)
      | (with_reducible exact LeO.none _)
      | (with_reducible refine LeO.ite ?_ ?_)
      | (with_reducible refine LeO.bind ?_ (fun _ => ?_))
      | exact ih0 _ _ _ _ _ _
      | exact ih1 _ _
      | exact ih2 _ _ _ _
      | exact ih3 _ _ _ _ _ _ _ _ _
      | exact lampblacklaw02_awake.mono _
      | exact lampblacklaw02_without.mono _ _ _
      | exact width_Width.mono _ _
      | exact LeO.none _
      | refine LeO.ite ?_ ?_
      | refine LeO.bind ?_ (fun _ => ?_)
    · intro y0 y1
      unfold lampblacklaw02_WidthParts.j2
      repeat' first
      | (with_reducible exact ih0 _ _ _ _ _ _)
      | (with_reducible exact ih1 _ _)
      | (with_reducible exact ih2 _ _ _ _)
      | (with_reducible exact ih3 _ _ _ _ _ _ _ _ _)
      | (with_reducible exact lampblacklaw02_awake.mono _)
      | (with_reducible exact lampblacklaw02_without.mono _ _ _)
      | (with_reducible exact width_Width.mono _ _)
      | (with_reducible exact LeO.refl _)
      | (with_reducible exact LeO.none _)
      | (with_reducible refine LeO.ite ?_ ?_)
      | (with_reducible refine LeO.bind ?_ (fun _ => ?_))
      | exact ih0 _ _ _ _ _ _
      | exact ih1 _ _
      | exact ih2 _ _ _ _
      | exact ih3 _ _ _ _ _ _ _ _ _
      | exact lampblacklaw02_awake.mono _
      | exact lampblacklaw02_without.mono _ _ _
      | exact width_Width.mono _ _
      | exact LeO.none _
      | refine LeO.ite ?_ ?_
      | refine LeO.bind ?_ (fun _ => ?_)
    · intro y0 y1 y2 y3
      unfold lampblacklaw02_WidthParts.l1
      repeat' first
      | (with_reducible exact ih0 _ _ _ _ _ _)
      | (with_reducible exact ih1 _ _)
      | (with_reducible exact ih2 _ _ _ _)
      | (with_reducible exact ih3 _ _ _ _ _ _ _ _ _)
      | (with_reducible exact lampblacklaw02_awake.mono _)
      | (with_reducible exact lampblacklaw02_without.mono _ _ _)
      | (with_reducible exact width_Width.mono _ _)
      | (with_reducible exact LeO.refl _)
      | (with_reducible exact LeO.none _)
      | (with_reducible refine LeO.ite ?_ ?_)
      | (with_reducible refine LeO.bind ?_ (fun _ => ?_))
      | exact ih0 _ _ _ _ _ _
      | exact ih1 _ _
      | exact ih2 _ _ _ _
      | exact ih3 _ _ _ _ _ _ _ _ _
      | exact lampblacklaw02_awake.mono _
      | exact lampblacklaw02_without.mono _ _ _
      | exact width_Width.mono _ _
      | exact LeO.none _
      | refine LeO.ite ?_ ?_
      | refine LeO.bind ?_ (fun _ => ?_)
    · intro y0 y1 y2 y3 y4 y5 y6 y7 y8
      unfold lampblacklaw02_WidthParts.l0
      repeat' first
      | (with_reducible exact ih0 _ _ _ _ _ _)
      | (with_reducible exact ih1 _ _)
      | (with_reducible exact ih2 _ _ _ _)
      | (with_reducible exact ih3 _ _ _ _ _ _ _ _ _)
      | (with_reducible exact lampblacklaw02_awake.mono _)
      | (with_reducible exact lampblacklaw02_without.mono _ _ _)
      | (with_reducible exact width_Width.mono _ _)
      | (with_reducible exact LeO.refl _)
      | (with_reducible exact LeO.none _)
      | (with_reducible refine LeO.ite ?_ ?_)
      | (with_reducible refine LeO.bind ?_ (fun _ => ?_))
      | exact ih0 _ _ _ _ _ _
      | exact ih1 _ _
      | exact ih2 _ _ _ _
      | exact ih3 _ _ _ _ _ _ _ _ _
      | exact lampblacklaw02_awake.mono _
      | exact lampblacklaw02_without.mono _ _ _
      | exact width_Width.mono _ _
      | exact LeO.none _
      | refine LeO.ite ?_ ?_
      | refine LeO.bind ?_ (fun _ => ?_)
theorem lampblacklaw02_WidthParts.mono : ∀ a0 a1 a2 k, LeO (lampblacklaw02_WidthParts.f k a0 a1 a2) (lampblacklaw02_WidthParts.f (k + 1) a0 a1 a2) := by
  intro a0 a1 a2 k
  obtain ⟨ih0, ih1, ih2, ih3⟩ := lampblacklaw02_WidthParts.mono_l k
  unfold lampblacklaw02_WidthParts.f
  repeat' first
      | (with_reducible exact ih0 _ _ _ _ _ _)
      | (with_reducible exact ih1 _ _)
      | (with_reducible exact ih2 _ _ _ _)
      | (with_reducible exact ih3 _ _ _ _ _ _ _ _ _)
      | (with_reducible exact lampblacklaw02_awake.mono _)
      | (with_reducible exact lampblacklaw02_without.mono _ _ _)
      | (with_reducible exact width_Width.mono _ _)
      | (with_reducible exact LeO.refl _)
      | (with_reducible exact LeO.none _)
      | (with_reducible refine LeO.ite ?_ ?_)
      | (with_reducible refine LeO.bind ?_ (fun _ => ?_))
      | exact ih0 _ _ _ _ _ _
      | exact ih1 _ _
      | exact ih2 _ _ _ _
      | exact ih3 _ _ _ _ _ _ _ _ _
      | exact lampblacklaw02_awake.mono _
      | exact lampblacklaw02_without.mono _ _ _
      | exact width_Width.mono _ _
      | exact LeO.none _
      | refine LeO.ite ?_ ?_
      | refine LeO.bind ?_ (fun _ => ?_)
def lampblacklaw02_WidthParts.T4 : Bool × List (List Nat × List Nat) := (true, [([], []), ([0], [0]), ([], []), ([2], [2]), ([3], [3]), ([1, 4], [1, 4]), ([5], [5]), ([], []), ([7], [7]), ([], []), ([9], [9]), ([10], [10]), ([8, 11], [8, 11]), ([12], [12]), ([6, 0, 1, 2, 3, 4, 5, 6], [0, 6]), ([13, 14, 0, 1, 2, 3, 4, 5, 6, 7, 8, 9, 10, 11, 12, 13, 14], [7, 13])])
def lampblacklaw02_WidthParts.B4 : List Nat := [0, 1, 0, 4, 12, 31, 63, 0, 128, 0, 512, 1536, 3968, 8064, 127, 32767]
theorem lampblacklaw02_WidthParts.tab4 : rtab .any (opsOf Tryd.f3 4) = lampblacklaw02_WidthParts.T4 := by kernel_rfl
theorem lampblacklaw02_WidthParts.bits4 : waitsOk lampblacklaw02_WidthParts.T4.2 lampblacklaw02_WidthParts.B4 = true := by kernel_rfl
def lampblacklaw02_WidthParts.T8 : Bool × List (List Nat × List Nat) := (true, [([], []), ([], []), ([0, 1], [0, 1]), ([2], [2]), ([], []), ([4], [4]), ([3, 5], [3, 5]), ([0, 1, 0, 1, 2, 3, 4, 5, 6], [0, 1]), ([7, 6, 0, 1, 2, 3, 4, 5, 6], [6, 7])])
def lampblacklaw02_WidthParts.B8 : List Nat := [0, 0, 3, 7, 0, 16, 63, 127, 255]
theorem lampblacklaw02_WidthParts.tab8 : rtab .any (opsOf Tryd.f3 8) = lampblacklaw02_WidthParts.T8 := by kernel_rfl
theorem lampblacklaw02_WidthParts.bits8 : waitsOk lampblacklaw02_WidthParts.T8.2 lampblacklaw02_WidthParts.B8 = true := by kernel_rfl
def lampblacklaw02_WidthParts.T9 : Bool × List (List Nat × List Nat) := (true, [([], []), ([], []), ([0, 1], [0, 1]), ([2], [2]), ([], []), ([4], [4]), ([3, 5], [3, 5]), ([0, 1, 0, 1, 2, 3, 4, 5, 6], [0, 1]), ([7, 6, 0, 1, 2, 3, 4, 5, 6], [6, 7])])
def lampblacklaw02_WidthParts.B9 : List Nat := [0, 0, 3, 7, 0, 16, 63, 127, 255]
theorem lampblacklaw02_WidthParts.tab9 : rtab .any (opsOf Tryd.f3 9) = lampblacklaw02_WidthParts.T9 := by kernel_rfl
theorem lampblacklaw02_WidthParts.bits9 : waitsOk lampblacklaw02_WidthParts.T9.2 lampblacklaw02_WidthParts.B9 = true := by kernel_rfl
def lampblacklaw02_WidthParts.T14 : Bool × List (List Nat × List Nat) := (true, [([], []), ([], []), ([0, 1], [0, 1]), ([2], [2]), ([], []), ([4], [4]), ([3, 5], [3, 5]), ([0, 1, 0, 1, 2, 3, 4, 5, 6], [0, 1]), ([7, 6, 0, 1, 2, 3, 4, 5, 6], [6, 7])])
def lampblacklaw02_WidthParts.B14 : List Nat := [0, 0, 3, 7, 0, 16, 63, 127, 255]
theorem lampblacklaw02_WidthParts.tab14 : rtab .any (opsOf Tryd.f3 14) = lampblacklaw02_WidthParts.T14 := by kernel_rfl
theorem lampblacklaw02_WidthParts.bits14 : waitsOk lampblacklaw02_WidthParts.T14.2 lampblacklaw02_WidthParts.B14 = true := by kernel_rfl
def lampblacklaw02_WidthParts.T15 : Bool × List (List Nat × List Nat) := (true, [([], []), ([], []), ([0, 1], [0, 1]), ([2], [2]), ([], []), ([4], [4]), ([3, 5], [3, 5]), ([0, 1, 0, 1, 2, 3, 4, 5, 6], [0, 1]), ([7, 6, 0, 1, 2, 3, 4, 5, 6], [6, 7])])
def lampblacklaw02_WidthParts.B15 : List Nat := [0, 0, 3, 7, 0, 16, 63, 127, 255]
theorem lampblacklaw02_WidthParts.tab15 : rtab .any (opsOf Tryd.f3 15) = lampblacklaw02_WidthParts.T15 := by kernel_rfl
theorem lampblacklaw02_WidthParts.bits15 : waitsOk lampblacklaw02_WidthParts.T15.2 lampblacklaw02_WidthParts.B15 = true := by kernel_rfl
def lampblacklaw02_WidthParts.T17 : Bool × List (List Nat × List Nat) := (true, [([], []), ([], []), ([0, 1], [0, 1]), ([2], [2]), ([], []), ([4], [4]), ([3, 5], [3, 5]), ([0, 1, 0, 1, 2, 3, 4, 5, 6], [0, 1]), ([7, 6, 0, 1, 2, 3, 4, 5, 6], [6, 7])])
def lampblacklaw02_WidthParts.B17 : List Nat := [0, 0, 3, 7, 0, 16, 63, 127, 255]
theorem lampblacklaw02_WidthParts.tab17 : rtab .any (opsOf Tryd.f3 17) = lampblacklaw02_WidthParts.T17 := by kernel_rfl
theorem lampblacklaw02_WidthParts.bits17 : waitsOk lampblacklaw02_WidthParts.T17.2 lampblacklaw02_WidthParts.B17 = true := by kernel_rfl
set_option maxHeartbeats 8000000 in
set_option maxRecDepth 100000 in
theorem lampblacklaw02_WidthParts.calls (k : Nat) (A0 : Option Addr) (c0 : Nat) (l0 : List Int) (a1 : Int) (a2 : Int) (r : Bool) (w : World) (hGL : GL w) (hr0 : Kd.C (Kd.int .i64) w A0 l0.length l0) (hc0 : l0.length ≤ c0) (h : lampblacklaw02_WidthParts.f k l0 a1 a2 = some r) :
    Calls Tryd.prog 3 #[.slice A0 l0.length c0, .int .i64 a1, .int .i64 a2] w fun e w' => e = .returned (.bool r) ∧ Below w.heap.size w w' := by
  have HGL := Aside0.mk hGL
  clear hGL
  have HR0 := Aside0.mk hr0
  have HC0 := Aside0.mk hc0
  clear hr0 hc0
  have HB := Aside0.mk (Below.refl w.heap.size w)
  have H : ((lampblacklaw02_Few.f l0).bind fun t159 => ((width_Width.f k t159).bind fun bt162 => (if bt162.2 = 0 then (lampblacklaw02_WidthParts.j0 k l0 a1 a2 bt162.1 bt162.2 (decide ((l0.length : Int) < 2))) else (lampblacklaw02_WidthParts.j0 k l0 a1 a2 bt162.1 bt162.2 true)))) = some r := h
  clear h
  replace H := Option.bind_eq_some_iff.mp H
  obtain ⟨t159, A40, H⟩ := H
  replace H : ((width_Width.f k t159).bind fun bt162 => (if bt162.2 = 0 then (lampblacklaw02_WidthParts.j0 k l0 a1 a2 bt162.1 bt162.2 (decide ((l0.length : Int) < 2))) else (lampblacklaw02_WidthParts.j0 k l0 a1 a2 bt162.1 bt162.2 true))) = some r := H
  have A4 := Aside0.mk A40
  clear A40
  replace H := Option.bind_eq_some_iff.mp H
  obtain ⟨⟨t162, t163⟩, A50, H⟩ := H
  replace H : (if t163 = 0 then (lampblacklaw02_WidthParts.j0 k l0 a1 a2 t162 t163 (decide ((l0.length : Int) < 2))) else (lampblacklaw02_WidthParts.j0 k l0 a1 a2 t162 t163 true)) = some r := H
  have A5 := Aside0.mk A50
  clear A50
  have HC6 := Aside0.mk H
  clear H
  go_enter Tryd.func3, Tryd.ntmps3
  go_upto_region 2 with (first | ((with_reducible refine gate_callee (f := 19) rfl ?_); refine goesL_ (some 19) rfl rfl Tryd.func19 (by kernel_rfl) rfl #[.slice A0 l0.length c0] rfl (by (try simp only [List.map_toArray, List.map_cons, List.map_nil]); first | done | rfl | (simp only [List.length_drop, List.length_take]; rfl)) ?_; (with_reducible refine (lampblacklaw02_Few.calls _ _ l0 t159 _ ?side1 ?side2 A4.out).mono ?_); (case side1 => repeat (first | exact HR0.out | (with_reducible refine Kd.C_alloc ?_ _) | (with_reducible refine Kd.C_drewN ?_ _) | (with_reducible refine Kd.C_drew ?_))); (case side2 => exact HC0.out); rintro e w7 ⟨v160, rfl, ho0, hb⟩; refine ⟨_, rfl, ?_⟩; have n0_ := Aside0.mk (Kd.R_lower ho0 (below_size (by repeat (first | (with_reducible first | exact HB.out | apply below_alloc | apply pw_below_drewN | apply below_drew1) | exact HB.out)))); have n1_ := Aside0.mk (below_step (by repeat (first | (with_reducible first | exact HB.out | apply below_alloc | apply pw_below_drewN | apply below_drew1) | exact HB.out)) hb); clear HB; have HO161 := n0_; have HB := n1_; clear n0_ n1_; (try clear hb); (try clear hb2); (try clear hk); (try clear hi); (try clear ho0); obtain ⟨Ao8, co8, eo8⟩ := Kd.R_slice HO161.out; subst eo8) | ((with_reducible refine gate_callee (f := 18) rfl ?_); refine goesL_ (some 20) rfl rfl Tryd.func18 (by kernel_rfl) rfl #[.slice Ao8 t159.length co8] rfl (by (try simp only [List.map_toArray, List.map_cons, List.map_nil]); first | done | rfl | (simp only [List.length_drop, List.length_take]; rfl)) ?_; (with_reducible refine (width_Width.calls (hGL := (by repeat (first | (with_reducible exact HGL.out) | (with_reducible exact GL_below HGL.out HB.out) | (with_reducible refine GL_alloc ?_ _) | (with_reducible refine GL_drewN ?_ _) | (with_reducible refine GL_drew ?_)))) k _ _ t159 t162 t163 _ ?side1 ?side2 A5.out).mono ?_); (case side1 => repeat (first | exact (Kd.R_reads' HO161.out).2.2 | (with_reducible refine Kd.C_alloc ?_ _) | (with_reducible refine Kd.C_drewN ?_ _) | (with_reducible refine Kd.C_drew ?_))); (case side2 => exact (Kd.R_reads' HO161.out).2.1); rintro e w9 ⟨rfl, hb⟩; refine ⟨_, rfl, ?_⟩; have n0_ := Aside0.mk (Kd.R_below (by (with_reducible repeat (first | apply Kd.R_alloc | apply Kd.R_drewN | apply Kd.R_drew)); exact HO161.out) hb); have n1_ := Aside0.mk (below_step (by repeat (first | (with_reducible first | exact HB.out | apply below_alloc | apply pw_below_drewN | apply below_drew1) | exact HB.out)) hb); clear HO161; clear HB; have HO161 := n0_; have HB := n1_; clear n0_ n1_; (try clear hb); (try clear hb2); (try clear hk); (try clear hi)))
  (try simp only [Act.put, List.setIfInBounds_toArray, List.set_cons_zero, List.set_cons_succ])
  go_cut [29] (fun v29 wc => ∃ (kq : Nat) (x29_5 : Bool), v29 = .bool x29_5 ∧ Aside0 (lampblacklaw02_WidthParts.j0 kq l0 a1 a2 t162 t163 x29_5 = some r) ∧ Aside0 (kq ≤ k) ∧ Aside0 (Below w.heap.size w wc))
  case first =>
    have H := HC6.out
    clear HC6
    by_cases c10 : t163 = 0
    · rw [if_pos c10] at H
      have c10b0 : (t163 == 0) = true := beq_iff_eq.mpr c10
      have c10b1 : (t163 != 0) = false := bne_eq_false_iff_eq.mpr c10
      clear c10
      (first | rw [c10b0] | (simp only [i64_w, i32_w]; rw [c10b0]) | skip)
      have H' := Aside0.mk H
      clear H
      go_wp2
      go_meet
      case rel => exact ⟨_, (decide ((l0.length : Int) < 2)), (by first | rfl | (simp; done) | (simp [*]; done)), H', ⟨by first | omega | exact Nat.le_refl _⟩, ⟨by repeat (first | (with_reducible first | exact HB.out | apply below_alloc | apply pw_below_drewN | apply below_drew1) | exact HB.out)⟩⟩
    · rw [if_neg c10] at H
      have c10b0 : (t163 == 0) = false := beq_eq_false_iff_ne.mpr c10
      have c10b1 : (t163 != 0) = true := bne_iff_ne.mpr c10
      (first | rw [c10b0] | (simp only [i64_w, i32_w]; rw [c10b0]) | skip)
      have H' := Aside0.mk H
      clear H
      go_wp2
      go_meet
      case rel => exact ⟨_, (true), (by first | rfl | (simp; done) | (simp [*]; done)), H', ⟨by first | omega | exact Nat.le_refl _⟩, ⟨by repeat (first | (with_reducible first | exact HB.out | apply below_alloc | apply pw_below_drewN | apply below_drew1) | exact HB.out)⟩⟩
  case rest =>
    clear HC6
    try clear c1
    try clear p2
    try clear c3
    try clear c10
    try clear c10b0
    try clear c10b1
    obtain ⟨kq, x29_5, rfl, HA, HJ5, HB⟩ := hcut
    cases kq with
    | zero => exact absurd HA.out (by simp [lampblacklaw02_WidthParts.j0])
    | succ kj5 =>
      have H := HA.out
      clear HA
      simp only [lampblacklaw02_WidthParts.j0] at H
      by_cases c11 : x29_5 = true
      · subst c11
        have H1 : (if t163 = 0 then ((lampblacklaw02_awake.f kj5).bind fun t164 => (some t164)) else (if t163 = 2 then ((lampblacklaw02_awake.f kj5).bind fun t165 => (some t165)) else (some false))) = some r := by rw [if_pos rfl] at H; exact H
        clear H
        have H := H1
        clear H1
        by_cases c12 : t163 = 0
        · rw [if_pos c12] at H
          have c12b0 : (t163 == 0) = true := beq_iff_eq.mpr c12
          have c12b1 : (t163 != 0) = false := bne_eq_false_iff_eq.mpr c12
          clear c12
          replace H := Option.bind_eq_some_iff.mp H
          obtain ⟨t164, A130, H⟩ := H
          replace H : (some t164) = some r := H
          have A13 := Aside0.mk A130
          clear A130
          obtain rfl := Option.some.inj H
          go_wp2_with (first | (go_at_call 20; (with_reducible refine (lampblacklaw02_awake.calls (hGL := (by repeat (first | (with_reducible exact HGL.out) | (with_reducible exact GL_below HGL.out HB.out) | (with_reducible refine GL_alloc ?_ _) | (with_reducible refine GL_drewN ?_ _) | (with_reducible refine GL_drew ?_)))) kj5  t164 _ A13.out).mono ?_); rintro e w14 ⟨rfl, hb⟩; have n0_ := Aside0.mk (below_step (by repeat (first | (with_reducible first | exact HB.out | apply below_alloc | apply pw_below_drewN | apply below_drew1) | exact HB.out)) hb); clear HB; have HB := n0_; clear n0_; (try clear hb); (try clear hb2); (try clear hk); (try clear hi)))
          go_ret
          exact ⟨by first | rfl | (simp [errW_none, errW_some] <;> rfl) | (simp [*, errW_none, errW_some] <;> rfl), by repeat (first | (with_reducible first | exact HB.out | apply below_alloc | apply pw_below_drewN | apply below_drew1) | exact HB.out)⟩
        · rw [if_neg c12] at H
          have c12b0 : (t163 == 0) = false := beq_eq_false_iff_ne.mpr c12
          have c12b1 : (t163 != 0) = true := bne_iff_ne.mpr c12
          by_cases c15 : t163 = 2
          · rw [if_pos c15] at H
            have c15b0 : (t163 == 2) = true := beq_iff_eq.mpr c15
            have c15b1 : (t163 != 2) = false := bne_eq_false_iff_eq.mpr c15
            clear c15
            replace H := Option.bind_eq_some_iff.mp H
            obtain ⟨t165, A160, H⟩ := H
            replace H : (some t165) = some r := H
            have A16 := Aside0.mk A160
            clear A160
            obtain rfl := Option.some.inj H
            go_wp2_with (first | (go_at_call 20; (with_reducible refine (lampblacklaw02_awake.calls (hGL := (by repeat (first | (with_reducible exact HGL.out) | (with_reducible exact GL_below HGL.out HB.out) | (with_reducible refine GL_alloc ?_ _) | (with_reducible refine GL_drewN ?_ _) | (with_reducible refine GL_drew ?_)))) kj5  t165 _ A16.out).mono ?_); rintro e w17 ⟨rfl, hb⟩; have n0_ := Aside0.mk (below_step (by repeat (first | (with_reducible first | exact HB.out | apply below_alloc | apply pw_below_drewN | apply below_drew1) | exact HB.out)) hb); clear HB; have HB := n0_; clear n0_; (try clear hb); (try clear hb2); (try clear hk); (try clear hi)))
            go_ret
            exact ⟨by first | rfl | (simp [errW_none, errW_some] <;> rfl) | (simp [*, errW_none, errW_some] <;> rfl), by repeat (first | (with_reducible first | exact HB.out | apply below_alloc | apply pw_below_drewN | apply below_drew1) | exact HB.out)⟩
          · rw [if_neg c15] at H
            have c15b0 : (t163 == 2) = false := beq_eq_false_iff_ne.mpr c15
            have c15b1 : (t163 != 2) = true := bne_iff_ne.mpr c15
            obtain rfl := Option.some.inj H
            go_wp2
            go_ret
            exact ⟨by first | rfl | (simp [errW_none, errW_some] <;> rfl) | (simp [*, errW_none, errW_some] <;> rfl), by repeat (first | (with_reducible first | exact HB.out | apply below_alloc | apply pw_below_drewN | apply below_drew1) | exact HB.out)⟩
      · replace c11 := Bool.eq_false_iff.mpr c11
        subst c11
        have H1 : (if (IntKind.u64.wrap ((l0.length : Int))) = 0 then (none) else ((lampblacklaw02_without.f kj5 l0 (wrap64 (Int.tmod (IntKind.u64.wrap (a1)) (IntKind.u64.wrap ((l0.length : Int)))))).bind fun t166 => ((some (([t166] : List (List Int)) : List (List Int))).bind fun y169 => (if 0 ≤ (wrap64 (Int.tmod (IntKind.u64.wrap (a1)) (IntKind.u64.wrap ((l0.length : Int))))) then (if (wrap64 (Int.tmod (IntKind.u64.wrap (a1)) (IntKind.u64.wrap ((l0.length : Int))))) < (l0.length : Int) then (if 0 ≤ (wrap64 (Int.tmod (IntKind.u64.wrap (a2)) (IntKind.u64.wrap ((l0.length : Int))))) then (if (Go.bits .and .i64 (shr .i64 (rd l0 (wrap64 (Int.tmod (IntKind.u64.wrap (a1)) (IntKind.u64.wrap ((l0.length : Int)))))) (wrap64 (Int.tmod (IntKind.u64.wrap (a2)) (IntKind.u64.wrap ((l0.length : Int)))))) 1) = 1 then ((lampblacklaw02_Few.f l0).bind fun t173 => ((lampblacklaw02_Few.f l0).bind fun t176 => (if (wrap64 (Int.tmod (IntKind.u64.wrap (a1)) (IntKind.u64.wrap ((l0.length : Int))))) < (t173.length : Int) then ((some (t173.set ((wrap64 (Int.tmod (IntKind.u64.wrap (a1)) (IntKind.u64.wrap ((l0.length : Int))))) : Int).toNat (Go.bits .andNot .i64 (rd t173 (wrap64 (Int.tmod (IntKind.u64.wrap (a1)) (IntKind.u64.wrap ((l0.length : Int)))))) (shl .i64 1 (wrap64 (Int.tmod (IntKind.u64.wrap (a2)) (IntKind.u64.wrap ((l0.length : Int))))))) : List Int)).bind fun y180 => (if (wrap64 (Int.tmod (IntKind.u64.wrap (a2)) (IntKind.u64.wrap ((l0.length : Int))))) < (t173.length : Int) then (lampblacklaw02_WidthParts.l0 kj5 l0 (wrap64 (Int.tmod (IntKind.u64.wrap (a1)) (IntKind.u64.wrap ((l0.length : Int))))) (wrap64 (Int.tmod (IntKind.u64.wrap (a2)) (IntKind.u64.wrap ((l0.length : Int))))) t162 y169 (y180.set ((wrap64 (Int.tmod (IntKind.u64.wrap (a2)) (IntKind.u64.wrap ((l0.length : Int))))) : Int).toNat (Go.bits .andNot .i64 (rd y180 (wrap64 (Int.tmod (IntKind.u64.wrap (a2)) (IntKind.u64.wrap ((l0.length : Int)))))) (shl .i64 1 (wrap64 (Int.tmod (IntKind.u64.wrap (a1)) (IntKind.u64.wrap ((l0.length : Int)))))))) t176 (t176.length : Int) 0) else (none))) else (none)))) else (lampblacklaw02_WidthParts.j2 kj5 t162 y169)) else (none)) else (none)) else (none))))) = some r := by rw [if_neg (show ¬ (false = true) by decide)] at H; exact H
        clear H
        have H := H1
        clear H1
        by_cases c18 : (IntKind.u64.wrap ((l0.length : Int))) = 0
        · rw [if_pos c18] at H
          exact absurd H (by simp)
        · rw [if_neg c18] at H
          have c18b0 : ((IntKind.u64.wrap ((l0.length : Int))) == 0) = false := beq_eq_false_iff_ne.mpr c18
          have c18b1 : ((IntKind.u64.wrap ((l0.length : Int))) != 0) = true := bne_iff_ne.mpr c18
          replace H := Option.bind_eq_some_iff.mp H
          obtain ⟨t166, A190, H⟩ := H
          replace H : ((some (([t166] : List (List Int)) : List (List Int))).bind fun y169 => (if 0 ≤ (wrap64 (Int.tmod (IntKind.u64.wrap (a1)) (IntKind.u64.wrap ((l0.length : Int))))) then (if (wrap64 (Int.tmod (IntKind.u64.wrap (a1)) (IntKind.u64.wrap ((l0.length : Int))))) < (l0.length : Int) then (if 0 ≤ (wrap64 (Int.tmod (IntKind.u64.wrap (a2)) (IntKind.u64.wrap ((l0.length : Int))))) then (if (Go.bits .and .i64 (shr .i64 (rd l0 (wrap64 (Int.tmod (IntKind.u64.wrap (a1)) (IntKind.u64.wrap ((l0.length : Int)))))) (wrap64 (Int.tmod (IntKind.u64.wrap (a2)) (IntKind.u64.wrap ((l0.length : Int)))))) 1) = 1 then ((lampblacklaw02_Few.f l0).bind fun t173 => ((lampblacklaw02_Few.f l0).bind fun t176 => (if (wrap64 (Int.tmod (IntKind.u64.wrap (a1)) (IntKind.u64.wrap ((l0.length : Int))))) < (t173.length : Int) then ((some (t173.set ((wrap64 (Int.tmod (IntKind.u64.wrap (a1)) (IntKind.u64.wrap ((l0.length : Int))))) : Int).toNat (Go.bits .andNot .i64 (rd t173 (wrap64 (Int.tmod (IntKind.u64.wrap (a1)) (IntKind.u64.wrap ((l0.length : Int)))))) (shl .i64 1 (wrap64 (Int.tmod (IntKind.u64.wrap (a2)) (IntKind.u64.wrap ((l0.length : Int))))))) : List Int)).bind fun y180 => (if (wrap64 (Int.tmod (IntKind.u64.wrap (a2)) (IntKind.u64.wrap ((l0.length : Int))))) < (t173.length : Int) then (lampblacklaw02_WidthParts.l0 kj5 l0 (wrap64 (Int.tmod (IntKind.u64.wrap (a1)) (IntKind.u64.wrap ((l0.length : Int))))) (wrap64 (Int.tmod (IntKind.u64.wrap (a2)) (IntKind.u64.wrap ((l0.length : Int))))) t162 y169 (y180.set ((wrap64 (Int.tmod (IntKind.u64.wrap (a2)) (IntKind.u64.wrap ((l0.length : Int))))) : Int).toNat (Go.bits .andNot .i64 (rd y180 (wrap64 (Int.tmod (IntKind.u64.wrap (a2)) (IntKind.u64.wrap ((l0.length : Int)))))) (shl .i64 1 (wrap64 (Int.tmod (IntKind.u64.wrap (a1)) (IntKind.u64.wrap ((l0.length : Int)))))))) t176 (t176.length : Int) 0) else (none))) else (none)))) else (lampblacklaw02_WidthParts.j2 kj5 t162 y169)) else (none)) else (none)) else (none))) = some r := H
          have A19 := Aside0.mk A190
          clear A190
          obtain ⟨y169, hy169⟩ : ∃ y_ : List (List Int), y_ = (([t166] : List (List Int))) := ⟨_, rfl⟩
          replace H : (if 0 ≤ (wrap64 (Int.tmod (IntKind.u64.wrap (a1)) (IntKind.u64.wrap ((l0.length : Int))))) then (if (wrap64 (Int.tmod (IntKind.u64.wrap (a1)) (IntKind.u64.wrap ((l0.length : Int))))) < (l0.length : Int) then (if 0 ≤ (wrap64 (Int.tmod (IntKind.u64.wrap (a2)) (IntKind.u64.wrap ((l0.length : Int))))) then (if (Go.bits .and .i64 (shr .i64 (rd l0 (wrap64 (Int.tmod (IntKind.u64.wrap (a1)) (IntKind.u64.wrap ((l0.length : Int)))))) (wrap64 (Int.tmod (IntKind.u64.wrap (a2)) (IntKind.u64.wrap ((l0.length : Int)))))) 1) = 1 then ((lampblacklaw02_Few.f l0).bind fun t173 => ((lampblacklaw02_Few.f l0).bind fun t176 => (if (wrap64 (Int.tmod (IntKind.u64.wrap (a1)) (IntKind.u64.wrap ((l0.length : Int))))) < (t173.length : Int) then ((some (t173.set ((wrap64 (Int.tmod (IntKind.u64.wrap (a1)) (IntKind.u64.wrap ((l0.length : Int))))) : Int).toNat (Go.bits .andNot .i64 (rd t173 (wrap64 (Int.tmod (IntKind.u64.wrap (a1)) (IntKind.u64.wrap ((l0.length : Int)))))) (shl .i64 1 (wrap64 (Int.tmod (IntKind.u64.wrap (a2)) (IntKind.u64.wrap ((l0.length : Int))))))) : List Int)).bind fun y180 => (if (wrap64 (Int.tmod (IntKind.u64.wrap (a2)) (IntKind.u64.wrap ((l0.length : Int))))) < (t173.length : Int) then (lampblacklaw02_WidthParts.l0 kj5 l0 (wrap64 (Int.tmod (IntKind.u64.wrap (a1)) (IntKind.u64.wrap ((l0.length : Int))))) (wrap64 (Int.tmod (IntKind.u64.wrap (a2)) (IntKind.u64.wrap ((l0.length : Int))))) t162 y169 (y180.set ((wrap64 (Int.tmod (IntKind.u64.wrap (a2)) (IntKind.u64.wrap ((l0.length : Int))))) : Int).toNat (Go.bits .andNot .i64 (rd y180 (wrap64 (Int.tmod (IntKind.u64.wrap (a2)) (IntKind.u64.wrap ((l0.length : Int)))))) (shl .i64 1 (wrap64 (Int.tmod (IntKind.u64.wrap (a1)) (IntKind.u64.wrap ((l0.length : Int)))))))) t176 (t176.length : Int) 0) else (none))) else (none)))) else (lampblacklaw02_WidthParts.j2 kj5 t162 y169)) else (none)) else (none)) else (none)) = some r := by first | (rw [hy169]; with_reducible exact H) | (have H2_ := (Option.bind_some _ _).symm.trans H; rw [hy169]; with_reducible exact H2_) | (have H2_ := (Option.bind_some _ _).symm.trans H; with_reducible exact H2_) | with_reducible exact H | (rw [hy169]; exact H) | exact H
          have Ny169 := Aside0.mk hy169
          clear hy169
          obtain ⟨ji20, hji20⟩ : ∃ j_ : Int, (wrap64 (Int.tmod (IntKind.u64.wrap (a1)) (IntKind.u64.wrap ((l0.length : Int))))) = j_ := ⟨_, rfl⟩
          replace H : (if 0 ≤ (ji20) then (if (ji20) < (l0.length : Int) then (if 0 ≤ (wrap64 (Int.tmod (IntKind.u64.wrap (a2)) (IntKind.u64.wrap ((l0.length : Int))))) then (if (Go.bits .and .i64 (shr .i64 (rd l0 (ji20)) (wrap64 (Int.tmod (IntKind.u64.wrap (a2)) (IntKind.u64.wrap ((l0.length : Int)))))) 1) = 1 then ((lampblacklaw02_Few.f l0).bind fun t173 => ((lampblacklaw02_Few.f l0).bind fun t176 => (if (ji20) < (t173.length : Int) then ((some (t173.set ((ji20) : Int).toNat (Go.bits .andNot .i64 (rd t173 (ji20)) (shl .i64 1 (wrap64 (Int.tmod (IntKind.u64.wrap (a2)) (IntKind.u64.wrap ((l0.length : Int))))))) : List Int)).bind fun y180 => (if (wrap64 (Int.tmod (IntKind.u64.wrap (a2)) (IntKind.u64.wrap ((l0.length : Int))))) < (t173.length : Int) then (lampblacklaw02_WidthParts.l0 kj5 l0 ji20 (wrap64 (Int.tmod (IntKind.u64.wrap (a2)) (IntKind.u64.wrap ((l0.length : Int))))) t162 y169 (y180.set ((wrap64 (Int.tmod (IntKind.u64.wrap (a2)) (IntKind.u64.wrap ((l0.length : Int))))) : Int).toNat (Go.bits .andNot .i64 (rd y180 (wrap64 (Int.tmod (IntKind.u64.wrap (a2)) (IntKind.u64.wrap ((l0.length : Int)))))) (shl .i64 1 (ji20)))) t176 (t176.length : Int) 0) else (none))) else (none)))) else (lampblacklaw02_WidthParts.j2 kj5 t162 y169)) else (none)) else (none)) else (none)) = some r := by first | (rw [hji20] at H; exact H) | (simp only [hji20] at H ⊢; exact H)
          (try rw [hji20] at A19)
          have hji20w : (IntKind.i64.wrap (Int.tmod (IntKind.u64.wrap (a1)) (IntKind.u64.wrap ((l0.length : Int))))) = ji20 := (i64_w _).trans hji20
          by_cases c21 : 0 ≤ (ji20)
          · rw [if_pos c21] at H
            have c21b0 : decide (0 ≤ (ji20)) = true := decide_eq_true c21
            clear c21
            by_cases c22 : (ji20) < (l0.length : Int)
            · rw [if_pos c22] at H
              have c22b0 : decide ((ji20) < (l0.length : Int)) = true := decide_eq_true c22
              clear c22
              obtain ⟨ji23, hji23⟩ : ∃ j_ : Int, (wrap64 (Int.tmod (IntKind.u64.wrap (a2)) (IntKind.u64.wrap ((l0.length : Int))))) = j_ := ⟨_, rfl⟩
              replace H : (if 0 ≤ (ji23) then (if (Go.bits .and .i64 (shr .i64 (rd l0 (ji20)) (ji23)) 1) = 1 then ((lampblacklaw02_Few.f l0).bind fun t173 => ((lampblacklaw02_Few.f l0).bind fun t176 => (if (ji20) < (t173.length : Int) then ((some (t173.set ((ji20) : Int).toNat (Go.bits .andNot .i64 (rd t173 (ji20)) (shl .i64 1 (ji23))) : List Int)).bind fun y180 => (if (ji23) < (t173.length : Int) then (lampblacklaw02_WidthParts.l0 kj5 l0 ji20 ji23 t162 y169 (y180.set ((ji23) : Int).toNat (Go.bits .andNot .i64 (rd y180 (ji23)) (shl .i64 1 (ji20)))) t176 (t176.length : Int) 0) else (none))) else (none)))) else (lampblacklaw02_WidthParts.j2 kj5 t162 y169)) else (none)) = some r := by first | (rw [hji23] at H; exact H) | (simp only [hji23] at H ⊢; exact H)
              (try rw [hji23] at A19)
              have hji23w : (IntKind.i64.wrap (Int.tmod (IntKind.u64.wrap (a2)) (IntKind.u64.wrap ((l0.length : Int))))) = ji23 := (i64_w _).trans hji23
              by_cases c24 : 0 ≤ (ji23)
              · rw [if_pos c24] at H
                have c24b0 := eq_true c24
                have c24b1 : decide (0 ≤ (ji23)) = true := decide_eq_true c24
                clear c24
                obtain ⟨ji25, hji25⟩ : ∃ j_ : Int, (shr .i64 (rd l0 (ji20)) (ji23)) = j_ := ⟨_, rfl⟩
                replace H : (if (Go.bits .and .i64 (ji25) 1) = 1 then ((lampblacklaw02_Few.f l0).bind fun t173 => ((lampblacklaw02_Few.f l0).bind fun t176 => (if (ji20) < (t173.length : Int) then ((some (t173.set ((ji20) : Int).toNat (Go.bits .andNot .i64 (rd t173 (ji20)) (shl .i64 1 (ji23))) : List Int)).bind fun y180 => (if (ji23) < (t173.length : Int) then (lampblacklaw02_WidthParts.l0 kj5 l0 ji20 ji23 t162 y169 (y180.set ((ji23) : Int).toNat (Go.bits .andNot .i64 (rd y180 (ji23)) (shl .i64 1 (ji20)))) t176 (t176.length : Int) 0) else (none))) else (none)))) else (lampblacklaw02_WidthParts.j2 kj5 t162 y169)) = some r := by first | (rw [hji25] at H; exact H) | (simp only [hji25] at H ⊢; exact H)
                (try rw [hji25] at A19)
                have hji25_ : ((rd l0 (ji20)) / 2 ^ min (ji23).toNat 64) = ji25 := hji25
                have hji25z : (ji23) ≤ 64 → ((rd l0 (ji20)) / 2 ^ (ji23).toNat) = ji25 := shr_small hji25
                have HC26 := Aside0.mk H
                clear H
                try go_wp2
                have n0_ := Aside0.mk (below_drew1 HB.out)
                clear HB
                have HB := n0_
                clear n0_
                refine start_ (n := 16) (S := fun w' => True) (ds := []) #[false, false, false, false, false, false, false, false, false, false, false, false, false, false, false, false] (by kernel_rfl) rfl rfl trivial (fun hHeld => ?_); refine with_tabW lampblacklaw02_WidthParts.tab4 lampblacklaw02_WidthParts.bits4 (fun HT_ HW_ => ?_)
                generalize wc.drew = w27 at HB hHeld ⊢
                refine pure_ (i := 0) (N := some 39) (v := ?_) (a' := ?_) #[true, false, false, false, false, false, false, false, false, false, false, false, false, false, false, false] rfl rfl (any_of HT_.out (by kernel_rfl)) (fun _ _ _ h => h) (Or.inl ⟨by rfl, ?_⟩) ?_ ?_
                rotate_left
                · intro w'
                  go_simp
                  with_reducible rfl
                rotate_left
                · simp only [Act.put, List.setIfInBounds_toArray, List.set_cons_zero, List.set_cons_succ, i64_w, i32_w]
                  rfl
                refine pure_ (i := 1) (N := some 40) (v := ?_) (a' := ?_) #[true, true, false, false, false, false, false, false, false, false, false, false, false, false, false, false] rfl rfl (any_of HT_.out (by kernel_rfl)) (fun _ _ _ h => h) (Or.inl ⟨by rfl, ?_⟩) ?_ ?_
                rotate_left
                · intro w'
                  go_simp
                  with_reducible rfl
                rotate_left
                · simp only [Act.put, List.setIfInBounds_toArray, List.set_cons_zero, List.set_cons_succ, i64_w, i32_w]
                  rfl
                refine pure_ (i := 2) (N := some 41) (v := ?_) (a' := ?_) #[true, true, true, false, false, false, false, false, false, false, false, false, false, false, false, false] rfl rfl (any_of HT_.out (by kernel_rfl)) (fun _ _ _ h => h) (Or.inl ⟨by rfl, ?_⟩) ?_ ?_
                rotate_left
                · intro w'
                  go_simp
                  with_reducible rfl
                rotate_left
                · simp only [Act.put, List.setIfInBounds_toArray, List.set_cons_zero, List.set_cons_succ, i64_w, i32_w]
                  rfl
                refine pure_ (i := 3) (N := some 42) (v := ?_) (a' := ?_) #[true, true, true, true, false, false, false, false, false, false, false, false, false, false, false, false] rfl rfl (any_of HT_.out (by kernel_rfl)) (fun _ _ _ h => h) (Or.inl ⟨by rfl, ?_⟩) ?_ ?_
                rotate_left
                · intro w'
                  go_simp
                  with_reducible rfl
                rotate_left
                · simp only [Act.put, List.setIfInBounds_toArray, List.set_cons_zero, List.set_cons_succ, i64_w, i32_w]
                  rfl
                refine pure_ (i := 4) (N := some 43) (v := ?_) (a' := ?_) #[true, true, true, true, true, false, false, false, false, false, false, false, false, false, false, false] rfl rfl (any_of HT_.out (by kernel_rfl)) (fun _ _ _ h => h) (Or.inl ⟨by rfl, ?_⟩) ?_ ?_
                rotate_left
                · intro w'
                  go_simp
                  with_reducible rfl
                rotate_left
                · simp only [Act.put, List.setIfInBounds_toArray, List.set_cons_zero, List.set_cons_succ, i64_w, i32_w]
                  rfl
                refine pure_ (i := 5) (N := some 44) (v := ?_) (a' := ?_) #[true, true, true, true, true, true, false, false, false, false, false, false, false, false, false, false] rfl rfl (any_of HT_.out (by kernel_rfl)) (fun _ _ _ h => h) (Or.inl ⟨by rfl, ?_⟩) ?_ ?_
                rotate_left
                · intro w'
                  go_simp
                  with_reducible rfl
                rotate_left
                · simp only [Act.put, List.setIfInBounds_toArray, List.set_cons_zero, List.set_cons_succ, i64_w, i32_w]
                  rfl
                refine pure_ (i := 6) (N := some 45) (v := ?_) (a' := ?_) #[true, true, true, true, true, true, true, false, false, false, false, false, false, false, false, false] rfl rfl (any_of HT_.out (by kernel_rfl)) (fun _ _ _ h => h) (Or.inl ⟨by rfl, ?_⟩) ?_ ?_
                rotate_left
                · intro w'
                  go_simp
                  with_reducible rfl
                rotate_left
                · simp only [Act.put, List.setIfInBounds_toArray, List.set_cons_zero, List.set_cons_succ, i64_w, i32_w]
                  rfl
                refine pure_ (i := 7) (N := some 46) (v := ?_) (a' := ?_) #[true, true, true, true, true, true, true, true, false, false, false, false, false, false, false, false] rfl rfl (any_of HT_.out (by kernel_rfl)) (fun _ _ _ h => h) (Or.inl ⟨by rfl, ?_⟩) ?_ ?_
                rotate_left
                · intro w'
                  go_simp
                  with_reducible rfl
                rotate_left
                · simp only [Act.put, List.setIfInBounds_toArray, List.set_cons_zero, List.set_cons_succ, i64_w, i32_w]
                  rfl
                refine pure_ (i := 8) (N := some 47) (v := ?_) (a' := ?_) #[true, true, true, true, true, true, true, true, true, false, false, false, false, false, false, false] rfl rfl (any_of HT_.out (by kernel_rfl)) (fun _ _ _ h => h) (Or.inl ⟨by rfl, ?_⟩) ?_ ?_
                rotate_left
                · intro w'
                  go_simp
                  with_reducible rfl
                rotate_left
                · simp only [Act.put, List.setIfInBounds_toArray, List.set_cons_zero, List.set_cons_succ, i64_w, i32_w]
                  rfl
                refine pure_ (i := 9) (N := some 48) (v := ?_) (a' := ?_) #[true, true, true, true, true, true, true, true, true, true, false, false, false, false, false, false] rfl rfl (any_of HT_.out (by kernel_rfl)) (fun _ _ _ h => h) (Or.inl ⟨by rfl, ?_⟩) ?_ ?_
                rotate_left
                · intro w'
                  go_simp
                  with_reducible rfl
                rotate_left
                · simp only [Act.put, List.setIfInBounds_toArray, List.set_cons_zero, List.set_cons_succ, i64_w, i32_w]
                  rfl
                refine pure_ (i := 10) (N := some 49) (v := ?_) (a' := ?_) #[true, true, true, true, true, true, true, true, true, true, true, false, false, false, false, false] rfl rfl (any_of HT_.out (by kernel_rfl)) (fun _ _ _ h => h) (Or.inl ⟨by rfl, ?_⟩) ?_ ?_
                rotate_left
                · intro w'
                  go_simp
                  with_reducible rfl
                rotate_left
                · simp only [Act.put, List.setIfInBounds_toArray, List.set_cons_zero, List.set_cons_succ, i64_w, i32_w]
                  rfl
                refine pure_ (i := 11) (N := some 50) (v := ?_) (a' := ?_) #[true, true, true, true, true, true, true, true, true, true, true, true, false, false, false, false] rfl rfl (any_of HT_.out (by kernel_rfl)) (fun _ _ _ h => h) (Or.inl ⟨by rfl, ?_⟩) ?_ ?_
                rotate_left
                · intro w'
                  go_simp
                  with_reducible rfl
                rotate_left
                · simp only [Act.put, List.setIfInBounds_toArray, List.set_cons_zero, List.set_cons_succ, i64_w, i32_w]
                  rfl
                refine pure_ (i := 12) (N := some 51) (v := ?_) (a' := ?_) #[true, true, true, true, true, true, true, true, true, true, true, true, true, false, false, false] rfl rfl (any_of HT_.out (by kernel_rfl)) (fun _ _ _ h => h) (Or.inl ⟨by rfl, ?_⟩) ?_ ?_
                rotate_left
                · intro w'
                  go_simp
                  with_reducible rfl
                rotate_left
                · simp only [Act.put, List.setIfInBounds_toArray, List.set_cons_zero, List.set_cons_succ, i64_w, i32_w]
                  rfl
                refine pure_ (i := 13) (N := some 52) (v := ?_) (a' := ?_) #[true, true, true, true, true, true, true, true, true, true, true, true, true, true, false, false] rfl rfl (any_of HT_.out (by kernel_rfl)) (fun _ _ _ h => h) (Or.inl ⟨by rfl, ?_⟩) ?_ ?_
                rotate_left
                · intro w'
                  go_simp
                  with_reducible rfl
                rotate_left
                · simp only [Act.put, List.setIfInBounds_toArray, List.set_cons_zero, List.set_cons_succ, i64_w, i32_w]
                  rfl
                refine pure_ (i := 14) (N := some 1) (v := ?_) (a' := ?_) #[true, true, true, true, true, true, true, true, true, true, true, true, true, true, true, false] rfl rfl (any_of HT_.out (by kernel_rfl)) (fun _ _ _ h => h) (Or.inl ⟨by rfl, ?_⟩) ?_ ?_
                rotate_left
                · intro w'
                  go_simp
                  with_reducible rfl
                rotate_left
                · simp only [Act.put, List.setIfInBounds_toArray, List.set_cons_zero, List.set_cons_succ, i64_w, i32_w]
                  rfl
                refine pure_ (i := 15) (N := some 2) (v := ?_) (a' := ?_) #[true, true, true, true, true, true, true, true, true, true, true, true, true, true, true, true] rfl rfl (any_of HT_.out (by kernel_rfl)) (fun _ _ _ h => h) (Or.inl ⟨by rfl, ?_⟩) ?_ ?_
                rotate_left
                · intro w'
                  go_simp
                  with_reducible rfl
                rotate_left
                · simp only [Act.put, List.setIfInBounds_toArray, List.set_cons_zero, List.set_cons_succ, i64_w, i32_w]
                  rfl
                refine done_ (done_of HT_.out (by kernel_rfl)) ?_
                go_upto_if 64 with (first | ((with_reducible refine gate_callee (f := 21) rfl ?_); refine goesL_ (some 55) rfl rfl Tryd.func21 (by kernel_rfl) rfl #[.slice A0 l0.length c0, .int .i64 ji20] rfl (by (try simp only [List.map_toArray, List.map_cons, List.map_nil]); first | done | (simp only [hji20]; rfl) | rfl | (simp only [List.length_drop, List.length_take]; rfl)) ?_; (with_reducible refine (lampblacklaw02_without.calls kj5 _ _ l0 ji20 t166 _ ?side1 ?side2 A19.out).mono ?_); (case side1 => repeat (first | exact (Kd.C_below HR0.out HB.out) | (with_reducible refine Kd.C_alloc ?_ _) | (with_reducible refine Kd.C_drewN ?_ _) | (with_reducible refine Kd.C_drew ?_))); (case side2 => exact HC0.out); rintro e w28 ⟨v167, rfl, ho0, hb⟩; refine ⟨_, rfl, ?_⟩; have n0_ := Aside0.mk (Kd.R_lower ho0 (below_size (by repeat (first | (with_reducible first | exact HB.out | apply below_alloc | apply pw_below_drewN | apply below_drew1) | exact HB.out)))); have n1_ := Aside0.mk (below_step (by repeat (first | (with_reducible first | exact HB.out | apply below_alloc | apply pw_below_drewN | apply below_drew1) | exact HB.out)) hb); clear HB; have HO168 := n0_; have HB := n1_; clear n0_ n1_; (try clear hb); (try clear hb2); (try clear hk); (try clear hi); (try clear ho0); obtain ⟨Ao29, co29, eo29⟩ := Kd.R_slice HO168.out; subst eo29) | ((with_reducible refine gate_dst (N := 56) rfl ?_); (try (refine gate_guard (by rfl) ?_; dsimp only)); refine Kd.N_lit (Kd.slice 3 (Kd.int .i64)) _ 23 ?hg (N' := 56) ?hd (xs := ([t166] : List (List Int))) (inner := [.slice Ao29 t166.length co29]) (ok := (fun _ => True)) (okp := (fun _ => True)) ?hr ?hp (fun _ hk => hk) ((show ∀ k_, w28.heap.size ≤ k_ → (fun _ => True) k_ from fun k_ hk => trivial) _ (Nat.le_refl _)) (Below.refl _ _) (Nat.le_refl _) (by simp) ?_; (case hd => rfl); (case hg => rfl); (case hr => first | (go_simp; done) | (go_simp; rfl)); (case hp => exact (Reps.one (show Kd.FK (Kd.slice 3 (Kd.int .i64)) _ _ t166 [.slice Ao29 t166.length co29] from (Kd.FK_slice_mk (Kd.R_reads' (Kd.R_mono (ok' := (fun _ => True)) (HO168.out) (fun k_ hk => trivial))).2.1 (Kd.R_F (Kd.R_mono (ok' := (fun _ => True)) (HO168.out) (fun k_ hk => trivial))))) (Reps.none _ _))); intro v170 w30 ho31 hb hg_ hnew_; clear hg_ hnew_; (first | rw [← Ny169.out] at ho31 | (simp only [Int.reduceToNat] at ho31; rw [← Ny169.out] at ho31)); have n0_ := Aside0.mk (Kd.N_lower ho31 (below_size (by repeat (first | (with_reducible first | exact HB.out | apply below_alloc | apply pw_below_drewN | apply below_drew1) | exact HB.out)))); have n1_ := Aside0.mk (below_step (by repeat (first | (with_reducible first | exact HB.out | apply below_alloc | apply pw_below_drewN | apply below_drew1) | exact HB.out)) hb); clear HB; clear HO168; have HO171 := n0_; have HB := n1_; clear n0_ n1_; clear hb ho31; have p172 : 0 ≤ ((ji20) : Int) := of_decide_eq_true (by first | (with_reducible assumption) | assumption); have q172 : (ji20) < (l0.length : Int) := of_decide_eq_true (by first | (with_reducible assumption) | assumption); obtain ⟨ad172, e172, hx172_0⟩ := Kd.at_int HR0.out (ji20) p172 q172; cases e172; replace hx172_0 := (HB.out.cell (World.block_lt_of_cell? w _ hx172_0)).trans hx172_0; replace p172 := eq_true p172; replace q172 := eq_true q172))
                (try simp only [Act.put, List.setIfInBounds_toArray, List.set_cons_zero, List.set_cons_succ])
                go_cut [9] (fun v9 wc => ∃ (kq : Nat) (x9_25 : List (List Int)), Aside0 (lampblacklaw02_WidthParts.j2 kq t162 x9_25 = some r) ∧ Aside0 (kq ≤ kj5) ∧ Aside0 (Kd.N (Kd.slice 3 (Kd.int .i64)) 23 wc w.heap.size (fun _ => True) v9 x9_25) ∧ Aside0 (Below w.heap.size w wc))
                case first =>
                  have H := HC26.out
                  clear HC26
                  by_cases c32 : (Go.bits .and .i64 (ji25) 1) = 1
                  · rw [if_pos c32] at H
                    have c32b0 : ((Go.bits .and .i64 (ji25) 1) == 1) = true := beq_iff_eq.mpr c32
                    have c32b1 : ((Go.bits .and .i64 (ji25) 1) != 1) = false := bne_eq_false_iff_eq.mpr c32
                    clear c32
                    (first | rw [c32b0] | (simp only [i64_w, i32_w]; rw [c32b0]) | skip)
                    replace H := Option.bind_eq_some_iff.mp H
                    obtain ⟨t173, A330, H⟩ := H
                    replace H : ((lampblacklaw02_Few.f l0).bind fun t176 => (if (ji20) < (t173.length : Int) then ((some (t173.set ((ji20) : Int).toNat (Go.bits .andNot .i64 (rd t173 (ji20)) (shl .i64 1 (ji23))) : List Int)).bind fun y180 => (if (ji23) < (t173.length : Int) then (lampblacklaw02_WidthParts.l0 kj5 l0 ji20 ji23 t162 y169 (y180.set ((ji23) : Int).toNat (Go.bits .andNot .i64 (rd y180 (ji23)) (shl .i64 1 (ji20)))) t176 (t176.length : Int) 0) else (none))) else (none))) = some r := H
                    have A33 := Aside0.mk A330
                    clear A330
                    replace H := Option.bind_eq_some_iff.mp H
                    obtain ⟨t176, A340, H⟩ := H
                    replace H : (if (ji20) < (t173.length : Int) then ((some (t173.set ((ji20) : Int).toNat (Go.bits .andNot .i64 (rd t173 (ji20)) (shl .i64 1 (ji23))) : List Int)).bind fun y180 => (if (ji23) < (t173.length : Int) then (lampblacklaw02_WidthParts.l0 kj5 l0 ji20 ji23 t162 y169 (y180.set ((ji23) : Int).toNat (Go.bits .andNot .i64 (rd y180 (ji23)) (shl .i64 1 (ji20)))) t176 (t176.length : Int) 0) else (none))) else (none)) = some r := H
                    have A34 := Aside0.mk A340
                    clear A340
                    by_cases c35 : (ji20) < (t173.length : Int)
                    · rw [if_pos c35] at H
                      have c35b0 : decide ((ji20) < (t173.length : Int)) = true := decide_eq_true c35
                      clear c35
                      have c36b0 := eq_true (of_decide_eq_true (by first | (with_reducible assumption) | assumption) : 0 ≤ (ji23))
                      obtain ⟨ji37, hji37⟩ : ∃ j_ : Int, (shl .i64 1 (ji23)) = j_ := ⟨_, rfl⟩
                      replace H : ((some (t173.set ((ji20) : Int).toNat (Go.bits .andNot .i64 (rd t173 (ji20)) (ji37)) : List Int)).bind fun y180 => (if (ji23) < (t173.length : Int) then (lampblacklaw02_WidthParts.l0 kj5 l0 ji20 ji23 t162 y169 (y180.set ((ji23) : Int).toNat (Go.bits .andNot .i64 (rd y180 (ji23)) (shl .i64 1 (ji20)))) t176 (t176.length : Int) 0) else (none))) = some r := by first | (rw [hji37] at H; exact H) | (simp only [hji37] at H ⊢; exact H)
                      (try rw [hji37] at A33)
                      (try rw [hji37] at A34)
                      have hji37_ : (IntKind.i64.wrap (1 * 2 ^ min (ji23).toNat 64)) = ji37 := hji37
                      have hji37z : (ji23) ≤ 64 → (IntKind.i64.wrap (1 * 2 ^ (ji23).toNat)) = ji37 := shl_small hji37
                      have hji37u : (IntKind.i64.wrap (2 ^ min (ji23).toNat 64)) = ji37 := by have h_ := hji37_; rw [Int.one_mul] at h_; exact h_
                      have hji37v : (ji23) ≤ 64 → (IntKind.i64.wrap (2 ^ (ji23).toNat)) = ji37 := fun hle_ => by have h_ := hji37z hle_; rw [Int.one_mul] at h_; exact h_
                      have hji37y : (wrap64 (1 * 2 ^ min (ji23).toNat 64)) = ji37 := (i64_w _).symm.trans hji37_
                      have hji37x : (ji23) ≤ 64 → (wrap64 (1 * 2 ^ (ji23).toNat)) = ji37 := fun h_ => (i64_w _).symm.trans (hji37z h_)
                      obtain ⟨y180, hy180⟩ : ∃ y_ : List Int, y_ = (t173.set ((ji20) : Int).toNat (Go.bits .andNot .i64 (rd t173 (ji20)) (ji37))) := ⟨_, rfl⟩
                      replace H : (if (ji23) < (t173.length : Int) then (lampblacklaw02_WidthParts.l0 kj5 l0 ji20 ji23 t162 y169 (y180.set ((ji23) : Int).toNat (Go.bits .andNot .i64 (rd y180 (ji23)) (shl .i64 1 (ji20)))) t176 (t176.length : Int) 0) else (none)) = some r := by first | (rw [hy180]; with_reducible exact H) | (have H2_ := (Option.bind_some _ _).symm.trans H; rw [hy180]; with_reducible exact H2_) | (have H2_ := (Option.bind_some _ _).symm.trans H; with_reducible exact H2_) | with_reducible exact H | (rw [hy180]; exact H) | exact H
                      have Ny180 := Aside0.mk hy180
                      clear hy180
                      by_cases c39 : (ji23) < (t173.length : Int)
                      · rw [if_pos c39] at H
                        have c39b0 : decide ((ji23) < (t173.length : Int)) = true := decide_eq_true c39
                        clear c39
                        have c40b0 := eq_true (of_decide_eq_true (by first | (with_reducible assumption) | assumption) : 0 ≤ (ji20))
                        obtain ⟨ji41, hji41⟩ : ∃ j_ : Int, (shl .i64 1 (ji20)) = j_ := ⟨_, rfl⟩
                        replace H : (lampblacklaw02_WidthParts.l0 kj5 l0 ji20 ji23 t162 y169 (y180.set ((ji23) : Int).toNat (Go.bits .andNot .i64 (rd y180 (ji23)) (ji41))) t176 (t176.length : Int) 0) = some r := by first | (rw [hji41] at H; exact H) | (simp only [hji41] at H ⊢; exact H)
                        (try rw [hji41] at A33)
                        (try rw [hji41] at A34)
                        have hji41_ : (IntKind.i64.wrap (1 * 2 ^ min (ji20).toNat 64)) = ji41 := hji41
                        have hji41z : (ji20) ≤ 64 → (IntKind.i64.wrap (1 * 2 ^ (ji20).toNat)) = ji41 := shl_small hji41
                        have hji41u : (IntKind.i64.wrap (2 ^ min (ji20).toNat 64)) = ji41 := by have h_ := hji41_; rw [Int.one_mul] at h_; exact h_
                        have hji41v : (ji20) ≤ 64 → (IntKind.i64.wrap (2 ^ (ji20).toNat)) = ji41 := fun hle_ => by have h_ := hji41z hle_; rw [Int.one_mul] at h_; exact h_
                        have hji41y : (wrap64 (1 * 2 ^ min (ji20).toNat 64)) = ji41 := (i64_w _).symm.trans hji41_
                        have hji41x : (ji20) ≤ 64 → (wrap64 (1 * 2 ^ (ji20).toNat)) = ji41 := fun h_ => (i64_w _).symm.trans (hji41z h_)
                        obtain ⟨y182, hy182⟩ : ∃ y_ : List Int, y_ = (y180.set ((ji23) : Int).toNat (Go.bits .andNot .i64 (rd y180 (ji23)) (ji41))) := ⟨_, rfl⟩
                        replace H : (lampblacklaw02_WidthParts.l0 kj5 l0 ji20 ji23 t162 y169 y182 t176 (t176.length : Int) 0) = some r := by first | (rw [hy182]; with_reducible exact H) | (have H2_ := (Option.bind_some _ _).symm.trans H; rw [hy182]; with_reducible exact H2_) | (have H2_ := (Option.bind_some _ _).symm.trans H; with_reducible exact H2_) | with_reducible exact H | (rw [hy182]; exact H) | exact H
                        have Ny182 := Aside0.mk hy182
                        clear hy182
                        have H' := Aside0.mk H
                        clear H
                        try go_wp2_with (first | ((with_reducible refine gate_callee (f := 19) rfl ?_); refine goesL_ (some 66) rfl rfl Tryd.func19 (by kernel_rfl) rfl #[.slice (some ad172) l0.length c0] rfl (by (try simp only [List.map_toArray, List.map_cons, List.map_nil]); first | done | rfl | (simp only [List.length_drop, List.length_take]; rfl)) ?_; (with_reducible refine (lampblacklaw02_Few.calls _ _ l0 t173 _ ?side1 ?side2 A33.out).mono ?_); (case side1 => repeat (first | exact (Kd.C_below HR0.out HB.out) | (with_reducible refine Kd.C_alloc ?_ _) | (with_reducible refine Kd.C_drewN ?_ _) | (with_reducible refine Kd.C_drew ?_))); (case side2 => exact HC0.out); rintro e w43 ⟨v174, rfl, ho0, hb⟩; refine ⟨_, rfl, ?_⟩; have n0_ := Aside0.mk (Kd.N_elder' (by (with_reducible repeat (first | apply Kd.N_alloc | apply Kd.N_drewN | apply Kd.N_drew)); exact HO171.out) (Kd.R_base ho0) hb); have n1_ := Aside0.mk (Kd.R_lower ho0 (below_size (by repeat (first | (with_reducible first | exact HB.out | apply below_alloc | apply pw_below_drewN | apply below_drew1) | exact HB.out)))); have n2_ := Aside0.mk (below_step (by repeat (first | (with_reducible first | exact HB.out | apply below_alloc | apply pw_below_drewN | apply below_drew1) | exact HB.out)) hb); clear HO171; clear HB; have HO171 := n0_; have HO175 := n1_; have HB := n2_; clear n0_ n1_ n2_; (try clear hb); (try clear hb2); (try clear hk); (try clear hi); (try clear ho0)) | ((with_reducible refine gate_callee (f := 19) rfl ?_); refine goesL_ (some 68) rfl rfl Tryd.func19 (by kernel_rfl) rfl #[.slice (some ad172) l0.length c0] rfl (by (try simp only [List.map_toArray, List.map_cons, List.map_nil]); first | done | rfl | (simp only [List.length_drop, List.length_take]; rfl)) ?_; (with_reducible refine (lampblacklaw02_Few.calls _ _ l0 t176 _ ?side1 ?side2 A34.out).mono ?_); (case side1 => repeat (first | exact (Kd.C_below HR0.out HB.out) | (with_reducible refine Kd.C_alloc ?_ _) | (with_reducible refine Kd.C_drewN ?_ _) | (with_reducible refine Kd.C_drew ?_))); (case side2 => exact HC0.out); rintro e w44 ⟨v177, rfl, ho0, hb⟩; refine ⟨_, rfl, ?_⟩; have n0_ := Aside0.mk (Kd.N_elder' (by (with_reducible repeat (first | apply Kd.N_alloc | apply Kd.N_drewN | apply Kd.N_drew)); exact HO171.out) (Kd.R_base ho0) hb); have n1_ := Aside0.mk (Kd.R_elder' (by (with_reducible repeat (first | apply Kd.R_alloc | apply Kd.R_drewN | apply Kd.R_drew)); exact HO175.out) (Kd.R_base ho0) hb); have n2_ := Aside0.mk (Kd.R_lower (Kd.R_new' ho0 (Kd.R_lt (by (with_reducible repeat (first | apply Kd.R_alloc | apply Kd.R_drewN | apply Kd.R_drew)); exact HO175.out))) (below_size (by repeat (first | (with_reducible first | exact HB.out | apply below_alloc | apply pw_below_drewN | apply below_drew1) | exact HB.out)))); have n3_ := Aside0.mk (below_step (by repeat (first | (with_reducible first | exact HB.out | apply below_alloc | apply pw_below_drewN | apply below_drew1) | exact HB.out)) hb); clear HO171; clear HO175; clear HB; have HO171 := n0_; have HO175 := n1_; have HO178 := n2_; have HB := n3_; clear n0_ n1_ n2_ n3_; (try clear hb); (try clear hb2); (try clear hk); (try clear hi); (try clear ho0)))
                        have n0_ := Aside0.mk (Kd.N_drew HO171.out)
                        have n1_ := Aside0.mk (Kd.R_drew HO175.out)
                        have n2_ := Aside0.mk (Kd.R_drew HO178.out)
                        have n3_ := Aside0.mk (below_drew1 HB.out)
                        clear HO171
                        clear HO175
                        clear HO178
                        clear HB
                        have HO171 := n0_
                        have HO175 := n1_
                        have HO178 := n2_
                        have HB := n3_
                        clear n0_ n1_ n2_ n3_
                        obtain ⟨Ao46, co46, eo46⟩ := Kd.R_slice HO175.out
                        (first | subst eo46 | (injection eo46 with f1_ f2_ f3_; have f4_ := f1_.symm; have f5_ := f3_.symm; clear f1_ f2_ f3_; subst f4_; subst f5_))
                        have p179 : 0 ≤ ((ji20) : Int) := of_decide_eq_true (by first | (with_reducible assumption) | assumption)
                        have q179 : (ji20) < (t173.length : Int) := of_decide_eq_true (by first | (with_reducible assumption) | assumption)
                        obtain ⟨ad179, e179, hx179_0⟩ := Kd.at_int (Kd.R_reads' HO175.out).2.2 (ji20) p179 q179
                        cases e179
                        replace p179 := eq_true p179
                        replace q179 := eq_true q179
                        have p38 : 0 ≤ ((ji20) : Int) := of_decide_eq_true (by first | (with_reducible assumption) | assumption)
                        have q38 : ((ji20) : Int) < ((t173.length : Int) : Int) := of_decide_eq_true (by first | (with_reducible assumption) | assumption)
                        obtain ⟨go38, co38, eo38, gb38, gl38, cl38, HG38⟩ := Kd.R_form HO175.out (by omega)
                        (first | cases eo38 | (injection eo38 with ea_ en_ ec_; (first | subst ea_ | (injection ea_ with ea_; subst ea_)); subst ec_; clear en_))
                        have GB38 := Aside0.mk gb38
                        have GG38 := Aside0.mk HG38
                        clear gb38 gl38 HG38
                        (first | simp only [add_plain] at hx179_0 | skip)
                        obtain ⟨hx38_0, hf38_0⟩ := Kd.R_celln 0 HO175.out ((ji20) : Int) p38 q38
                        replace p38 := eq_true p38
                        replace q38 := eq_true q38
                        have HP47 := Kd.R_putn HO175.out ((ji20) : Int) (Go.bits .andNot .i64 (rd t173 (ji20)) (ji37))
                        rw [← Ny180.out] at HP47
                        have HQ47 := Aside0.mk HP47
                        clear HP47
                        refine start_ (n := 9) (S := fun w' => w'.cell? ⟨go38, ((ji20)).toNat, none⟩ = some (.int .i64 (rd t173 (ji20)))) (ds := [8]) #[false, false, false, false, false, false, false, false, false] (by kernel_rfl) rfl rfl (hx179_0) (fun hHeld => ?_); refine with_tabW lampblacklaw02_WidthParts.tab8 lampblacklaw02_WidthParts.bits8 (fun HT_ HW_ => ?_)
                        generalize w44.drew = w45 at HO171 HO175 HO178 HB GG38 HQ47 hf38_0 hx179_0 hx38_0 hHeld ⊢
                        refine pure_ (i := 0) (N := some 69) (v := ?_) (a' := ?_) #[true, false, false, false, false, false, false, false, false] rfl rfl (any_of HT_.out (by kernel_rfl)) (fun _ _ _ h => h) (Or.inl ⟨by rfl, ?_⟩) ?_ ?_
                        rotate_left
                        · intro w'
                          go_simp
                          with_reducible rfl
                        rotate_left
                        · simp only [Act.put, List.setIfInBounds_toArray, List.set_cons_zero, List.set_cons_succ, i64_w, i32_w]
                          rfl
                        refine pure_ (i := 1) (N := some 70) (v := ?_) (a' := ?_) #[true, true, false, false, false, false, false, false, false] rfl rfl (any_of HT_.out (by kernel_rfl)) (fun _ _ _ h => h) (Or.inl ⟨by rfl, ?_⟩) ?_ ?_
                        rotate_left
                        · intro w'
                          go_simp
                          with_reducible rfl
                        rotate_left
                        · simp only [Act.put, List.setIfInBounds_toArray, List.set_cons_zero, List.set_cons_succ, i64_w, i32_w]
                          rfl
                        refine pure_ (i := 2) (N := some 71) (v := ?_) (a' := ?_) #[true, true, true, false, false, false, false, false, false] rfl rfl (any_of HT_.out (by kernel_rfl)) (fun _ _ _ h => h) (Or.inl ⟨by rfl, ?_⟩) ?_ ?_
                        rotate_left
                        · intro w'
                          go_simp
                          with_reducible rfl
                        rotate_left
                        · simp only [Act.put, List.setIfInBounds_toArray, List.set_cons_zero, List.set_cons_succ, i64_w, i32_w]
                          rfl
                        refine pure_ (i := 4) (N := some 73) (v := ?_) (a' := ?_) #[true, true, true, false, true, false, false, false, false] rfl rfl (any_of HT_.out (by kernel_rfl)) (fun _ _ _ h => h) (Or.inl ⟨by rfl, ?_⟩) ?_ ?_
                        rotate_left
                        · intro w'
                          go_simp
                          with_reducible rfl
                        rotate_left
                        · simp only [Act.put, List.setIfInBounds_toArray, List.set_cons_zero, List.set_cons_succ, i64_w, i32_w]
                          rfl
                        refine pure_ (i := 5) (N := some 74) (v := ?_) (a' := ?_) #[true, true, true, false, true, true, false, false, false] rfl rfl (any_of HT_.out (by kernel_rfl)) (fun _ _ _ h => h) (Or.inl ⟨by rfl, ?_⟩) ?_ ?_
                        rotate_left
                        · intro w'
                          go_simp
                          with_reducible rfl
                        rotate_left
                        · simp only [Act.put, List.setIfInBounds_toArray, List.set_cons_zero, List.set_cons_succ, i64_w, i32_w]
                          rfl
                        refine take_ (i := 3) (N := some 72) (v := ?_) (a' := ?_) #[true, true, true, true, true, true, false, false, false] rfl rfl (take_ofW HT_.out HW_.out (by kernel_rfl)) (fun _ _ _ h => h) (Or.inl ⟨by rfl, ?_⟩) hHeld ?_ ?_
                        rotate_left
                        · intro w' s0
                          go_simp
                          with_reducible rfl
                        rotate_left
                        · simp only [Act.put, List.setIfInBounds_toArray, List.set_cons_zero, List.set_cons_succ, i64_w, i32_w]
                          rfl
                        refine pure_ (i := 6) (N := some 75) (v := ?_) (a' := ?_) #[true, true, true, true, true, true, true, false, false] rfl rfl (any_of HT_.out (by kernel_rfl)) (fun _ _ _ h => h) (Or.inl ⟨by rfl, ?_⟩) ?_ ?_
                        rotate_left
                        · intro w'
                          go_simp
                          with_reducible rfl
                        rotate_left
                        · simp only [Act.put, List.setIfInBounds_toArray, List.set_cons_zero, List.set_cons_succ, i64_w, i32_w]
                          rfl
                        refine pure_ (i := 7) (N := some 76) (v := ?_) (a' := ?_) #[true, true, true, true, true, true, true, true, false] rfl rfl (any_of HT_.out (by kernel_rfl)) (fun _ _ _ h => h) (Or.inl ⟨by rfl, ?_⟩) ?_ ?_
                        rotate_left
                        · intro w'
                          go_simp
                          with_reducible rfl
                        rotate_left
                        · simp only [Act.put, List.setIfInBounds_toArray, List.set_cons_zero, List.set_cons_succ, i64_w, i32_w]
                          rfl
                        refine last_ (i := 8) (N := none) #[true, true, true, true, true, true, true, true, true] rfl rfl (one_of HT_.out (by kernel_rfl)) (by decide) (fun K hK => ?_)
                        refine skip_ (w1 := ?_) (by rfl) rfl ?_ ?_
                        rotate_left
                        · go_simp
                          rfl
                        refine hK.out _ _ ?_
                        clear hK K
                        refine done_ (done_of HT_.out (by kernel_rfl)) ?_
                        try go_wp2
                        have n0_ : Aside0 (Kd.N (Kd.slice 3 (Kd.int .i64)) 23 (w45.setCell ⟨go38, ((ji20) : Int).toNat, none⟩ (.int .i64 (Go.bits .andNot .i64 (rd t173 (ji20)) (ji37)))) w.heap.size (fun k_ => some k_ ≠ (.slice (some ⟨go38, 0, none⟩) t173.length co46 : Value).ownBlock ∧ some k_ ≠ (v177 : Value).ownBlock) v170 y169) := ⟨by (with_reducible repeat (first | apply Kd.N_alloc | apply Kd.N_drewN | apply Kd.N_drew)); exact Kd.N_mono (Kd.N_far (p := ⟨go38, ((ji20) : Int).toNat, none⟩) (Kd.N_mono HO171.out (fun k_ hk => (⟨hk, fun e_ => hk.1.2 (by rw [e_]; rfl)⟩ : _ ∧ k_ ≠ go38))) (fun _ hk => hk.2) (.int .i64 (Go.bits .andNot .i64 (rd t173 (ji20)) (ji37)))) (fun _ hk => ⟨hk.1.1.2, hk.1.2⟩)⟩
                        have n1_ : Aside0 (Kd.R (Kd.int .i64) 3 (w45.setCell ⟨go38, ((ji20) : Int).toNat, none⟩ (.int .i64 (Go.bits .andNot .i64 (rd t173 (ji20)) (ji37)))) w.heap.size (fun k_ => some k_ ≠ (v177 : Value).ownBlock) (.slice (some ⟨go38, 0, none⟩) t173.length co46) y180) := ⟨by (with_reducible repeat (first | apply Kd.R_alloc | apply Kd.R_drewN | apply Kd.R_drew)); exact Kd.R_mono HQ47.out (fun _ hk => hk.2)⟩
                        have n2_ : Aside0 (Kd.R (Kd.int .i64) 3 (w45.setCell ⟨go38, ((ji20) : Int).toNat, none⟩ (.int .i64 (Go.bits .andNot .i64 (rd t173 (ji20)) (ji37)))) w.heap.size (fun k_ => some k_ ≠ (.slice (some ⟨go38, 0, none⟩) t173.length co46 : Value).ownBlock) v177 t176) := ⟨by (with_reducible repeat (first | apply Kd.R_alloc | apply Kd.R_drewN | apply Kd.R_drew)); exact Kd.R_mono (Kd.R_far (p := ⟨go38, ((ji20) : Int).toNat, none⟩) (Kd.R_mono HO178.out (fun k_ hk => (⟨hk, fun e_ => hk.2 (by rw [e_]; rfl)⟩ : _ ∧ k_ ≠ go38))) (fun _ hk => hk.2) (.int .i64 (Go.bits .andNot .i64 (rd t173 (ji20)) (ji37)))) (fun _ hk => hk.1.2)⟩
                        have n3_ : Aside0 (Below w.heap.size w (w45.setCell ⟨go38, ((ji20) : Int).toNat, none⟩ (.int .i64 (Go.bits .andNot .i64 (rd t173 (ji20)) (ji37))))) := ⟨by repeat (first | (with_reducible first | exact HB.out | apply below_alloc | apply pw_below_drewN | apply below_drew1 | refine below_set ?_ GB38.out) | exact HB.out)⟩
                        (try clear HO171)
                        (try clear HO175)
                        (try clear HO178)
                        (try clear HB)
                        generalize (w45.setCell ⟨go38, ((ji20) : Int).toNat, none⟩ (.int .i64 (Go.bits .andNot .i64 (rd t173 (ji20)) (ji37)))) = w48 at n0_ n1_ n2_ n3_ ⊢
                        have HO171 := n0_
                        have HO175 := n1_
                        have HO178 := n2_
                        have HB := n3_
                        clear n0_ n1_ n2_ n3_
                        have n0_ := Aside0.mk (Kd.N_drew HO171.out)
                        have n1_ := Aside0.mk (Kd.R_drew HO175.out)
                        have n2_ := Aside0.mk (Kd.R_drew HO178.out)
                        have n3_ := Aside0.mk (below_drew1 HB.out)
                        clear HO171
                        clear HO175
                        clear HO178
                        clear HB
                        have HO171 := n0_
                        have HO175 := n1_
                        have HO178 := n2_
                        have HB := n3_
                        clear n0_ n1_ n2_ n3_
                        have p181 : 0 ≤ ((ji23) : Int) := of_decide_eq_true (by first | (with_reducible assumption) | assumption)
                        have q181 : (ji23) < (y180.length : Int) := (by have h_ : ((ji23) : Int) < ((t173.length : Int) : Int) := of_decide_eq_true (by first | (with_reducible assumption) | assumption); first | (have e_ := (Kd.R_reads' HO175.out).1; omega) | simpa only [Ny180.out, List.length_set] using h_)
                        have ql181 : (((ji23) : Int) < ((t173.length : Int) : Int)) = True := eq_true (of_decide_eq_true (by first | (with_reducible assumption) | assumption))
                        obtain ⟨ad181, e181, hx181_0⟩ := Kd.at_int (Kd.R_reads' HO175.out).2.2 (ji23) p181 q181
                        obtain rfl : (⟨go38, 0, none⟩ : Addr) = ad181 := (by injection e181)
                        (first | simp only [add_plain] at hx181_0 | simp only [add_at] at hx181_0 | simp only [Addr.add, Nat.zero_add] at hx181_0 | skip)
                        replace p181 := eq_true p181
                        replace q181 := eq_true q181
                        have p42 : 0 ≤ ((ji23) : Int) := of_decide_eq_true (by first | (with_reducible assumption) | assumption)
                        have q42 : ((ji23) : Int) < ((t173.length : Int) : Int) := of_decide_eq_true (by first | (with_reducible assumption) | assumption)
                        obtain ⟨hx42_0, hf42_0⟩ := Kd.R_celln 0 HO175.out ((ji23) : Int) p42 q42
                        replace p42 := eq_true p42
                        replace q42 := eq_true q42
                        have HP50 := Kd.R_putn HO175.out ((ji23) : Int) (Go.bits .andNot .i64 (rd y180 (ji23)) (ji41))
                        rw [← Ny182.out] at HP50
                        have HQ50 := Aside0.mk HP50
                        clear HP50
                        refine start_ (n := 9) (S := fun w' => w'.cell? ⟨go38, ((ji23)).toNat, none⟩ = some (.int .i64 (rd y180 (ji23)))) (ds := [8]) #[false, false, false, false, false, false, false, false, false] (by kernel_rfl) rfl rfl (hx181_0) (fun hHeld => ?_); refine with_tabW lampblacklaw02_WidthParts.tab9 lampblacklaw02_WidthParts.bits9 (fun HT_ HW_ => ?_)
                        generalize w48.drew = w49 at HO171 HO175 HO178 HB HQ47 HQ50 hf42_0 hx181_0 hx42_0 hHeld ⊢
                        refine pure_ (i := 0) (N := some 77) (v := ?_) (a' := ?_) #[true, false, false, false, false, false, false, false, false] rfl rfl (any_of HT_.out (by kernel_rfl)) (fun _ _ _ h => h) (Or.inl ⟨by rfl, ?_⟩) ?_ ?_
                        rotate_left
                        · intro w'
                          go_simp
                          with_reducible rfl
                        rotate_left
                        · simp only [Act.put, List.setIfInBounds_toArray, List.set_cons_zero, List.set_cons_succ, i64_w, i32_w]
                          rfl
                        refine pure_ (i := 1) (N := some 78) (v := ?_) (a' := ?_) #[true, true, false, false, false, false, false, false, false] rfl rfl (any_of HT_.out (by kernel_rfl)) (fun _ _ _ h => h) (Or.inl ⟨by rfl, ?_⟩) ?_ ?_
                        rotate_left
                        · intro w'
                          go_simp
                          with_reducible rfl
                        rotate_left
                        · simp only [Act.put, List.setIfInBounds_toArray, List.set_cons_zero, List.set_cons_succ, i64_w, i32_w]
                          rfl
                        refine pure_ (i := 2) (N := some 79) (v := ?_) (a' := ?_) #[true, true, true, false, false, false, false, false, false] rfl rfl (any_of HT_.out (by kernel_rfl)) (fun _ _ _ h => h) (Or.inl ⟨by rfl, ?_⟩) ?_ ?_
                        rotate_left
                        · intro w'
                          go_simp
                          with_reducible rfl
                        rotate_left
                        · simp only [Act.put, List.setIfInBounds_toArray, List.set_cons_zero, List.set_cons_succ, i64_w, i32_w]
                          rfl
                        refine pure_ (i := 4) (N := some 81) (v := ?_) (a' := ?_) #[true, true, true, false, true, false, false, false, false] rfl rfl (any_of HT_.out (by kernel_rfl)) (fun _ _ _ h => h) (Or.inl ⟨by rfl, ?_⟩) ?_ ?_
                        rotate_left
                        · intro w'
                          go_simp
                          with_reducible rfl
                        rotate_left
                        · simp only [Act.put, List.setIfInBounds_toArray, List.set_cons_zero, List.set_cons_succ, i64_w, i32_w]
                          rfl
                        refine pure_ (i := 5) (N := some 82) (v := ?_) (a' := ?_) #[true, true, true, false, true, true, false, false, false] rfl rfl (any_of HT_.out (by kernel_rfl)) (fun _ _ _ h => h) (Or.inl ⟨by rfl, ?_⟩) ?_ ?_
                        rotate_left
                        · intro w'
                          go_simp
                          with_reducible rfl
                        rotate_left
                        · simp only [Act.put, List.setIfInBounds_toArray, List.set_cons_zero, List.set_cons_succ, i64_w, i32_w]
                          rfl
                        refine take_ (i := 3) (N := some 80) (v := ?_) (a' := ?_) #[true, true, true, true, true, true, false, false, false] rfl rfl (take_ofW HT_.out HW_.out (by kernel_rfl)) (fun _ _ _ h => h) (Or.inl ⟨by rfl, ?_⟩) hHeld ?_ ?_
                        rotate_left
                        · intro w' s0
                          go_simp
                          with_reducible rfl
                        rotate_left
                        · simp only [Act.put, List.setIfInBounds_toArray, List.set_cons_zero, List.set_cons_succ, i64_w, i32_w]
                          rfl
                        refine pure_ (i := 6) (N := some 83) (v := ?_) (a' := ?_) #[true, true, true, true, true, true, true, false, false] rfl rfl (any_of HT_.out (by kernel_rfl)) (fun _ _ _ h => h) (Or.inl ⟨by rfl, ?_⟩) ?_ ?_
                        rotate_left
                        · intro w'
                          go_simp
                          with_reducible rfl
                        rotate_left
                        · simp only [Act.put, List.setIfInBounds_toArray, List.set_cons_zero, List.set_cons_succ, i64_w, i32_w]
                          rfl
                        refine pure_ (i := 7) (N := some 84) (v := ?_) (a' := ?_) #[true, true, true, true, true, true, true, true, false] rfl rfl (any_of HT_.out (by kernel_rfl)) (fun _ _ _ h => h) (Or.inl ⟨by rfl, ?_⟩) ?_ ?_
                        rotate_left
                        · intro w'
                          go_simp
                          with_reducible rfl
                        rotate_left
                        · simp only [Act.put, List.setIfInBounds_toArray, List.set_cons_zero, List.set_cons_succ, i64_w, i32_w]
                          rfl
                        refine last_ (i := 8) (N := none) #[true, true, true, true, true, true, true, true, true] rfl rfl (one_of HT_.out (by kernel_rfl)) (by decide) (fun K hK => ?_)
                        refine skip_ (w1 := ?_) (by rfl) rfl ?_ ?_
                        rotate_left
                        · go_simp
                          rfl
                        refine hK.out _ _ ?_
                        clear hK K
                        refine done_ (done_of HT_.out (by kernel_rfl)) ?_
                        obtain ⟨Ao51, co51, eo51⟩ := Kd.R_slice HO178.out
                        subst eo51
                        try go_wp2
                        go_loopg [87] kj5 (fun kq v87 w' => ∃ (x11_2 : List Int) (x87_2 : Int), v87 = .int .i64 x87_2 ∧ Aside0 (lampblacklaw02_WidthParts.l0 kq l0 ji20 ji23 t162 y169 y182 x11_2 (t176.length : Int) x87_2 = some r) ∧ Aside0 (kq ≤ kj5) ∧ Aside0 (Kd.N (Kd.slice 3 (Kd.int .i64)) 23 w' w.heap.size (fun k_ => some k_ ≠ ((.slice (some ⟨go38, 0, none⟩) t173.length co46) : Value).ownBlock ∧ some k_ ≠ ((.slice Ao51 t176.length co51) : Value).ownBlock) v170 y169) ∧ Aside0 (Kd.R (Kd.int .i64) 3 w' w.heap.size (fun k_ => some k_ ≠ ((.slice Ao51 t176.length co51) : Value).ownBlock) (.slice (some ⟨go38, 0, none⟩) t173.length co46) y182) ∧ Aside0 (Kd.R (Kd.int .i64) 3 w' w.heap.size (fun k_ => some k_ ≠ ((.slice (some ⟨go38, 0, none⟩) t173.length co46) : Value).ownBlock) (.slice Ao51 t176.length co51) x11_2) ∧ Aside0 (Below w.heap.size w w'))
                        case atStart => exact ⟨(t176), (0), (by first | rfl | (simp; done) | (simp [*]; done)), H', ⟨Nat.le_refl _⟩, ⟨by (with_reducible repeat (first | apply Kd.N_alloc | apply Kd.N_drewN | apply Kd.N_drew)); exact Kd.N_mono (Kd.N_far (p := ⟨go38, ((ji23) : Int).toNat, none⟩) (Kd.N_mono HO171.out (fun k_ hk => (⟨hk, fun e_ => hk.1 (by rw [e_]; rfl)⟩ : _ ∧ k_ ≠ go38))) (fun _ hk => hk.2) (.int .i64 (Go.bits .andNot .i64 (rd y180 (ji23)) (ji41)))) (fun _ hk => ⟨hk.1.1, hk.1.2⟩)⟩, ⟨by (with_reducible repeat (first | apply Kd.R_alloc | apply Kd.R_drewN | apply Kd.R_drew)); exact HQ50.out⟩, ⟨by (with_reducible repeat (first | apply Kd.R_alloc | apply Kd.R_drewN | apply Kd.R_drew)); exact Kd.R_mono (Kd.R_far (p := ⟨go38, ((ji23) : Int).toNat, none⟩) (Kd.R_mono HO178.out (fun k_ hk => (⟨hk, fun e_ => hk (by rw [e_]; rfl)⟩ : _ ∧ k_ ≠ go38))) (fun _ hk => hk.2) (.int .i64 (Go.bits .andNot .i64 (rd y180 (ji23)) (ji41)))) (fun _ hk => hk.1)⟩, ⟨by repeat (first | (with_reducible first | exact HB.out | apply below_alloc | apply pw_below_drewN | apply below_drew1 | refine below_set ?_ GB38.out) | exact HB.out)⟩⟩
                        case round =>
                          clear H'
                          try clear c1
                          try clear p1
                          try clear q1
                          try clear hx1
                          try clear c2
                          try clear p2
                          try clear c3
                          try clear p3
                          try clear q3
                          try clear hx3
                          try clear hf3
                          try clear c4
                          try clear p4
                          try clear q4
                          try clear hx4
                          try clear hf4
                          try clear p6
                          try clear c10
                          try clear c10b0
                          try clear c10b1
                          try clear c11
                          try clear c12
                          try clear c12b0
                          try clear c12b1
                          try clear c15
                          try clear c15b0
                          try clear c15b1
                          try clear p17
                          try clear q17
                          try clear hx17
                          try clear c18
                          try clear c18b0
                          try clear c18b1
                          try clear p18
                          try clear q18
                          try clear hx18
                          try clear c19
                          try clear c21
                          try clear c21b0
                          try clear c22
                          try clear c22b0
                          try clear c24
                          try clear c24b0
                          try clear c24b1
                          try clear c32
                          try clear c32b0
                          try clear c32b1
                          try clear c35
                          try clear c35b0
                          try clear c36
                          try clear c36b0
                          try clear p38
                          try clear q38
                          try clear hx38
                          try clear hf38
                          try clear c39
                          try clear c39b0
                          try clear c40
                          try clear c40b0
                          try clear p42
                          try clear q42
                          try clear hx42
                          try clear hf42
                          try clear hx172_0
                          try clear hx179_0
                          try clear hx181_0
                          try clear hx38_0
                          try clear hx42_0
                          try clear p172
                          try clear p179
                          try clear p181
                          try clear p2
                          try clear p38
                          try clear p42
                          try clear q172
                          try clear q179
                          try clear q181
                          try clear q38
                          try clear q42
                          obtain ⟨x11_2, x87_2, rfl, HA, HK2, HO_9, HO_10, HO_11, HB⟩ := hrel
                          have hl10_2 := (Kd.R_reads' HO_10.out).1
                          rw [hl10_2] at HO_10
                          (try simp only [hl10_2])
                          (try simp only [hl10_2] at HO_9)
                          (try simp only [hl10_2] at HO_11)
                          have hl11_2 := (Kd.R_reads' HO_11.out).1
                          rw [hl11_2] at HO_11
                          (try simp only [hl11_2])
                          (try simp only [hl11_2] at HO_9)
                          (try simp only [hl11_2] at HO_10)
                          cases gk with
                          | zero => exact absurd HA.out (by simp [lampblacklaw02_WidthParts.l0])
                          | succ k2 =>
                            have H := HA.out
                            clear HA
                            simp only [lampblacklaw02_WidthParts.l0] at H
                            by_cases c52 : x87_2 < (t176.length : Int)
                            · rw [if_pos c52] at H
                              have c52b0 : decide (x87_2 < (t176.length : Int)) = true := decide_eq_true c52
                              (try (have c52b0_hl10_2 := c52b0; rw [hl10_2] at c52b0_hl10_2))
                              (try (have c52b0_hl11_2 := c52b0; rw [hl11_2] at c52b0_hl11_2))
                              clear c52
                              by_cases c53 : x87_2 = ji20
                              · rw [if_pos c53] at H
                                have c53b0 : (x87_2 == ji20) = true := beq_iff_eq.mpr c53
                                have c53b1 : (x87_2 != ji20) = false := bne_eq_false_iff_eq.mpr c53
                                clear c53
                                have H' := Aside0.mk H
                                clear H
                                go_wp2
                                (try simp only [← hl10_2, ← hl11_2])
                                go_roundg k2
                                case measure => have := HJ5.out; have := HK2.out; omega
                                case rel => exact ⟨(x11_2), (wrap64 (x87_2 + 1)), (by first | rfl | (simp; done) | (simp [*]; done)), H', ⟨by have := HJ5.out; have := HK2.out; omega⟩, ⟨by (try simp only [hl10_2]); (try simp only [hl11_2]); (with_reducible repeat (first | apply Kd.N_alloc | apply Kd.N_drewN | apply Kd.N_drew)); exact HO_9.out⟩, ⟨by (try simp only [hl10_2]); (try simp only [hl11_2]); (with_reducible repeat (first | apply Kd.R_alloc | apply Kd.R_drewN | apply Kd.R_drew)); exact HO_10.out⟩, ⟨by (try simp only [hl10_2]); (try simp only [hl11_2]); (with_reducible repeat (first | apply Kd.R_alloc | apply Kd.R_drewN | apply Kd.R_drew)); exact HO_11.out⟩, ⟨by repeat (first | (with_reducible first | exact HB.out | apply below_alloc | apply pw_below_drewN | apply below_drew1) | exact HB.out)⟩⟩
                              · rw [if_neg c53] at H
                                have c53b0 : (x87_2 == ji20) = false := beq_eq_false_iff_ne.mpr c53
                                have c53b1 : (x87_2 != ji20) = true := bne_iff_ne.mpr c53
                                by_cases c54 : 0 ≤ ji23
                                · rw [if_pos c54] at H
                                  have c54b0 : decide (0 ≤ ji23) = true := decide_eq_true c54
                                  clear c54
                                  by_cases c55 : ji23 < (l0.length : Int)
                                  · rw [if_pos c55] at H
                                    have c55b0 : decide (ji23 < (l0.length : Int)) = true := decide_eq_true c55
                                    (try (have c55b0_hl10_2 := c55b0; rw [hl10_2] at c55b0_hl10_2))
                                    (try (have c55b0_hl11_2 := c55b0; rw [hl11_2] at c55b0_hl11_2))
                                    clear c55
                                    by_cases c56 : 0 ≤ x87_2
                                    · rw [if_pos c56] at H
                                      have c56b0 := eq_true c56
                                      have c56b1 : decide (0 ≤ x87_2) = true := decide_eq_true c56
                                      clear c56
                                      obtain ⟨ji57, hji57⟩ : ∃ j_ : Int, (shr .i64 (rd l0 ji23) x87_2) = j_ := ⟨_, rfl⟩
                                      replace H : (if (Go.bits .and .i64 (ji57) 1) = 1 then (if x87_2 < (x11_2.length : Int) then (if 0 ≤ ji20 then ((some (x11_2.set (x87_2 : Int).toNat (Go.bits .or .i64 (rd x11_2 x87_2) (shl .i64 1 ji20)) : List Int)).bind fun y185 => (if ji20 < (x11_2.length : Int) then (lampblacklaw02_WidthParts.l0 k2 l0 ji20 ji23 t162 y169 y182 (y185.set (ji20 : Int).toNat (Go.bits .or .i64 (rd y185 ji20) (shl .i64 1 x87_2))) (t176.length : Int) (wrap64 (x87_2 + 1))) else (none))) else (none)) else (none)) else (lampblacklaw02_WidthParts.l0 k2 l0 ji20 ji23 t162 y169 y182 x11_2 (t176.length : Int) (wrap64 (x87_2 + 1)))) = some r := by first | (rw [hji57] at H; exact H) | (simp only [hji57] at H ⊢; exact H)
                                      have hji57_ : ((rd l0 ji23) / 2 ^ min x87_2.toNat 64) = ji57 := hji57
                                      have hji57z : x87_2 ≤ 64 → ((rd l0 ji23) / 2 ^ x87_2.toNat) = ji57 := shr_small hji57
                                      by_cases c58 : (Go.bits .and .i64 (ji57) 1) = 1
                                      · rw [if_pos c58] at H
                                        have c58b0 : ((Go.bits .and .i64 (ji57) 1) == 1) = true := beq_iff_eq.mpr c58
                                        have c58b1 : ((Go.bits .and .i64 (ji57) 1) != 1) = false := bne_eq_false_iff_eq.mpr c58
                                        clear c58
                                        by_cases c59 : x87_2 < (x11_2.length : Int)
                                        · rw [if_pos c59] at H
                                          have c59b0 : decide (x87_2 < (x11_2.length : Int)) = true := decide_eq_true c59
                                          (try (have c59b0_hl10_2 := c59b0; rw [hl10_2] at c59b0_hl10_2))
                                          (try (have c59b0_hl11_2 := c59b0; rw [hl11_2] at c59b0_hl11_2))
                                          clear c59
                                          by_cases c60 : 0 ≤ ji20
                                          · rw [if_pos c60] at H
                                            have c60b0 := eq_true c60
                                            have c60b1 : decide (0 ≤ ji20) = true := decide_eq_true c60
                                            clear c60
                                            replace H : ((some (x11_2.set (x87_2 : Int).toNat (Go.bits .or .i64 (rd x11_2 x87_2) (ji41)) : List Int)).bind fun y185 => (if ji20 < (x11_2.length : Int) then (lampblacklaw02_WidthParts.l0 k2 l0 ji20 ji23 t162 y169 y182 (y185.set (ji20 : Int).toNat (Go.bits .or .i64 (rd y185 ji20) (shl .i64 1 x87_2))) (t176.length : Int) (wrap64 (x87_2 + 1))) else (none))) = some r := by first | (rw [hji41] at H; exact H) | (simp only [hji41] at H ⊢; exact H)
                                            obtain ⟨y185, hy185⟩ : ∃ y_ : List Int, y_ = (x11_2.set (x87_2 : Int).toNat (Go.bits .or .i64 (rd x11_2 x87_2) (ji41))) := ⟨_, rfl⟩
                                            replace H : (if ji20 < (x11_2.length : Int) then (lampblacklaw02_WidthParts.l0 k2 l0 ji20 ji23 t162 y169 y182 (y185.set (ji20 : Int).toNat (Go.bits .or .i64 (rd y185 ji20) (shl .i64 1 x87_2))) (t176.length : Int) (wrap64 (x87_2 + 1))) else (none)) = some r := by first | (rw [hy185]; with_reducible exact H) | (have H2_ := (Option.bind_some _ _).symm.trans H; rw [hy185]; with_reducible exact H2_) | (have H2_ := (Option.bind_some _ _).symm.trans H; with_reducible exact H2_) | with_reducible exact H | (rw [hy185]; exact H) | exact H
                                            have Ny185 := Aside0.mk hy185
                                            clear hy185
                                            by_cases c62 : ji20 < (x11_2.length : Int)
                                            · rw [if_pos c62] at H
                                              have c62b0 : decide (ji20 < (x11_2.length : Int)) = true := decide_eq_true c62
                                              (try (have c62b0_hl10_2 := c62b0; rw [hl10_2] at c62b0_hl10_2))
                                              (try (have c62b0_hl11_2 := c62b0; rw [hl11_2] at c62b0_hl11_2))
                                              clear c62
                                              have c63b0 := eq_true (of_decide_eq_true (by first | (with_reducible assumption) | assumption) : 0 ≤ x87_2)
                                              obtain ⟨ji64, hji64⟩ : ∃ j_ : Int, (shl .i64 1 x87_2) = j_ := ⟨_, rfl⟩
                                              replace H : (lampblacklaw02_WidthParts.l0 k2 l0 ji20 ji23 t162 y169 y182 (y185.set (ji20 : Int).toNat (Go.bits .or .i64 (rd y185 ji20) (ji64))) (t176.length : Int) (wrap64 (x87_2 + 1))) = some r := by first | (rw [hji64] at H; exact H) | (simp only [hji64] at H ⊢; exact H)
                                              have hji64_ : (IntKind.i64.wrap (1 * 2 ^ min x87_2.toNat 64)) = ji64 := hji64
                                              have hji64z : x87_2 ≤ 64 → (IntKind.i64.wrap (1 * 2 ^ x87_2.toNat)) = ji64 := shl_small hji64
                                              have hji64u : (IntKind.i64.wrap (2 ^ min x87_2.toNat 64)) = ji64 := by have h_ := hji64_; rw [Int.one_mul] at h_; exact h_
                                              have hji64v : x87_2 ≤ 64 → (IntKind.i64.wrap (2 ^ x87_2.toNat)) = ji64 := fun hle_ => by have h_ := hji64z hle_; rw [Int.one_mul] at h_; exact h_
                                              have hji64y : (wrap64 (1 * 2 ^ min x87_2.toNat 64)) = ji64 := (i64_w _).symm.trans hji64_
                                              have hji64x : x87_2 ≤ 64 → (wrap64 (1 * 2 ^ x87_2.toNat)) = ji64 := fun h_ => (i64_w _).symm.trans (hji64z h_)
                                              obtain ⟨y187, hy187⟩ : ∃ y_ : List Int, y_ = (y185.set (ji20 : Int).toNat (Go.bits .or .i64 (rd y185 ji20) (ji64))) := ⟨_, rfl⟩
                                              replace H : (lampblacklaw02_WidthParts.l0 k2 l0 ji20 ji23 t162 y169 y182 y187 (t176.length : Int) (wrap64 (x87_2 + 1))) = some r := by first | (rw [hy187]; with_reducible exact H) | (have H2_ := (Option.bind_some _ _).symm.trans H; rw [hy187]; with_reducible exact H2_) | (have H2_ := (Option.bind_some _ _).symm.trans H; with_reducible exact H2_) | with_reducible exact H | (rw [hy187]; exact H) | exact H
                                              have Ny187 := Aside0.mk hy187
                                              clear hy187
                                              have H' := Aside0.mk H
                                              clear H
                                              have p183 : 0 ≤ (ji23 : Int) := of_decide_eq_true (by first | (with_reducible assumption) | assumption)
                                              have q183 : ji23 < (l0.length : Int) := of_decide_eq_true (by first | (with_reducible assumption) | assumption)
                                              obtain ⟨ad183, e183, hx183_0⟩ := Kd.at_int HR0.out ji23 p183 q183
                                              obtain rfl : ad172 = ad183 := (by injection e183)
                                              replace hx183_0 := (HB.out.cell (World.block_lt_of_cell? w _ hx183_0)).trans hx183_0
                                              replace p183 := eq_true p183
                                              replace q183 := eq_true q183
                                              try go_wp2
                                              have n0_ := Aside0.mk (Kd.N_drew HO_9.out)
                                              have n1_ := Aside0.mk (Kd.R_drew HO_10.out)
                                              have n2_ := Aside0.mk (Kd.R_drew HO_11.out)
                                              have n3_ := Aside0.mk (below_drew1 HB.out)
                                              clear HO_9
                                              clear HO_10
                                              clear HO_11
                                              clear HB
                                              have HO_9 := n0_
                                              have HO_10 := n1_
                                              have HO_11 := n2_
                                              have HB := n3_
                                              clear n0_ n1_ n2_ n3_
                                              have p184 : 0 ≤ (x87_2 : Int) := of_decide_eq_true (by first | (with_reducible assumption) | assumption)
                                              have q184 : x87_2 < (x11_2.length : Int) := of_decide_eq_true (by first | (with_reducible assumption) | assumption)
                                              obtain ⟨ad184, e184, hx184_0⟩ := Kd.at_int (Kd.R_reads' HO_11.out).2.2 x87_2 p184 q184
                                              cases e184
                                              replace p184 := eq_true p184
                                              replace q184 := eq_true q184
                                              have p61 : 0 ≤ (x87_2 : Int) := of_decide_eq_true (by first | (with_reducible assumption) | assumption)
                                              have q61 : (x87_2 : Int) < ((x11_2.length : Int) : Int) := of_decide_eq_true (by first | (with_reducible assumption) | assumption)
                                              obtain ⟨go61, co61, eo61, gb61, gl61, cl61, HG61⟩ := Kd.R_form HO_11.out (by omega)
                                              (first | cases eo61 | (injection eo61 with ea_ en_ ec_; (first | subst ea_ | (injection ea_ with ea_; subst ea_)); subst ec_; clear en_))
                                              have GB61 := Aside0.mk gb61
                                              have GG61 := Aside0.mk HG61
                                              clear gb61 gl61 HG61
                                              (first | simp only [add_plain] at hx184_0 | skip)
                                              obtain ⟨hx61_0, hf61_0⟩ := Kd.R_celln 0 HO_11.out (x87_2 : Int) p61 q61
                                              replace p61 := eq_true p61
                                              replace q61 := eq_true q61
                                              have HP67 := Kd.R_putn HO_11.out (x87_2 : Int) (Go.bits .or .i64 (rd x11_2 x87_2) (ji41))
                                              rw [← Ny185.out] at HP67
                                              have HQ67 := Aside0.mk HP67
                                              clear HP67
                                              refine start_ (n := 9) (S := fun w' => w'.cell? ⟨go61, (x87_2).toNat, none⟩ = some (.int .i64 (rd x11_2 x87_2))) (ds := [8]) #[false, false, false, false, false, false, false, false, false] (by kernel_rfl) rfl rfl (hx184_0) (fun hHeld => ?_); refine with_tabW lampblacklaw02_WidthParts.tab14 lampblacklaw02_WidthParts.bits14 (fun HT_ HW_ => ?_)
                                              generalize wr.drew = w66 at HO_9 HO_10 HO_11 HB GG61 HQ67 hf61_0 hx184_0 hx61_0 hHeld ⊢
                                              refine pure_ (i := 0) (N := some 103) (v := ?_) (a' := ?_) #[true, false, false, false, false, false, false, false, false] rfl rfl (any_of HT_.out (by kernel_rfl)) (fun _ _ _ h => h) (Or.inl ⟨by rfl, ?_⟩) ?_ ?_
                                              rotate_left
                                              · intro w'
                                                go_simp
                                                with_reducible rfl
                                              rotate_left
                                              · simp only [Act.put, List.setIfInBounds_toArray, List.set_cons_zero, List.set_cons_succ, i64_w, i32_w]
                                                rfl
                                              refine pure_ (i := 1) (N := some 104) (v := ?_) (a' := ?_) #[true, true, false, false, false, false, false, false, false] rfl rfl (any_of HT_.out (by kernel_rfl)) (fun _ _ _ h => h) (Or.inl ⟨by rfl, ?_⟩) ?_ ?_
                                              rotate_left
                                              · intro w'
                                                go_simp
                                                with_reducible rfl
                                              rotate_left
                                              · simp only [Act.put, List.setIfInBounds_toArray, List.set_cons_zero, List.set_cons_succ, i64_w, i32_w]
                                                rfl
                                              refine pure_ (i := 2) (N := some 105) (v := ?_) (a' := ?_) #[true, true, true, false, false, false, false, false, false] rfl rfl (any_of HT_.out (by kernel_rfl)) (fun _ _ _ h => h) (Or.inl ⟨by rfl, ?_⟩) ?_ ?_
                                              rotate_left
                                              · intro w'
                                                go_simp
                                                with_reducible rfl
                                              rotate_left
                                              · simp only [Act.put, List.setIfInBounds_toArray, List.set_cons_zero, List.set_cons_succ, i64_w, i32_w]
                                                rfl
                                              refine pure_ (i := 4) (N := some 107) (v := ?_) (a' := ?_) #[true, true, true, false, true, false, false, false, false] rfl rfl (any_of HT_.out (by kernel_rfl)) (fun _ _ _ h => h) (Or.inl ⟨by rfl, ?_⟩) ?_ ?_
                                              rotate_left
                                              · intro w'
                                                go_simp
                                                with_reducible rfl
                                              rotate_left
                                              · simp only [Act.put, List.setIfInBounds_toArray, List.set_cons_zero, List.set_cons_succ, i64_w, i32_w]
                                                rfl
                                              refine pure_ (i := 5) (N := some 108) (v := ?_) (a' := ?_) #[true, true, true, false, true, true, false, false, false] rfl rfl (any_of HT_.out (by kernel_rfl)) (fun _ _ _ h => h) (Or.inl ⟨by rfl, ?_⟩) ?_ ?_
                                              rotate_left
                                              · intro w'
                                                go_simp
                                                with_reducible rfl
                                              rotate_left
                                              · simp only [Act.put, List.setIfInBounds_toArray, List.set_cons_zero, List.set_cons_succ, i64_w, i32_w]
                                                rfl
                                              refine take_ (i := 3) (N := some 106) (v := ?_) (a' := ?_) #[true, true, true, true, true, true, false, false, false] rfl rfl (take_ofW HT_.out HW_.out (by kernel_rfl)) (fun _ _ _ h => h) (Or.inl ⟨by rfl, ?_⟩) hHeld ?_ ?_
                                              rotate_left
                                              · intro w' s0
                                                go_simp
                                                with_reducible rfl
                                              rotate_left
                                              · simp only [Act.put, List.setIfInBounds_toArray, List.set_cons_zero, List.set_cons_succ, i64_w, i32_w]
                                                rfl
                                              refine pure_ (i := 6) (N := some 109) (v := ?_) (a' := ?_) #[true, true, true, true, true, true, true, false, false] rfl rfl (any_of HT_.out (by kernel_rfl)) (fun _ _ _ h => h) (Or.inl ⟨by rfl, ?_⟩) ?_ ?_
                                              rotate_left
                                              · intro w'
                                                go_simp
                                                with_reducible rfl
                                              rotate_left
                                              · simp only [Act.put, List.setIfInBounds_toArray, List.set_cons_zero, List.set_cons_succ, i64_w, i32_w]
                                                rfl
                                              refine pure_ (i := 7) (N := some 110) (v := ?_) (a' := ?_) #[true, true, true, true, true, true, true, true, false] rfl rfl (any_of HT_.out (by kernel_rfl)) (fun _ _ _ h => h) (Or.inl ⟨by rfl, ?_⟩) ?_ ?_
                                              rotate_left
                                              · intro w'
                                                go_simp
                                                with_reducible rfl
                                              rotate_left
                                              · simp only [Act.put, List.setIfInBounds_toArray, List.set_cons_zero, List.set_cons_succ, i64_w, i32_w]
                                                rfl
                                              refine last_ (i := 8) (N := none) #[true, true, true, true, true, true, true, true, true] rfl rfl (one_of HT_.out (by kernel_rfl)) (by decide) (fun K hK => ?_)
                                              refine skip_ (w1 := ?_) (by rfl) rfl ?_ ?_
                                              rotate_left
                                              · go_simp
                                                rfl
                                              refine hK.out _ _ ?_
                                              clear hK K
                                              refine done_ (done_of HT_.out (by kernel_rfl)) ?_
                                              try go_wp2
                                              have n0_ : Aside0 (Kd.N (Kd.slice 3 (Kd.int .i64)) 23 (w66.setCell ⟨go61, (x87_2 : Int).toNat, none⟩ (.int .i64 (Go.bits .or .i64 (rd x11_2 x87_2) (ji41)))) w.heap.size (fun k_ => some k_ ≠ (.slice (some ⟨go38, 0, none⟩) y182.length co46 : Value).ownBlock ∧ some k_ ≠ (.slice (some ⟨go61, 0, none⟩) x11_2.length co51 : Value).ownBlock) v170 y169) := ⟨by (with_reducible repeat (first | apply Kd.N_alloc | apply Kd.N_drewN | apply Kd.N_drew)); exact Kd.N_mono (Kd.N_far (p := ⟨go61, (x87_2 : Int).toNat, none⟩) (Kd.N_mono HO_9.out (fun k_ hk => (⟨hk, fun e_ => hk.2 (by rw [e_]; rfl)⟩ : _ ∧ k_ ≠ go61))) (fun _ hk => hk.2) (.int .i64 (Go.bits .or .i64 (rd x11_2 x87_2) (ji41)))) (fun _ hk => ⟨hk.1.1, hk.1.2⟩)⟩
                                              have n1_ : Aside0 (Kd.R (Kd.int .i64) 3 (w66.setCell ⟨go61, (x87_2 : Int).toNat, none⟩ (.int .i64 (Go.bits .or .i64 (rd x11_2 x87_2) (ji41)))) w.heap.size (fun k_ => some k_ ≠ (.slice (some ⟨go61, 0, none⟩) x11_2.length co51 : Value).ownBlock) (.slice (some ⟨go38, 0, none⟩) y182.length co46) y182) := ⟨by (with_reducible repeat (first | apply Kd.R_alloc | apply Kd.R_drewN | apply Kd.R_drew)); exact Kd.R_mono (Kd.R_far (p := ⟨go61, (x87_2 : Int).toNat, none⟩) (Kd.R_mono HO_10.out (fun k_ hk => (⟨hk, fun e_ => hk (by rw [e_]; rfl)⟩ : _ ∧ k_ ≠ go61))) (fun _ hk => hk.2) (.int .i64 (Go.bits .or .i64 (rd x11_2 x87_2) (ji41)))) (fun _ hk => hk.1)⟩
                                              have n2_ : Aside0 (Kd.R (Kd.int .i64) 3 (w66.setCell ⟨go61, (x87_2 : Int).toNat, none⟩ (.int .i64 (Go.bits .or .i64 (rd x11_2 x87_2) (ji41)))) w.heap.size (fun k_ => some k_ ≠ (.slice (some ⟨go38, 0, none⟩) y182.length co46 : Value).ownBlock) (.slice (some ⟨go61, 0, none⟩) x11_2.length co51) y185) := ⟨by (with_reducible repeat (first | apply Kd.R_alloc | apply Kd.R_drewN | apply Kd.R_drew)); exact HQ67.out⟩
                                              have n3_ : Aside0 (Below w.heap.size w (w66.setCell ⟨go61, (x87_2 : Int).toNat, none⟩ (.int .i64 (Go.bits .or .i64 (rd x11_2 x87_2) (ji41))))) := ⟨by repeat (first | (with_reducible first | exact HB.out | apply below_alloc | apply pw_below_drewN | apply below_drew1 | refine below_set ?_ GB61.out) | exact HB.out)⟩
                                              (try clear HO_9)
                                              (try clear HO_10)
                                              (try clear HO_11)
                                              (try clear HB)
                                              generalize (w66.setCell ⟨go61, (x87_2 : Int).toNat, none⟩ (.int .i64 (Go.bits .or .i64 (rd x11_2 x87_2) (ji41)))) = w68 at n0_ n1_ n2_ n3_ ⊢
                                              have HO_9 := n0_
                                              have HO_10 := n1_
                                              have HO_11 := n2_
                                              have HB := n3_
                                              clear n0_ n1_ n2_ n3_
                                              have n0_ := Aside0.mk (Kd.N_drew HO_9.out)
                                              have n1_ := Aside0.mk (Kd.R_drew HO_10.out)
                                              have n2_ := Aside0.mk (Kd.R_drew HO_11.out)
                                              have n3_ := Aside0.mk (below_drew1 HB.out)
                                              clear HO_9
                                              clear HO_10
                                              clear HO_11
                                              clear HB
                                              have HO_9 := n0_
                                              have HO_10 := n1_
                                              have HO_11 := n2_
                                              have HB := n3_
                                              clear n0_ n1_ n2_ n3_
                                              have p186 : 0 ≤ (ji20 : Int) := of_decide_eq_true (by first | (with_reducible assumption) | assumption)
                                              have q186 : ji20 < (y185.length : Int) := (by have h_ : (ji20 : Int) < ((x11_2.length : Int) : Int) := of_decide_eq_true (by first | (with_reducible assumption) | assumption); first | (have e_ := (Kd.R_reads' HO_11.out).1; omega) | simpa only [Ny185.out, List.length_set] using h_)
                                              have ql186 : ((ji20 : Int) < ((x11_2.length : Int) : Int)) = True := eq_true (of_decide_eq_true (by first | (with_reducible assumption) | assumption))
                                              obtain ⟨ad186, e186, hx186_0⟩ := Kd.at_int (Kd.R_reads' HO_11.out).2.2 ji20 p186 q186
                                              obtain rfl : (⟨go61, 0, none⟩ : Addr) = ad186 := (by injection e186)
                                              (first | simp only [add_plain] at hx186_0 | simp only [add_at] at hx186_0 | simp only [Addr.add, Nat.zero_add] at hx186_0 | skip)
                                              replace p186 := eq_true p186
                                              replace q186 := eq_true q186
                                              have p65 : 0 ≤ (ji20 : Int) := of_decide_eq_true (by first | (with_reducible assumption) | assumption)
                                              have q65 : (ji20 : Int) < ((x11_2.length : Int) : Int) := of_decide_eq_true (by first | (with_reducible assumption) | assumption)
                                              obtain ⟨hx65_0, hf65_0⟩ := Kd.R_celln 0 HO_11.out (ji20 : Int) p65 q65
                                              replace p65 := eq_true p65
                                              replace q65 := eq_true q65
                                              have HP70 := Kd.R_putn HO_11.out (ji20 : Int) (Go.bits .or .i64 (rd y185 ji20) (ji64))
                                              rw [← Ny187.out] at HP70
                                              have HQ70 := Aside0.mk HP70
                                              clear HP70
                                              refine start_ (n := 9) (S := fun w' => w'.cell? ⟨go61, (ji20).toNat, none⟩ = some (.int .i64 (rd y185 ji20))) (ds := [8]) #[false, false, false, false, false, false, false, false, false] (by kernel_rfl) rfl rfl (hx186_0) (fun hHeld => ?_); refine with_tabW lampblacklaw02_WidthParts.tab15 lampblacklaw02_WidthParts.bits15 (fun HT_ HW_ => ?_)
                                              generalize w68.drew = w69 at HO_9 HO_10 HO_11 HB HQ67 HQ70 hf65_0 hx186_0 hx65_0 hHeld ⊢
                                              refine pure_ (i := 0) (N := some 111) (v := ?_) (a' := ?_) #[true, false, false, false, false, false, false, false, false] rfl rfl (any_of HT_.out (by kernel_rfl)) (fun _ _ _ h => h) (Or.inl ⟨by rfl, ?_⟩) ?_ ?_
                                              rotate_left
                                              · intro w'
                                                go_simp
                                                with_reducible rfl
                                              rotate_left
                                              · simp only [Act.put, List.setIfInBounds_toArray, List.set_cons_zero, List.set_cons_succ, i64_w, i32_w]
                                                rfl
                                              refine pure_ (i := 1) (N := some 112) (v := ?_) (a' := ?_) #[true, true, false, false, false, false, false, false, false] rfl rfl (any_of HT_.out (by kernel_rfl)) (fun _ _ _ h => h) (Or.inl ⟨by rfl, ?_⟩) ?_ ?_
                                              rotate_left
                                              · intro w'
                                                go_simp
                                                with_reducible rfl
                                              rotate_left
                                              · simp only [Act.put, List.setIfInBounds_toArray, List.set_cons_zero, List.set_cons_succ, i64_w, i32_w]
                                                rfl
                                              refine pure_ (i := 2) (N := some 113) (v := ?_) (a' := ?_) #[true, true, true, false, false, false, false, false, false] rfl rfl (any_of HT_.out (by kernel_rfl)) (fun _ _ _ h => h) (Or.inl ⟨by rfl, ?_⟩) ?_ ?_
                                              rotate_left
                                              · intro w'
                                                go_simp
                                                with_reducible rfl
                                              rotate_left
                                              · simp only [Act.put, List.setIfInBounds_toArray, List.set_cons_zero, List.set_cons_succ, i64_w, i32_w]
                                                rfl
                                              refine pure_ (i := 4) (N := some 115) (v := ?_) (a' := ?_) #[true, true, true, false, true, false, false, false, false] rfl rfl (any_of HT_.out (by kernel_rfl)) (fun _ _ _ h => h) (Or.inl ⟨by rfl, ?_⟩) ?_ ?_
                                              rotate_left
                                              · intro w'
                                                go_simp
                                                with_reducible rfl
                                              rotate_left
                                              · simp only [Act.put, List.setIfInBounds_toArray, List.set_cons_zero, List.set_cons_succ, i64_w, i32_w]
                                                rfl
                                              refine pure_ (i := 5) (N := some 116) (v := ?_) (a' := ?_) #[true, true, true, false, true, true, false, false, false] rfl rfl (any_of HT_.out (by kernel_rfl)) (fun _ _ _ h => h) (Or.inl ⟨by rfl, ?_⟩) ?_ ?_
                                              rotate_left
                                              · intro w'
                                                go_simp
                                                with_reducible rfl
                                              rotate_left
                                              · simp only [Act.put, List.setIfInBounds_toArray, List.set_cons_zero, List.set_cons_succ, i64_w, i32_w]
                                                rfl
                                              refine take_ (i := 3) (N := some 114) (v := ?_) (a' := ?_) #[true, true, true, true, true, true, false, false, false] rfl rfl (take_ofW HT_.out HW_.out (by kernel_rfl)) (fun _ _ _ h => h) (Or.inl ⟨by rfl, ?_⟩) hHeld ?_ ?_
                                              rotate_left
                                              · intro w' s0
                                                go_simp
                                                with_reducible rfl
                                              rotate_left
                                              · simp only [Act.put, List.setIfInBounds_toArray, List.set_cons_zero, List.set_cons_succ, i64_w, i32_w]
                                                rfl
                                              refine pure_ (i := 6) (N := some 117) (v := ?_) (a' := ?_) #[true, true, true, true, true, true, true, false, false] rfl rfl (any_of HT_.out (by kernel_rfl)) (fun _ _ _ h => h) (Or.inl ⟨by rfl, ?_⟩) ?_ ?_
                                              rotate_left
                                              · intro w'
                                                go_simp
                                                with_reducible rfl
                                              rotate_left
                                              · simp only [Act.put, List.setIfInBounds_toArray, List.set_cons_zero, List.set_cons_succ, i64_w, i32_w]
                                                rfl
                                              refine pure_ (i := 7) (N := some 118) (v := ?_) (a' := ?_) #[true, true, true, true, true, true, true, true, false] rfl rfl (any_of HT_.out (by kernel_rfl)) (fun _ _ _ h => h) (Or.inl ⟨by rfl, ?_⟩) ?_ ?_
                                              rotate_left
                                              · intro w'
                                                go_simp
                                                with_reducible rfl
                                              rotate_left
                                              · simp only [Act.put, List.setIfInBounds_toArray, List.set_cons_zero, List.set_cons_succ, i64_w, i32_w]
                                                rfl
                                              refine last_ (i := 8) (N := none) #[true, true, true, true, true, true, true, true, true] rfl rfl (one_of HT_.out (by kernel_rfl)) (by decide) (fun K hK => ?_)
                                              refine skip_ (w1 := ?_) (by rfl) rfl ?_ ?_
                                              rotate_left
                                              · go_simp
                                                rfl
                                              refine hK.out _ _ ?_
                                              clear hK K
                                              refine done_ (done_of HT_.out (by kernel_rfl)) ?_
                                              try go_wp2
                                              (try simp only [← hl10_2, ← hl11_2])
                                              go_roundg k2
                                              case measure => have := HJ5.out; have := HK2.out; omega
                                              case rel => exact ⟨(y187), (wrap64 (x87_2 + 1)), (by first | rfl | (simp; done) | (simp [*]; done)), H', ⟨by have := HJ5.out; have := HK2.out; omega⟩, ⟨by (try simp only [hl10_2]); (try simp only [hl11_2]); (with_reducible repeat (first | apply Kd.N_alloc | apply Kd.N_drewN | apply Kd.N_drew)); exact Kd.N_mono (Kd.N_far (p := ⟨go61, (ji20 : Int).toNat, none⟩) (Kd.N_mono HO_9.out (fun k_ hk => (⟨hk, fun e_ => hk.2 (by rw [e_]; rfl)⟩ : _ ∧ k_ ≠ go61))) (fun _ hk => hk.2) (.int .i64 (Go.bits .or .i64 (rd y185 ji20) (ji64)))) (fun _ hk => ⟨hk.1.1, hk.1.2⟩)⟩, ⟨by (try simp only [hl10_2]); (try simp only [hl11_2]); (with_reducible repeat (first | apply Kd.R_alloc | apply Kd.R_drewN | apply Kd.R_drew)); exact Kd.R_mono (Kd.R_far (p := ⟨go61, (ji20 : Int).toNat, none⟩) (Kd.R_mono HO_10.out (fun k_ hk => (⟨hk, fun e_ => hk (by rw [e_]; rfl)⟩ : _ ∧ k_ ≠ go61))) (fun _ hk => hk.2) (.int .i64 (Go.bits .or .i64 (rd y185 ji20) (ji64)))) (fun _ hk => hk.1)⟩, ⟨by (try simp only [hl10_2]); (try simp only [hl11_2]); (with_reducible repeat (first | apply Kd.R_alloc | apply Kd.R_drewN | apply Kd.R_drew)); exact HQ70.out⟩, ⟨by repeat (first | (with_reducible first | exact HB.out | apply below_alloc | apply pw_below_drewN | apply below_drew1 | refine below_set ?_ GB61.out) | exact HB.out)⟩⟩
                                            · rw [if_neg c62] at H
                                              exact absurd H (by simp)
                                          · rw [if_neg c60] at H
                                            exact absurd H (by simp)
                                        · rw [if_neg c59] at H
                                          exact absurd H (by simp)
                                      · rw [if_neg c58] at H
                                        have c58b0 : ((Go.bits .and .i64 (ji57) 1) == 1) = false := beq_eq_false_iff_ne.mpr c58
                                        have c58b1 : ((Go.bits .and .i64 (ji57) 1) != 1) = true := bne_iff_ne.mpr c58
                                        have H' := Aside0.mk H
                                        clear H
                                        have p183 : 0 ≤ (ji23 : Int) := of_decide_eq_true (by first | (with_reducible assumption) | assumption)
                                        have q183 : ji23 < (l0.length : Int) := of_decide_eq_true (by first | (with_reducible assumption) | assumption)
                                        obtain ⟨ad183, e183, hx183_0⟩ := Kd.at_int HR0.out ji23 p183 q183
                                        obtain rfl : ad172 = ad183 := (by injection e183)
                                        replace hx183_0 := (HB.out.cell (World.block_lt_of_cell? w _ hx183_0)).trans hx183_0
                                        replace p183 := eq_true p183
                                        replace q183 := eq_true q183
                                        go_wp2
                                        (try simp only [← hl10_2, ← hl11_2])
                                        go_roundg k2
                                        case measure => have := HJ5.out; have := HK2.out; omega
                                        case rel => exact ⟨(x11_2), (wrap64 (x87_2 + 1)), (by first | rfl | (simp; done) | (simp [*]; done)), H', ⟨by have := HJ5.out; have := HK2.out; omega⟩, ⟨by (try simp only [hl10_2]); (try simp only [hl11_2]); (with_reducible repeat (first | apply Kd.N_alloc | apply Kd.N_drewN | apply Kd.N_drew)); exact HO_9.out⟩, ⟨by (try simp only [hl10_2]); (try simp only [hl11_2]); (with_reducible repeat (first | apply Kd.R_alloc | apply Kd.R_drewN | apply Kd.R_drew)); exact HO_10.out⟩, ⟨by (try simp only [hl10_2]); (try simp only [hl11_2]); (with_reducible repeat (first | apply Kd.R_alloc | apply Kd.R_drewN | apply Kd.R_drew)); exact HO_11.out⟩, ⟨by repeat (first | (with_reducible first | exact HB.out | apply below_alloc | apply pw_below_drewN | apply below_drew1) | exact HB.out)⟩⟩
                                    · rw [if_neg c56] at H
                                      exact absurd H (by simp)
                                  · rw [if_neg c55] at H
                                    exact absurd H (by simp)
                                · rw [if_neg c54] at H
                                  exact absurd H (by simp)
                            · rw [if_neg c52] at H
                              have c52b0 : decide (x87_2 < (t176.length : Int)) = false := decide_eq_false c52
                              (try (have c52b0_hl10_2 := c52b0; rw [hl10_2] at c52b0_hl10_2))
                              (try (have c52b0_hl11_2 := c52b0; rw [hl11_2] at c52b0_hl11_2))
                              clear c52
                              by_cases c71 : 0 ≤ ji20
                              · rw [if_pos c71] at H
                                have c71b0 : decide (0 ≤ ji20) = true := decide_eq_true c71
                                clear c71
                                by_cases c72 : ji20 < (x11_2.length : Int)
                                · rw [if_pos c72] at H
                                  have c72b0 : decide (ji20 < (x11_2.length : Int)) = true := decide_eq_true c72
                                  (try (have c72b0_hl10_2 := c72b0; rw [hl10_2] at c72b0_hl10_2))
                                  (try (have c72b0_hl11_2 := c72b0; rw [hl11_2] at c72b0_hl11_2))
                                  clear c72
                                  have c73b0 := eq_true (of_decide_eq_true (by first | (with_reducible assumption) | assumption) : 0 ≤ ji20)
                                  replace H : ((lampblacklaw02_without.f k2 (x11_2.set (ji20 : Int).toNat (Go.bits .andNot .i64 (rd x11_2 ji20) (ji41))) ji23).bind fun t190 => ((some (([y182, t190] : List (List Int)) : List (List Int))).bind fun y193 => (if y169.length + y193.length < 5864062014805 then (lampblacklaw02_WidthParts.j2 k2 t162 (y169 ++ y193)) else (none)))) = some r := by first | (rw [hji41] at H; exact H) | (simp only [hji41] at H ⊢; exact H)
                                  obtain ⟨y189, hy189⟩ : ∃ y_ : List Int, y_ = (x11_2.set (ji20 : Int).toNat (Go.bits .andNot .i64 (rd x11_2 ji20) (ji41))) := ⟨_, rfl⟩
                                  replace H : ((lampblacklaw02_without.f k2 y189 ji23).bind fun t190 => ((some (([y182, t190] : List (List Int)) : List (List Int))).bind fun y193 => (if y169.length + y193.length < 5864062014805 then (lampblacklaw02_WidthParts.j2 k2 t162 (y169 ++ y193)) else (none)))) = some r := by first | (rw [hy189]; with_reducible exact H) | (have H2_ := (Option.bind_some _ _).symm.trans H; rw [hy189]; with_reducible exact H2_) | (have H2_ := (Option.bind_some _ _).symm.trans H; with_reducible exact H2_) | with_reducible exact H | (rw [hy189]; exact H) | exact H
                                  have Ny189 := Aside0.mk hy189
                                  clear hy189
                                  replace H := Option.bind_eq_some_iff.mp H
                                  obtain ⟨t190, A750, H⟩ := H
                                  replace H : ((some (([y182, t190] : List (List Int)) : List (List Int))).bind fun y193 => (if y169.length + y193.length < 5864062014805 then (lampblacklaw02_WidthParts.j2 k2 t162 (y169 ++ y193)) else (none))) = some r := H
                                  have A75 := Aside0.mk A750
                                  clear A750
                                  obtain ⟨y193, hy193⟩ : ∃ y_ : List (List Int), y_ = (([y182, t190] : List (List Int))) := ⟨_, rfl⟩
                                  replace H : (if y169.length + y193.length < 5864062014805 then (lampblacklaw02_WidthParts.j2 k2 t162 (y169 ++ y193)) else (none)) = some r := by first | (rw [hy193]; with_reducible exact H) | (have H2_ := (Option.bind_some _ _).symm.trans H; rw [hy193]; with_reducible exact H2_) | (have H2_ := (Option.bind_some _ _).symm.trans H; with_reducible exact H2_) | with_reducible exact H | (rw [hy193]; exact H) | exact H
                                  have Ny193 := Aside0.mk hy193
                                  clear hy193
                                  by_cases c76 : y169.length + y193.length < 5864062014805
                                  · rw [if_pos c76] at H
                                    have LMc76 := Aside0.mk c76
                                    clear c76
                                    obtain ⟨y196, hy196⟩ : ∃ y_ : List (List Int), y_ = (y169 ++ y193) := ⟨_, rfl⟩
                                    replace H : (lampblacklaw02_WidthParts.j2 k2 t162 y196) = some r := by first | (rw [hy196]; with_reducible exact H) | (have H2_ := (Option.bind_some _ _).symm.trans H; rw [hy196]; with_reducible exact H2_) | (have H2_ := (Option.bind_some _ _).symm.trans H; with_reducible exact H2_) | with_reducible exact H | (rw [hy196]; exact H) | exact H
                                    have Ny196 := Aside0.mk hy196
                                    clear hy196
                                    have H' := Aside0.mk H
                                    clear H
                                    try go_wp2
                                    have n0_ := Aside0.mk (Kd.N_drew HO_9.out)
                                    have n1_ := Aside0.mk (Kd.R_drew HO_10.out)
                                    have n2_ := Aside0.mk (Kd.R_drew HO_11.out)
                                    have n3_ := Aside0.mk (below_drew1 HB.out)
                                    clear HO_9
                                    clear HO_10
                                    clear HO_11
                                    clear HB
                                    have HO_9 := n0_
                                    have HO_10 := n1_
                                    have HO_11 := n2_
                                    have HB := n3_
                                    clear n0_ n1_ n2_ n3_
                                    have p188 : 0 ≤ (ji20 : Int) := of_decide_eq_true (by first | (with_reducible assumption) | assumption)
                                    have q188 : ji20 < (x11_2.length : Int) := of_decide_eq_true (by first | (with_reducible assumption) | assumption)
                                    obtain ⟨ad188, e188, hx188_0⟩ := Kd.at_int (Kd.R_reads' HO_11.out).2.2 ji20 p188 q188
                                    cases e188
                                    replace p188 := eq_true p188
                                    replace q188 := eq_true q188
                                    have p74 : 0 ≤ (ji20 : Int) := of_decide_eq_true (by first | (with_reducible assumption) | assumption)
                                    have q74 : (ji20 : Int) < ((x11_2.length : Int) : Int) := of_decide_eq_true (by first | (with_reducible assumption) | assumption)
                                    obtain ⟨go74, co74, eo74, gb74, gl74, cl74, HG74⟩ := Kd.R_form HO_11.out (by omega)
                                    (first | cases eo74 | (injection eo74 with ea_ en_ ec_; (first | subst ea_ | (injection ea_ with ea_; subst ea_)); subst ec_; clear en_))
                                    have GB74 := Aside0.mk gb74
                                    have GG74 := Aside0.mk HG74
                                    clear gb74 gl74 HG74
                                    (first | simp only [add_plain] at hx188_0 | skip)
                                    obtain ⟨hx74_0, hf74_0⟩ := Kd.R_celln 0 HO_11.out (ji20 : Int) p74 q74
                                    replace p74 := eq_true p74
                                    replace q74 := eq_true q74
                                    have HP78 := Kd.R_putn HO_11.out (ji20 : Int) (Go.bits .andNot .i64 (rd x11_2 ji20) (ji41))
                                    rw [← Ny189.out] at HP78
                                    have HQ78 := Aside0.mk HP78
                                    clear HP78
                                    refine start_ (n := 9) (S := fun w' => w'.cell? ⟨go74, (ji20).toNat, none⟩ = some (.int .i64 (rd x11_2 ji20))) (ds := [8]) #[false, false, false, false, false, false, false, false, false] (by kernel_rfl) rfl rfl (hx188_0) (fun hHeld => ?_); refine with_tabW lampblacklaw02_WidthParts.tab17 lampblacklaw02_WidthParts.bits17 (fun HT_ HW_ => ?_)
                                    generalize wr.drew = w77 at HO_9 HO_10 HO_11 HB GG74 HQ78 hf74_0 hx188_0 hx74_0 hHeld ⊢
                                    refine pure_ (i := 0) (N := some 120) (v := ?_) (a' := ?_) #[true, false, false, false, false, false, false, false, false] rfl rfl (any_of HT_.out (by kernel_rfl)) (fun _ _ _ h => h) (Or.inl ⟨by rfl, ?_⟩) ?_ ?_
                                    rotate_left
                                    · intro w'
                                      go_simp
                                      with_reducible rfl
                                    rotate_left
                                    · simp only [Act.put, List.setIfInBounds_toArray, List.set_cons_zero, List.set_cons_succ, i64_w, i32_w]
                                      rfl
                                    refine pure_ (i := 1) (N := some 121) (v := ?_) (a' := ?_) #[true, true, false, false, false, false, false, false, false] rfl rfl (any_of HT_.out (by kernel_rfl)) (fun _ _ _ h => h) (Or.inl ⟨by rfl, ?_⟩) ?_ ?_
                                    rotate_left
                                    · intro w'
                                      go_simp
                                      with_reducible rfl
                                    rotate_left
                                    · simp only [Act.put, List.setIfInBounds_toArray, List.set_cons_zero, List.set_cons_succ, i64_w, i32_w]
                                      rfl
                                    refine pure_ (i := 2) (N := some 122) (v := ?_) (a' := ?_) #[true, true, true, false, false, false, false, false, false] rfl rfl (any_of HT_.out (by kernel_rfl)) (fun _ _ _ h => h) (Or.inl ⟨by rfl, ?_⟩) ?_ ?_
                                    rotate_left
                                    · intro w'
                                      go_simp
                                      with_reducible rfl
                                    rotate_left
                                    · simp only [Act.put, List.setIfInBounds_toArray, List.set_cons_zero, List.set_cons_succ, i64_w, i32_w]
                                      rfl
                                    refine pure_ (i := 4) (N := some 124) (v := ?_) (a' := ?_) #[true, true, true, false, true, false, false, false, false] rfl rfl (any_of HT_.out (by kernel_rfl)) (fun _ _ _ h => h) (Or.inl ⟨by rfl, ?_⟩) ?_ ?_
                                    rotate_left
                                    · intro w'
                                      go_simp
                                      with_reducible rfl
                                    rotate_left
                                    · simp only [Act.put, List.setIfInBounds_toArray, List.set_cons_zero, List.set_cons_succ, i64_w, i32_w]
                                      rfl
                                    refine pure_ (i := 5) (N := some 125) (v := ?_) (a' := ?_) #[true, true, true, false, true, true, false, false, false] rfl rfl (any_of HT_.out (by kernel_rfl)) (fun _ _ _ h => h) (Or.inl ⟨by rfl, ?_⟩) ?_ ?_
                                    rotate_left
                                    · intro w'
                                      go_simp
                                      with_reducible rfl
                                    rotate_left
                                    · simp only [Act.put, List.setIfInBounds_toArray, List.set_cons_zero, List.set_cons_succ, i64_w, i32_w]
                                      rfl
                                    refine take_ (i := 3) (N := some 123) (v := ?_) (a' := ?_) #[true, true, true, true, true, true, false, false, false] rfl rfl (take_ofW HT_.out HW_.out (by kernel_rfl)) (fun _ _ _ h => h) (Or.inl ⟨by rfl, ?_⟩) hHeld ?_ ?_
                                    rotate_left
                                    · intro w' s0
                                      go_simp
                                      with_reducible rfl
                                    rotate_left
                                    · simp only [Act.put, List.setIfInBounds_toArray, List.set_cons_zero, List.set_cons_succ, i64_w, i32_w]
                                      rfl
                                    refine pure_ (i := 6) (N := some 126) (v := ?_) (a' := ?_) #[true, true, true, true, true, true, true, false, false] rfl rfl (any_of HT_.out (by kernel_rfl)) (fun _ _ _ h => h) (Or.inl ⟨by rfl, ?_⟩) ?_ ?_
                                    rotate_left
                                    · intro w'
                                      go_simp
                                      with_reducible rfl
                                    rotate_left
                                    · simp only [Act.put, List.setIfInBounds_toArray, List.set_cons_zero, List.set_cons_succ, i64_w, i32_w]
                                      rfl
                                    refine pure_ (i := 7) (N := some 127) (v := ?_) (a' := ?_) #[true, true, true, true, true, true, true, true, false] rfl rfl (any_of HT_.out (by kernel_rfl)) (fun _ _ _ h => h) (Or.inl ⟨by rfl, ?_⟩) ?_ ?_
                                    rotate_left
                                    · intro w'
                                      go_simp
                                      with_reducible rfl
                                    rotate_left
                                    · simp only [Act.put, List.setIfInBounds_toArray, List.set_cons_zero, List.set_cons_succ, i64_w, i32_w]
                                      rfl
                                    refine last_ (i := 8) (N := none) #[true, true, true, true, true, true, true, true, true] rfl rfl (one_of HT_.out (by kernel_rfl)) (by decide) (fun K hK => ?_)
                                    refine skip_ (w1 := ?_) (by rfl) rfl ?_ ?_
                                    rotate_left
                                    · go_simp
                                      rfl
                                    refine hK.out _ _ ?_
                                    clear hK K
                                    refine done_ (done_of HT_.out (by kernel_rfl)) ?_
                                    try go_wp2_with (first | ((with_reducible refine gate_callee (f := 21) rfl ?_); refine goesL_ (some 132) rfl rfl Tryd.func21 (by kernel_rfl) rfl #[.slice (some ⟨go74, 0, none⟩) y189.length co51, .int .i64 ji23] rfl (by (try simp only [List.map_toArray, List.map_cons, List.map_nil]); first | done | (rw [show y189.length = x11_2.length from (Kd.R_reads' HQ78.out).1.symm] <;> rfl) | (simp only [hji23]; rfl) | rfl | (simp only [List.length_drop, List.length_take]; rfl)) ?_; (with_reducible refine (lampblacklaw02_without.calls k2 _ _ y189 ji23 t190 _ ?side1 ?side2 A75.out).mono ?_); (case side1 => refine (Kd.R_reads' (e := 3) (base := w.heap.size) (ok := fun k_ => some k_ ≠ (.slice (some ⟨go38, 0, none⟩) y182.length co46 : Value).ownBlock) (n := x11_2.length) (c := co51) ?_).2.2; exact (by (with_reducible repeat (first | apply Kd.R_alloc | apply Kd.R_drewN | apply Kd.R_drew)); exact HQ78.out)); (case side2 => rw [show y189.length = x11_2.length from (Kd.R_reads' HQ78.out).1.symm]; exact (Kd.R_reads' HO_11.out).2.1); rintro e w79 ⟨v191, rfl, ho0, hb⟩; refine ⟨_, rfl, ?_⟩; have n0_ := Aside0.mk (Kd.N_elder' (by (with_reducible repeat (first | apply Kd.N_alloc | apply Kd.N_drewN | apply Kd.N_drew)); exact (Kd.N_mono (Kd.N_far (p := ⟨go74, (ji20 : Int).toNat, none⟩) (Kd.N_mono HO_9.out (fun k_ hk => (⟨hk, fun e_ => hk.2 (by rw [e_]; rfl)⟩ : _ ∧ k_ ≠ go74))) (fun _ hk => hk.2) (.int .i64 (Go.bits .andNot .i64 (rd x11_2 ji20) (ji41)))) (fun _ h_ => h_.1))) (Kd.R_base ho0) hb); have n1_ := Aside0.mk (Kd.R_elder' (by (with_reducible repeat (first | apply Kd.R_alloc | apply Kd.R_drewN | apply Kd.R_drew)); exact (Kd.R_mono (Kd.R_far (p := ⟨go74, (ji20 : Int).toNat, none⟩) (Kd.R_mono HO_10.out (fun k_ hk => (⟨hk, fun e_ => hk (by rw [e_]; rfl)⟩ : _ ∧ k_ ≠ go74))) (fun _ hk => hk.2) (.int .i64 (Go.bits .andNot .i64 (rd x11_2 ji20) (ji41)))) (fun _ h_ => h_.1))) (Kd.R_base ho0) hb); have n2_ := Aside0.mk (Kd.R_elder' (by (with_reducible repeat (first | apply Kd.R_alloc | apply Kd.R_drewN | apply Kd.R_drew)); exact HQ78.out) (Kd.R_base ho0) hb); have n3_ := Aside0.mk (Kd.R_lower (Kd.R_new' (Kd.R_new' ho0 (Kd.R_lt (by (with_reducible repeat (first | apply Kd.R_alloc | apply Kd.R_drewN | apply Kd.R_drew)); exact (Kd.R_mono (Kd.R_far (p := ⟨go74, (ji20 : Int).toNat, none⟩) (Kd.R_mono HO_10.out (fun k_ hk => (⟨hk, fun e_ => hk (by rw [e_]; rfl)⟩ : _ ∧ k_ ≠ go74))) (fun _ hk => hk.2) (.int .i64 (Go.bits .andNot .i64 (rd x11_2 ji20) (ji41)))) (fun _ h_ => h_.1))))) (Kd.R_lt (by (with_reducible repeat (first | apply Kd.R_alloc | apply Kd.R_drewN | apply Kd.R_drew)); exact HQ78.out))) (below_size (by repeat (first | (with_reducible first | exact HB.out | apply below_alloc | apply pw_below_drewN | apply below_drew1 | refine below_set ?_ GB74.out) | exact HB.out)))); have n4_ := Aside0.mk (below_step (by repeat (first | (with_reducible first | exact HB.out | apply below_alloc | apply pw_below_drewN | apply below_drew1 | refine below_set ?_ GB74.out) | exact HB.out)) hb); clear HO_9; clear HO_10; clear HO_11; clear HB; have HO_9 := n0_; have HO_10 := n1_; have HO_11 := n2_; have HO192 := n3_; have HB := n4_; clear n0_ n1_ n2_ n3_ n4_; (try clear hb); (try clear hb2); (try clear hk); (try clear hi); (try clear ho0); obtain ⟨Ao80, co80, eo80⟩ := Kd.R_slice HO192.out; subst eo80) | ((with_reducible refine gate_dst (N := 133) rfl ?_); (try (refine gate_guard (by rfl) ?_; dsimp only)); refine Kd.N_lit (Kd.slice 3 (Kd.int .i64)) _ 23 ?hg (N' := 133) ?hd (xs := ([y182, t190] : List (List Int))) (inner := [.slice (some ⟨go38, 0, none⟩) y182.length co46, .slice Ao80 t190.length co80]) (ok := (fun k_ => some k_ ≠ (v170 : Value).ownBlock ∧ some k_ ≠ (.slice (some ⟨go74, 0, none⟩) x11_2.length co51 : Value).ownBlock)) (okp := (fun k_ => some k_ ≠ (v170 : Value).ownBlock ∧ some k_ ≠ (.slice (some ⟨go74, 0, none⟩) x11_2.length co51 : Value).ownBlock)) ?hr ?hp (fun _ hk => hk) ((show ∀ k_, w79.heap.size ≤ k_ → (fun k_ => some k_ ≠ (v170 : Value).ownBlock ∧ some k_ ≠ (.slice (some ⟨go74, 0, none⟩) x11_2.length co51 : Value).ownBlock) k_ from fun k_ hk => ⟨Kd.fresh' (Kd.N_lt (by (with_reducible repeat (first | apply Kd.N_alloc | apply Kd.N_drewN | apply Kd.N_drew)); exact HO_9.out)) k_ hk, Kd.fresh' (Kd.R_lt (by (with_reducible repeat (first | apply Kd.R_alloc | apply Kd.R_drewN | apply Kd.R_drew)); exact HO_11.out)) k_ hk⟩) _ (Nat.le_refl _)) (Below.refl _ _) (Nat.le_refl _) (by simp) ?_; (case hd => rfl); (case hg => rfl); (case hr => first | (go_simp; done) | (go_simp; rfl)); (case hp => exact (Reps.one (show Kd.FK (Kd.slice 3 (Kd.int .i64)) _ _ y182 [.slice (some ⟨go38, 0, none⟩) y182.length co46] from (Kd.FK_slice_mk (Kd.R_reads' (Kd.R_mono (ok' := (fun k_ => some k_ ≠ (v170 : Value).ownBlock ∧ some k_ ≠ (.slice (some ⟨go74, 0, none⟩) x11_2.length co51 : Value).ownBlock)) (Kd.R_apart' (HO_10.out) (Kd.N_typed HO_9.out) (by decide)) (fun k_ hk => ⟨hk.2, hk.1.1⟩))).2.1 (Kd.R_F (Kd.R_mono (ok' := (fun k_ => some k_ ≠ (v170 : Value).ownBlock ∧ some k_ ≠ (.slice (some ⟨go74, 0, none⟩) x11_2.length co51 : Value).ownBlock)) (Kd.R_apart' (HO_10.out) (Kd.N_typed HO_9.out) (by decide)) (fun k_ hk => ⟨hk.2, hk.1.1⟩))))) (Reps.one (show Kd.FK (Kd.slice 3 (Kd.int .i64)) _ _ t190 [.slice Ao80 t190.length co80] from (Kd.FK_slice_mk (Kd.R_reads' (Kd.R_mono (ok' := (fun k_ => some k_ ≠ (v170 : Value).ownBlock ∧ some k_ ≠ (.slice (some ⟨go74, 0, none⟩) x11_2.length co51 : Value).ownBlock)) (Kd.R_apart' (HO192.out) (Kd.N_typed HO_9.out) (by decide)) (fun k_ hk => ⟨hk.2, hk.1.2⟩))).2.1 (Kd.R_F (Kd.R_mono (ok' := (fun k_ => some k_ ≠ (v170 : Value).ownBlock ∧ some k_ ≠ (.slice (some ⟨go74, 0, none⟩) x11_2.length co51 : Value).ownBlock)) (Kd.R_apart' (HO192.out) (Kd.N_typed HO_9.out) (by decide)) (fun k_ hk => ⟨hk.2, hk.1.2⟩))))) (Reps.none _ _)))); intro v194 w81 ho82 hb hg_ hnew_; clear hg_ hnew_; (first | rw [← Ny193.out] at ho82 | (simp only [Int.reduceToNat] at ho82; rw [← Ny193.out] at ho82)); have n0_ := Aside0.mk (Kd.N_elder' (by (with_reducible repeat (first | apply Kd.N_alloc | apply Kd.N_drewN | apply Kd.N_drew)); exact HO_9.out) (Kd.N_base ho82) hb); have n1_ := Aside0.mk (Kd.R_below (by (with_reducible repeat (first | apply Kd.R_alloc | apply Kd.R_drewN | apply Kd.R_drew)); exact HO_11.out) hb); have n2_ := Aside0.mk (Kd.N_lower ho82 (below_size (by repeat (first | (with_reducible first | exact HB.out | apply below_alloc | apply pw_below_drewN | apply below_drew1) | exact HB.out)))); have n3_ := Aside0.mk (below_step (by repeat (first | (with_reducible first | exact HB.out | apply below_alloc | apply pw_below_drewN | apply below_drew1) | exact HB.out)) hb); clear HO_9; clear HO_11; clear HB; clear HO192; clear HO_10; have HO_9 := n0_; have HO_11 := n1_; have HO195 := n2_; have HB := n3_; clear n0_ n1_ n2_ n3_; clear hb ho82; obtain ⟨Ao84, co84, eo84⟩ := Kd.N_slice HO195.out; subst eo84) | ((with_reducible refine gate_builtin (b := .append) (xs := #[.tmp 128, .tmp 133]) rfl ?_); (try (refine gate_guard (by rfl) ?_; dsimp only)); at_builtin; refine Kd.N_append_rows (Kd.slice 3 (Kd.int .i64)) (w0 := w) w.heap.size rfl (.tmp 128) (.tmp 133) 31 23 (.slice none 0 0) 24 rfl Tryd.underlying31 info23 rfl (by decide) (by omega) v170 y169 y193 _ _ _ (fun k_ => some k_ ≠ (.slice (some ⟨go74, 0, none⟩) x11_2.length co51 : Value).ownBlock) (fun k_ => ((fun k_ => some k_ ≠ (.slice (some ⟨go74, 0, none⟩) x11_2.length co51 : Value).ownBlock)) k_ ∧ some k_ ≠ (v170 : Value).ownBlock) rfl rfl ?aO ?aR (fun _ hk => hk) ?aF ?aB ?aS ?aL ?_; (case aR => exact (by skip; exact Kd.N_F (Kd.N_mono (ok' := (fun k_ => ((fun k_ => some k_ ≠ (.slice (some ⟨go74, 0, none⟩) x11_2.length co51 : Value).ownBlock)) k_ ∧ some k_ ≠ (v170 : Value).ownBlock)) (HO195.out) (fun k_ hk => ⟨hk.2, hk.1⟩)))); (case aB => exact (by repeat (first | (with_reducible first | exact HB.out | apply below_alloc | apply pw_below_drewN | apply below_drew1) | exact HB.out))); (case aF => exact (fun k_ hk => Kd.fresh' (Kd.R_lt (by (with_reducible repeat (first | apply Kd.R_alloc | apply Kd.R_drewN | apply Kd.R_drew)); exact HO_11.out)) k_ hk)); (case aO => exact (by (with_reducible repeat (first | apply Kd.N_alloc | apply Kd.N_drewN | apply Kd.N_drew)); exact Kd.N_mono HO_9.out (fun _ hk => hk.1.1.2))); (case aS => exact (below_size (by repeat (first | (with_reducible first | exact HB.out | apply below_alloc | apply pw_below_drewN | apply below_drew1) | exact HB.out)))); (case aL => have := LMc76.out; omega); intro v197 w83 ho hb hg hat; rw [← Ny196.out] at ho; have n0_ := Aside0.mk (Kd.R_over' (by (with_reducible repeat (first | apply Kd.R_alloc | apply Kd.R_drewN | apply Kd.R_drew)); exact HO_11.out) (Kd.N_typed (by (with_reducible repeat (first | apply Kd.N_alloc | apply Kd.N_drewN | apply Kd.N_drew)); exact HO_9.out)) (by decide) hg); have n1_ := Aside0.mk (Kd.N_afterv (ok := (fun k_ => some k_ ≠ (.slice (some ⟨go74, 0, none⟩) x11_2.length co51 : Value).ownBlock)) (by (with_reducible repeat (first | apply Kd.N_alloc | apply Kd.N_drewN | apply Kd.N_drew)); exact Kd.N_mono HO195.out (fun _ hk => ⟨hk.2, hk.1⟩)) hg hat); have n2_ := Aside0.mk (hb); have n3_ := Aside0.mk (ho); clear HO_11; clear HO195; clear HB; clear HO_9; have HO_11 := n0_; have HO195 := n1_; have HB := n2_; have HO198 := n3_; clear n0_ n1_ n2_ n3_; clear ho hb hg hat))
                                    (try simp only [← hl10_2, ← hl11_2])
                                    go_meet
                                    case rel => exact ⟨_, (y196), H', ⟨by have := HJ5.out; have := HK2.out; first | omega | exact Nat.le_refl _⟩, ⟨by (try simp only [hl10_2]); (try simp only [hl11_2]); (with_reducible repeat (first | apply Kd.N_alloc | apply Kd.N_drewN | apply Kd.N_drew)); exact Kd.N_mono HO198.out (fun _ hk => trivial)⟩, ⟨by repeat (first | (with_reducible first | exact HB.out | apply below_alloc | apply pw_below_drewN | apply below_drew1) | exact HB.out)⟩⟩
                                  · rw [if_neg c76] at H
                                    exact absurd H (by simp)
                                · rw [if_neg c72] at H
                                  exact absurd H (by simp)
                              · rw [if_neg c71] at H
                                exact absurd H (by simp)
                      · rw [if_neg c39] at H
                        exact absurd H (by simp)
                    · rw [if_neg c35] at H
                      exact absurd H (by simp)
                  · rw [if_neg c32] at H
                    have c32b0 : ((Go.bits .and .i64 (ji25) 1) == 1) = false := beq_eq_false_iff_ne.mpr c32
                    have c32b1 : ((Go.bits .and .i64 (ji25) 1) != 1) = true := bne_iff_ne.mpr c32
                    (first | rw [c32b0] | (simp only [i64_w, i32_w]; rw [c32b0]) | skip)
                    have H' := Aside0.mk H
                    clear H
                    go_wp2
                    go_meet
                    case rel => exact ⟨_, (y169), H', ⟨by have := HJ5.out; first | omega | exact Nat.le_refl _⟩, ⟨by (with_reducible repeat (first | apply Kd.N_alloc | apply Kd.N_drewN | apply Kd.N_drew)); exact HO171.out⟩, ⟨by repeat (first | (with_reducible first | exact HB.out | apply below_alloc | apply pw_below_drewN | apply below_drew1) | exact HB.out)⟩⟩
                case rest =>
                  clear HC26
                  try clear c1
                  try clear p1
                  try clear q1
                  try clear hx1
                  try clear c2
                  try clear p2
                  try clear c3
                  try clear p3
                  try clear q3
                  try clear hx3
                  try clear hf3
                  try clear c4
                  try clear p4
                  try clear q4
                  try clear hx4
                  try clear hf4
                  try clear c5
                  try clear c6
                  try clear p6
                  try clear q6
                  try clear hx6
                  try clear hf6
                  try clear c7
                  try clear p7
                  try clear q7
                  try clear hx7
                  try clear hf7
                  try clear c10
                  try clear c10b0
                  try clear c10b1
                  try clear c11
                  try clear c12
                  try clear c12b0
                  try clear c12b1
                  try clear c15
                  try clear c15b0
                  try clear c15b1
                  try clear p17
                  try clear q17
                  try clear hx17
                  try clear c18
                  try clear c18b0
                  try clear c18b1
                  try clear p18
                  try clear q18
                  try clear hx18
                  try clear c19
                  try clear c21
                  try clear c21b0
                  try clear c22
                  try clear c22b0
                  try clear c24
                  try clear c24b0
                  try clear c24b1
                  try clear c32
                  try clear c32b0
                  try clear c32b1
                  try clear c35
                  try clear c35b0
                  try clear c36
                  try clear c36b0
                  try clear p38
                  try clear q38
                  try clear hx38
                  try clear hf38
                  try clear c39
                  try clear c39b0
                  try clear c40
                  try clear c40b0
                  try clear p42
                  try clear q42
                  try clear hx42
                  try clear hf42
                  try clear c52
                  try clear c52b0
                  try clear c53
                  try clear c53b0
                  try clear c53b1
                  try clear c54
                  try clear c54b0
                  try clear c55
                  try clear c55b0
                  try clear c56
                  try clear c56b0
                  try clear c56b1
                  try clear c58
                  try clear c58b0
                  try clear c58b1
                  try clear c59
                  try clear c59b0
                  try clear c60
                  try clear c60b0
                  try clear c60b1
                  try clear p61
                  try clear q61
                  try clear hx61
                  try clear hf61
                  try clear c62
                  try clear c62b0
                  try clear c63
                  try clear c63b0
                  try clear p64
                  try clear p65
                  try clear q65
                  try clear hx65
                  try clear hf65
                  try clear c71
                  try clear c71b0
                  try clear c72
                  try clear c72b0
                  try clear c73
                  try clear c73b0
                  try clear p74
                  try clear q74
                  try clear hx74
                  try clear hf74
                  try clear c76
                  try clear hx172_0
                  try clear hx179_0
                  try clear hx181_0
                  try clear hx183_0
                  try clear hx184_0
                  try clear hx186_0
                  try clear hx188_0
                  try clear hx38_0
                  try clear hx42_0
                  try clear hx61_0
                  try clear hx65_0
                  try clear hx74_0
                  try clear p17
                  try clear p172
                  try clear p179
                  try clear p18
                  try clear p181
                  try clear p183
                  try clear p184
                  try clear p186
                  try clear p188
                  try clear p2
                  try clear p38
                  try clear p4
                  try clear p42
                  try clear p6
                  try clear p61
                  try clear p65
                  try clear p74
                  try clear q17
                  try clear q172
                  try clear q179
                  try clear q18
                  try clear q181
                  try clear q183
                  try clear q184
                  try clear q186
                  try clear q188
                  try clear q38
                  try clear q4
                  try clear q42
                  try clear q61
                  try clear q65
                  try clear q74
                  obtain ⟨kq, x9_25, HA, HJ25, HO_9, HB⟩ := hcut
                  cases kq with
                  | zero => exact absurd HA.out (by simp [lampblacklaw02_WidthParts.j2])
                  | succ kj25 =>
                    have H := HA.out
                    clear HA
                    simp only [lampblacklaw02_WidthParts.j2] at H
                    have H' := Aside0.mk H
                    clear H
                    obtain ⟨Ao85, co85, eo85⟩ := Kd.N_slice HO_9.out
                    subst eo85
                    go_wp2
                    go_loopg [137] kj25 (fun kq v137 w' => ∃ (x137_3 : Int), v137 = .int .i64 x137_3 ∧ Aside0 (lampblacklaw02_WidthParts.l1 kq t162 x9_25 (x9_25.length : Int) x137_3 = some r) ∧ Aside0 (kq ≤ kj25) ∧ Aside0 (Kd.N (Kd.slice 3 (Kd.int .i64)) 23 w' w.heap.size (fun _ => True) (.slice Ao85 x9_25.length co85) x9_25) ∧ Aside0 (Below w.heap.size w w'))
                    case atStart => exact ⟨(0), (by first | rfl | (simp; done) | (simp [*]; done)), H', ⟨Nat.le_refl _⟩, ⟨by (with_reducible repeat (first | apply Kd.N_alloc | apply Kd.N_drewN | apply Kd.N_drew)); exact HO_9.out⟩, ⟨by repeat (first | (with_reducible first | exact HB.out | apply below_alloc | apply pw_below_drewN | apply below_drew1) | exact HB.out)⟩⟩
                    case round =>
                      clear H'
                      try clear c1
                      try clear p1
                      try clear q1
                      try clear hx1
                      try clear c2
                      try clear p2
                      try clear c3
                      try clear p3
                      try clear q3
                      try clear hx3
                      try clear hf3
                      try clear c4
                      try clear p4
                      try clear q4
                      try clear hx4
                      try clear hf4
                      try clear c5
                      try clear c6
                      try clear p6
                      try clear q6
                      try clear hx6
                      try clear hf6
                      try clear c7
                      try clear p7
                      try clear q7
                      try clear hx7
                      try clear hf7
                      try clear c10
                      try clear c10b0
                      try clear c10b1
                      try clear c11
                      try clear c12
                      try clear c12b0
                      try clear c12b1
                      try clear c15
                      try clear c15b0
                      try clear c15b1
                      try clear p17
                      try clear q17
                      try clear hx17
                      try clear c18
                      try clear c18b0
                      try clear c18b1
                      try clear p18
                      try clear q18
                      try clear hx18
                      try clear c19
                      try clear c21
                      try clear c21b0
                      try clear c22
                      try clear c22b0
                      try clear c24
                      try clear c24b0
                      try clear c24b1
                      try clear c32
                      try clear c32b0
                      try clear c32b1
                      try clear c35
                      try clear c35b0
                      try clear c36
                      try clear c36b0
                      try clear p38
                      try clear q38
                      try clear hx38
                      try clear hf38
                      try clear c39
                      try clear c39b0
                      try clear c40
                      try clear c40b0
                      try clear p42
                      try clear q42
                      try clear hx42
                      try clear hf42
                      try clear c52
                      try clear c52b0
                      try clear c53
                      try clear c53b0
                      try clear c53b1
                      try clear c54
                      try clear c54b0
                      try clear c55
                      try clear c55b0
                      try clear c56
                      try clear c56b0
                      try clear c56b1
                      try clear c58
                      try clear c58b0
                      try clear c58b1
                      try clear c59
                      try clear c59b0
                      try clear c60
                      try clear c60b0
                      try clear c60b1
                      try clear p61
                      try clear q61
                      try clear hx61
                      try clear hf61
                      try clear c62
                      try clear c62b0
                      try clear c63
                      try clear c63b0
                      try clear p64
                      try clear p65
                      try clear q65
                      try clear hx65
                      try clear hf65
                      try clear c71
                      try clear c71b0
                      try clear c72
                      try clear c72b0
                      try clear c73
                      try clear c73b0
                      try clear p74
                      try clear q74
                      try clear hx74
                      try clear hf74
                      try clear c76
                      try clear hx172_0
                      try clear hx179_0
                      try clear hx181_0
                      try clear hx183_0
                      try clear hx184_0
                      try clear hx186_0
                      try clear hx188_0
                      try clear hx38_0
                      try clear hx42_0
                      try clear hx61_0
                      try clear hx65_0
                      try clear hx74_0
                      try clear p1
                      try clear p17
                      try clear p172
                      try clear p179
                      try clear p18
                      try clear p181
                      try clear p183
                      try clear p184
                      try clear p186
                      try clear p188
                      try clear p2
                      try clear p3
                      try clear p38
                      try clear p4
                      try clear p42
                      try clear p6
                      try clear p61
                      try clear p64
                      try clear p65
                      try clear p7
                      try clear p74
                      try clear q1
                      try clear q17
                      try clear q172
                      try clear q179
                      try clear q18
                      try clear q181
                      try clear q183
                      try clear q184
                      try clear q186
                      try clear q188
                      try clear q3
                      try clear q38
                      try clear q4
                      try clear q42
                      try clear q6
                      try clear q61
                      try clear q65
                      try clear q7
                      try clear q74
                      obtain ⟨x137_3, rfl, HA, HK3, HO_135, HB⟩ := hrel
                      cases gk with
                      | zero => exact absurd HA.out (by simp [lampblacklaw02_WidthParts.l1])
                      | succ k3 =>
                        have H := HA.out
                        clear HA
                        simp only [lampblacklaw02_WidthParts.l1] at H
                        by_cases c86 : x137_3 < (x9_25.length : Int)
                        · rw [if_pos c86] at H
                          have c86b0 : decide (x137_3 < (x9_25.length : Int)) = true := decide_eq_true c86
                          (try (have c86b0_hl10_2 := c86b0; rw [hl10_2] at c86b0_hl10_2))
                          (try (have c86b0_hl11_2 := c86b0; rw [hl11_2] at c86b0_hl11_2))
                          clear c86
                          by_cases c87 : 0 ≤ x137_3
                          · rw [if_pos c87] at H
                            have c87b0 : decide (0 ≤ x137_3) = true := decide_eq_true c87
                            clear c87
                            by_cases c88 : x137_3 < (x9_25.length : Int)
                            · rw [if_pos c88] at H
                              have c88b0 : decide (x137_3 < (x9_25.length : Int)) = true := decide_eq_true c88
                              (try (have c88b0_hl10_2 := c88b0; rw [hl10_2] at c88b0_hl10_2))
                              (try (have c88b0_hl11_2 := c88b0; rw [hl11_2] at c88b0_hl11_2))
                              clear c88
                              replace H := Option.bind_eq_some_iff.mp H
                              obtain ⟨⟨t200, t201⟩, A890, H⟩ := H
                              replace H : (if t201 = 0 then (if t200 > t162 then (some false) else (if t200 < (wrap64 (t162 - 1)) then (some false) else (lampblacklaw02_WidthParts.l1 k3 t162 x9_25 (x9_25.length : Int) (wrap64 (x137_3 + 1))))) else (some false)) = some r := H
                              have A89 := Aside0.mk A890
                              clear A890
                              by_cases c90 : t201 = 0
                              · rw [if_pos c90] at H
                                have c90b0 : (t201 == 0) = true := beq_iff_eq.mpr c90
                                have c90b1 : (t201 != 0) = false := bne_eq_false_iff_eq.mpr c90
                                clear c90
                                by_cases c91 : t200 > t162
                                · rw [if_pos c91] at H
                                  have c91b0 : decide (t162 < t200) = true := decide_eq_true c91
                                  clear c91
                                  obtain rfl := Option.some.inj H
                                  have p199 : 0 ≤ (x137_3 : Int) := of_decide_eq_true (by first | (with_reducible assumption) | assumption)
                                  have q199 : x137_3 < (x9_25.length : Int) := of_decide_eq_true (by first | (with_reducible assumption) | assumption)
                                  obtain ⟨ad199, A199_0, c199_0, e199, hx199_0, hl199_0, hi199_0⟩ := at_L1 (Kd.N_reads' HO_135.out).2.2 x137_3 p199 q199
                                  cases e199
                                  obtain ⟨ce199, hce199, hMe199, hcc199⟩ := Kd.N_get HO_135.out [] x137_3 p199 (by first | exact q199 | exact of_decide_eq_true (by first | (with_reducible assumption) | assumption) | (have e_ := (Kd.N_reads' HO_135.out).1; omega))
                                  obtain ⟨ua199_0, uc199_0, rfl, ul199_0, ge199_0⟩ := Kd.FK_slice_open hMe199
                                  have hv199_0 := hcc199 0 _ rfl
                                  rw [Nat.add_zero, show ((Kd.slice 3 (Kd.int .i64))).sz = 1 from rfl, Nat.mul_one] at hv199_0
                                  replace hv199_0 := Option.some.inj (hv199_0.symm.trans hx199_0)
                                  injection hv199_0 with hva_ hvn_ hvc_
                                  rw [hva_] at ge199_0
                                  rw [hvc_] at ul199_0
                                  have HL199_0 := Aside0.mk (show Kd.V (Kd.int .i64) 3 _ w.heap.size _ _ (rd_L1 x9_25 x137_3) from Kd.V_mk ul199_0 ge199_0)
                                  clear hva_ hvn_ hvc_ ge199_0 ul199_0
                                  clear hcc199 hce199
                                  have HR199_0 := Aside0.mk hi199_0
                                  have HC199_0 := Aside0.mk hl199_0
                                  clear hi199_0 hl199_0
                                  replace p199 := eq_true p199
                                  replace q199 := eq_true q199
                                  go_wp2_with (first | ((with_reducible refine gate_callee (f := 18) rfl ?_); refine goesL_ (some 143) rfl rfl Tryd.func18 (by kernel_rfl) rfl #[.slice A199_0 (rd_L1 x9_25 x137_3).length c199_0] rfl (by (try simp only [List.map_toArray, List.map_cons, List.map_nil]); first | done | rfl | (simp only [List.length_drop, List.length_take]; rfl)) ?_; (with_reducible refine (width_Width.calls (hGL := (by repeat (first | (with_reducible exact HGL.out) | (with_reducible exact GL_below HGL.out HB.out) | (with_reducible refine GL_alloc ?_ _) | (with_reducible refine GL_drewN ?_ _) | (with_reducible refine GL_drew ?_)))) k3 _ _ (rd_L1 x9_25 x137_3) t200 t201 _ ?side1 ?side2 A89.out).mono ?_); (case side1 => repeat (first | exact (by repeat (first | (with_reducible exact HR199_0.out) | (with_reducible refine Kd.C_alloc ?_ _) | (with_reducible refine Kd.C_drewN ?_ _) | (with_reducible refine Kd.C_drew ?_) | exact HR199_0.out)) | (with_reducible refine Kd.C_alloc ?_ _) | (with_reducible refine Kd.C_drewN ?_ _) | (with_reducible refine Kd.C_drew ?_))); (case side2 => exact HC199_0.out); rintro e w92 ⟨rfl, hb⟩; refine ⟨_, rfl, ?_⟩; have n0_ := Aside0.mk (Kd.N_below (by (with_reducible repeat (first | apply Kd.N_alloc | apply Kd.N_drewN | apply Kd.N_drew)); exact HO_135.out) hb); have n1_ := Aside0.mk (Kd.V_below (by (with_reducible repeat (first | apply Kd.V_alloc | apply Kd.V_drewN | apply Kd.V_drew)); exact HL199_0.out) hb); have n2_ := Aside0.mk (Kd.C_below (by repeat (first | (with_reducible exact HR199_0.out) | (with_reducible refine Kd.C_alloc ?_ _) | (with_reducible refine Kd.C_drewN ?_ _) | (with_reducible refine Kd.C_drew ?_) | exact HR199_0.out)) hb); have n3_ := Aside0.mk (below_step (by repeat (first | (with_reducible first | exact HB.out | apply below_alloc | apply pw_below_drewN | apply below_drew1) | exact HB.out)) hb); clear HO_135; clear HL199_0; clear HR199_0; clear HB; have HO_135 := n0_; have HL199_0 := n1_; have HR199_0 := n2_; have HB := n3_; clear n0_ n1_ n2_ n3_; (try clear hb); (try clear hb2); (try clear hk); (try clear hi)))
                                  go_ret
                                  exact ⟨by first | rfl | (simp [errW_none, errW_some] <;> rfl) | (simp only [← hji20, ← hji23, ← hji25]; first | rfl | (simp [errW_none, errW_some] <;> rfl)) | (simp [*, errW_none, errW_some] <;> rfl), by repeat (first | (with_reducible first | exact HB.out | apply below_alloc | apply pw_below_drewN | apply below_drew1) | exact HB.out)⟩
                                · rw [if_neg c91] at H
                                  have c91b0 : decide (t162 < t200) = false := decide_eq_false c91
                                  clear c91
                                  by_cases c93 : t200 < (wrap64 (t162 - 1))
                                  · rw [if_pos c93] at H
                                    have c93b0 : decide (t200 < (wrap64 (t162 - 1))) = true := decide_eq_true c93
                                    clear c93
                                    obtain rfl := Option.some.inj H
                                    have p199 : 0 ≤ (x137_3 : Int) := of_decide_eq_true (by first | (with_reducible assumption) | assumption)
                                    have q199 : x137_3 < (x9_25.length : Int) := of_decide_eq_true (by first | (with_reducible assumption) | assumption)
                                    obtain ⟨ad199, A199_0, c199_0, e199, hx199_0, hl199_0, hi199_0⟩ := at_L1 (Kd.N_reads' HO_135.out).2.2 x137_3 p199 q199
                                    cases e199
                                    obtain ⟨ce199, hce199, hMe199, hcc199⟩ := Kd.N_get HO_135.out [] x137_3 p199 (by first | exact q199 | exact of_decide_eq_true (by first | (with_reducible assumption) | assumption) | (have e_ := (Kd.N_reads' HO_135.out).1; omega))
                                    obtain ⟨ua199_0, uc199_0, rfl, ul199_0, ge199_0⟩ := Kd.FK_slice_open hMe199
                                    have hv199_0 := hcc199 0 _ rfl
                                    rw [Nat.add_zero, show ((Kd.slice 3 (Kd.int .i64))).sz = 1 from rfl, Nat.mul_one] at hv199_0
                                    replace hv199_0 := Option.some.inj (hv199_0.symm.trans hx199_0)
                                    injection hv199_0 with hva_ hvn_ hvc_
                                    rw [hva_] at ge199_0
                                    rw [hvc_] at ul199_0
                                    have HL199_0 := Aside0.mk (show Kd.V (Kd.int .i64) 3 _ w.heap.size _ _ (rd_L1 x9_25 x137_3) from Kd.V_mk ul199_0 ge199_0)
                                    clear hva_ hvn_ hvc_ ge199_0 ul199_0
                                    clear hcc199 hce199
                                    have HR199_0 := Aside0.mk hi199_0
                                    have HC199_0 := Aside0.mk hl199_0
                                    clear hi199_0 hl199_0
                                    replace p199 := eq_true p199
                                    replace q199 := eq_true q199
                                    go_wp2_with (first | ((with_reducible refine gate_callee (f := 18) rfl ?_); refine goesL_ (some 143) rfl rfl Tryd.func18 (by kernel_rfl) rfl #[.slice A199_0 (rd_L1 x9_25 x137_3).length c199_0] rfl (by (try simp only [List.map_toArray, List.map_cons, List.map_nil]); first | done | rfl | (simp only [List.length_drop, List.length_take]; rfl)) ?_; (with_reducible refine (width_Width.calls (hGL := (by repeat (first | (with_reducible exact HGL.out) | (with_reducible exact GL_below HGL.out HB.out) | (with_reducible refine GL_alloc ?_ _) | (with_reducible refine GL_drewN ?_ _) | (with_reducible refine GL_drew ?_)))) k3 _ _ (rd_L1 x9_25 x137_3) t200 t201 _ ?side1 ?side2 A89.out).mono ?_); (case side1 => repeat (first | exact (by repeat (first | (with_reducible exact HR199_0.out) | (with_reducible refine Kd.C_alloc ?_ _) | (with_reducible refine Kd.C_drewN ?_ _) | (with_reducible refine Kd.C_drew ?_) | exact HR199_0.out)) | (with_reducible refine Kd.C_alloc ?_ _) | (with_reducible refine Kd.C_drewN ?_ _) | (with_reducible refine Kd.C_drew ?_))); (case side2 => exact HC199_0.out); rintro e w94 ⟨rfl, hb⟩; refine ⟨_, rfl, ?_⟩; have n0_ := Aside0.mk (Kd.N_below (by (with_reducible repeat (first | apply Kd.N_alloc | apply Kd.N_drewN | apply Kd.N_drew)); exact HO_135.out) hb); have n1_ := Aside0.mk (Kd.V_below (by (with_reducible repeat (first | apply Kd.V_alloc | apply Kd.V_drewN | apply Kd.V_drew)); exact HL199_0.out) hb); have n2_ := Aside0.mk (Kd.C_below (by repeat (first | (with_reducible exact HR199_0.out) | (with_reducible refine Kd.C_alloc ?_ _) | (with_reducible refine Kd.C_drewN ?_ _) | (with_reducible refine Kd.C_drew ?_) | exact HR199_0.out)) hb); have n3_ := Aside0.mk (below_step (by repeat (first | (with_reducible first | exact HB.out | apply below_alloc | apply pw_below_drewN | apply below_drew1) | exact HB.out)) hb); clear HO_135; clear HL199_0; clear HR199_0; clear HB; have HO_135 := n0_; have HL199_0 := n1_; have HR199_0 := n2_; have HB := n3_; clear n0_ n1_ n2_ n3_; (try clear hb); (try clear hb2); (try clear hk); (try clear hi)))
                                    go_ret
                                    exact ⟨by first | rfl | (simp [errW_none, errW_some] <;> rfl) | (simp only [← hji20, ← hji23, ← hji25]; first | rfl | (simp [errW_none, errW_some] <;> rfl)) | (simp [*, errW_none, errW_some] <;> rfl), by repeat (first | (with_reducible first | exact HB.out | apply below_alloc | apply pw_below_drewN | apply below_drew1) | exact HB.out)⟩
                                  · rw [if_neg c93] at H
                                    have c93b0 : decide (t200 < (wrap64 (t162 - 1))) = false := decide_eq_false c93
                                    clear c93
                                    have H' := Aside0.mk H
                                    clear H
                                    have p199 : 0 ≤ (x137_3 : Int) := of_decide_eq_true (by first | (with_reducible assumption) | assumption)
                                    have q199 : x137_3 < (x9_25.length : Int) := of_decide_eq_true (by first | (with_reducible assumption) | assumption)
                                    obtain ⟨ad199, A199_0, c199_0, e199, hx199_0, hl199_0, hi199_0⟩ := at_L1 (Kd.N_reads' HO_135.out).2.2 x137_3 p199 q199
                                    cases e199
                                    obtain ⟨ce199, hce199, hMe199, hcc199⟩ := Kd.N_get HO_135.out [] x137_3 p199 (by first | exact q199 | exact of_decide_eq_true (by first | (with_reducible assumption) | assumption) | (have e_ := (Kd.N_reads' HO_135.out).1; omega))
                                    obtain ⟨ua199_0, uc199_0, rfl, ul199_0, ge199_0⟩ := Kd.FK_slice_open hMe199
                                    have hv199_0 := hcc199 0 _ rfl
                                    rw [Nat.add_zero, show ((Kd.slice 3 (Kd.int .i64))).sz = 1 from rfl, Nat.mul_one] at hv199_0
                                    replace hv199_0 := Option.some.inj (hv199_0.symm.trans hx199_0)
                                    injection hv199_0 with hva_ hvn_ hvc_
                                    rw [hva_] at ge199_0
                                    rw [hvc_] at ul199_0
                                    have HL199_0 := Aside0.mk (show Kd.V (Kd.int .i64) 3 _ w.heap.size _ _ (rd_L1 x9_25 x137_3) from Kd.V_mk ul199_0 ge199_0)
                                    clear hva_ hvn_ hvc_ ge199_0 ul199_0
                                    clear hcc199 hce199
                                    have HR199_0 := Aside0.mk hi199_0
                                    have HC199_0 := Aside0.mk hl199_0
                                    clear hi199_0 hl199_0
                                    replace p199 := eq_true p199
                                    replace q199 := eq_true q199
                                    go_wp2_with (first | ((with_reducible refine gate_callee (f := 18) rfl ?_); refine goesL_ (some 143) rfl rfl Tryd.func18 (by kernel_rfl) rfl #[.slice A199_0 (rd_L1 x9_25 x137_3).length c199_0] rfl (by (try simp only [List.map_toArray, List.map_cons, List.map_nil]); first | done | rfl | (simp only [List.length_drop, List.length_take]; rfl)) ?_; (with_reducible refine (width_Width.calls (hGL := (by repeat (first | (with_reducible exact HGL.out) | (with_reducible exact GL_below HGL.out HB.out) | (with_reducible refine GL_alloc ?_ _) | (with_reducible refine GL_drewN ?_ _) | (with_reducible refine GL_drew ?_)))) k3 _ _ (rd_L1 x9_25 x137_3) t200 t201 _ ?side1 ?side2 A89.out).mono ?_); (case side1 => repeat (first | exact (by repeat (first | (with_reducible exact HR199_0.out) | (with_reducible refine Kd.C_alloc ?_ _) | (with_reducible refine Kd.C_drewN ?_ _) | (with_reducible refine Kd.C_drew ?_) | exact HR199_0.out)) | (with_reducible refine Kd.C_alloc ?_ _) | (with_reducible refine Kd.C_drewN ?_ _) | (with_reducible refine Kd.C_drew ?_))); (case side2 => exact HC199_0.out); rintro e w95 ⟨rfl, hb⟩; refine ⟨_, rfl, ?_⟩; have n0_ := Aside0.mk (Kd.N_below (by (with_reducible repeat (first | apply Kd.N_alloc | apply Kd.N_drewN | apply Kd.N_drew)); exact HO_135.out) hb); have n1_ := Aside0.mk (Kd.V_below (by (with_reducible repeat (first | apply Kd.V_alloc | apply Kd.V_drewN | apply Kd.V_drew)); exact HL199_0.out) hb); have n2_ := Aside0.mk (Kd.C_below (by repeat (first | (with_reducible exact HR199_0.out) | (with_reducible refine Kd.C_alloc ?_ _) | (with_reducible refine Kd.C_drewN ?_ _) | (with_reducible refine Kd.C_drew ?_) | exact HR199_0.out)) hb); have n3_ := Aside0.mk (below_step (by repeat (first | (with_reducible first | exact HB.out | apply below_alloc | apply pw_below_drewN | apply below_drew1) | exact HB.out)) hb); clear HO_135; clear HL199_0; clear HR199_0; clear HB; have HO_135 := n0_; have HL199_0 := n1_; have HR199_0 := n2_; have HB := n3_; clear n0_ n1_ n2_ n3_; (try clear hb); (try clear hb2); (try clear hk); (try clear hi)))
                                    go_roundg k3
                                    case measure => have := HJ5.out; have := HJ25.out; have := HK3.out; omega
                                    case rel => exact ⟨(wrap64 (x137_3 + 1)), (by first | rfl | (simp; done) | (simp [*]; done)), H', ⟨by have := HJ5.out; have := HJ25.out; have := HK3.out; omega⟩, ⟨by (with_reducible repeat (first | apply Kd.N_alloc | apply Kd.N_drewN | apply Kd.N_drew)); exact HO_135.out⟩, ⟨by repeat (first | (with_reducible first | exact HB.out | apply below_alloc | apply pw_below_drewN | apply below_drew1) | exact HB.out)⟩⟩
                              · rw [if_neg c90] at H
                                have c90b0 : (t201 == 0) = false := beq_eq_false_iff_ne.mpr c90
                                have c90b1 : (t201 != 0) = true := bne_iff_ne.mpr c90
                                obtain rfl := Option.some.inj H
                                have p199 : 0 ≤ (x137_3 : Int) := of_decide_eq_true (by first | (with_reducible assumption) | assumption)
                                have q199 : x137_3 < (x9_25.length : Int) := of_decide_eq_true (by first | (with_reducible assumption) | assumption)
                                obtain ⟨ad199, A199_0, c199_0, e199, hx199_0, hl199_0, hi199_0⟩ := at_L1 (Kd.N_reads' HO_135.out).2.2 x137_3 p199 q199
                                cases e199
                                obtain ⟨ce199, hce199, hMe199, hcc199⟩ := Kd.N_get HO_135.out [] x137_3 p199 (by first | exact q199 | exact of_decide_eq_true (by first | (with_reducible assumption) | assumption) | (have e_ := (Kd.N_reads' HO_135.out).1; omega))
                                obtain ⟨ua199_0, uc199_0, rfl, ul199_0, ge199_0⟩ := Kd.FK_slice_open hMe199
                                have hv199_0 := hcc199 0 _ rfl
                                rw [Nat.add_zero, show ((Kd.slice 3 (Kd.int .i64))).sz = 1 from rfl, Nat.mul_one] at hv199_0
                                replace hv199_0 := Option.some.inj (hv199_0.symm.trans hx199_0)
                                injection hv199_0 with hva_ hvn_ hvc_
                                rw [hva_] at ge199_0
                                rw [hvc_] at ul199_0
                                have HL199_0 := Aside0.mk (show Kd.V (Kd.int .i64) 3 _ w.heap.size _ _ (rd_L1 x9_25 x137_3) from Kd.V_mk ul199_0 ge199_0)
                                clear hva_ hvn_ hvc_ ge199_0 ul199_0
                                clear hcc199 hce199
                                have HR199_0 := Aside0.mk hi199_0
                                have HC199_0 := Aside0.mk hl199_0
                                clear hi199_0 hl199_0
                                replace p199 := eq_true p199
                                replace q199 := eq_true q199
                                go_wp2_with (first | ((with_reducible refine gate_callee (f := 18) rfl ?_); refine goesL_ (some 143) rfl rfl Tryd.func18 (by kernel_rfl) rfl #[.slice A199_0 (rd_L1 x9_25 x137_3).length c199_0] rfl (by (try simp only [List.map_toArray, List.map_cons, List.map_nil]); first | done | rfl | (simp only [List.length_drop, List.length_take]; rfl)) ?_; (with_reducible refine (width_Width.calls (hGL := (by repeat (first | (with_reducible exact HGL.out) | (with_reducible exact GL_below HGL.out HB.out) | (with_reducible refine GL_alloc ?_ _) | (with_reducible refine GL_drewN ?_ _) | (with_reducible refine GL_drew ?_)))) k3 _ _ (rd_L1 x9_25 x137_3) t200 t201 _ ?side1 ?side2 A89.out).mono ?_); (case side1 => repeat (first | exact (by repeat (first | (with_reducible exact HR199_0.out) | (with_reducible refine Kd.C_alloc ?_ _) | (with_reducible refine Kd.C_drewN ?_ _) | (with_reducible refine Kd.C_drew ?_) | exact HR199_0.out)) | (with_reducible refine Kd.C_alloc ?_ _) | (with_reducible refine Kd.C_drewN ?_ _) | (with_reducible refine Kd.C_drew ?_))); (case side2 => exact HC199_0.out); rintro e w96 ⟨rfl, hb⟩; refine ⟨_, rfl, ?_⟩; have n0_ := Aside0.mk (Kd.N_below (by (with_reducible repeat (first | apply Kd.N_alloc | apply Kd.N_drewN | apply Kd.N_drew)); exact HO_135.out) hb); have n1_ := Aside0.mk (Kd.V_below (by (with_reducible repeat (first | apply Kd.V_alloc | apply Kd.V_drewN | apply Kd.V_drew)); exact HL199_0.out) hb); have n2_ := Aside0.mk (Kd.C_below (by repeat (first | (with_reducible exact HR199_0.out) | (with_reducible refine Kd.C_alloc ?_ _) | (with_reducible refine Kd.C_drewN ?_ _) | (with_reducible refine Kd.C_drew ?_) | exact HR199_0.out)) hb); have n3_ := Aside0.mk (below_step (by repeat (first | (with_reducible first | exact HB.out | apply below_alloc | apply pw_below_drewN | apply below_drew1) | exact HB.out)) hb); clear HO_135; clear HL199_0; clear HR199_0; clear HB; have HO_135 := n0_; have HL199_0 := n1_; have HR199_0 := n2_; have HB := n3_; clear n0_ n1_ n2_ n3_; (try clear hb); (try clear hb2); (try clear hk); (try clear hi)))
                                go_ret
                                exact ⟨by first | rfl | (simp [errW_none, errW_some] <;> rfl) | (simp only [← hji20, ← hji23, ← hji25]; first | rfl | (simp [errW_none, errW_some] <;> rfl)) | (simp [*, errW_none, errW_some] <;> rfl), by repeat (first | (with_reducible first | exact HB.out | apply below_alloc | apply pw_below_drewN | apply below_drew1) | exact HB.out)⟩
                            · rw [if_neg c88] at H
                              exact absurd H (by simp)
                          · rw [if_neg c87] at H
                            exact absurd H (by simp)
                        · rw [if_neg c86] at H
                          have c86b0 : decide (x137_3 < (x9_25.length : Int)) = false := decide_eq_false c86
                          (try (have c86b0_hl10_2 := c86b0; rw [hl10_2] at c86b0_hl10_2))
                          (try (have c86b0_hl11_2 := c86b0; rw [hl11_2] at c86b0_hl11_2))
                          clear c86
                          replace H := Option.bind_eq_some_iff.mp H
                          obtain ⟨t202, A970, H⟩ := H
                          replace H : (some t202) = some r := H
                          have A97 := Aside0.mk A970
                          clear A970
                          obtain rfl := Option.some.inj H
                          go_wp2_with (first | ((with_reducible refine gate_callee (f := 20) rfl ?_); refine goesL_ (some 160) rfl rfl Tryd.func20 (by kernel_rfl) rfl #[] rfl (by (try simp only [List.map_toArray, List.map_cons, List.map_nil]); first | done | rfl | (simp only [List.length_drop, List.length_take]; rfl)) ?_; (with_reducible refine (lampblacklaw02_awake.calls (hGL := (by repeat (first | (with_reducible exact HGL.out) | (with_reducible exact GL_below HGL.out HB.out) | (with_reducible refine GL_alloc ?_ _) | (with_reducible refine GL_drewN ?_ _) | (with_reducible refine GL_drew ?_)))) k3  t202 _ A97.out).mono ?_); rintro e w98 ⟨rfl, hb⟩; refine ⟨_, rfl, ?_⟩; have n0_ := Aside0.mk (Kd.N_below (by (with_reducible repeat (first | apply Kd.N_alloc | apply Kd.N_drewN | apply Kd.N_drew)); exact HO_135.out) hb); have n1_ := Aside0.mk (below_step (by repeat (first | (with_reducible first | exact HB.out | apply below_alloc | apply pw_below_drewN | apply below_drew1) | exact HB.out)) hb); clear HO_135; clear HB; have HO_135 := n0_; have HB := n1_; clear n0_ n1_; (try clear hb); (try clear hb2); (try clear hk); (try clear hi)))
                          go_ret
                          exact ⟨by first | rfl | (simp [errW_none, errW_some] <;> rfl) | (simp only [← hji20, ← hji23, ← hji25]; first | rfl | (simp [errW_none, errW_some] <;> rfl)) | (simp [*, errW_none, errW_some] <;> rfl), by repeat (first | (with_reducible first | exact HB.out | apply below_alloc | apply pw_below_drewN | apply below_drew1) | exact HB.out)⟩
              · rw [if_neg c24] at H
                exact absurd H (by simp)
            · rw [if_neg c22] at H
              exact absurd H (by simp)
          · rw [if_neg c21] at H
            exact absurd H (by simp)

end Go.Proofs.YtoffehihicabcaaDoor.X
end
section
/- Sets as numbers: what Go's bit operations on an int come to, for numbers below 2^62. -/
namespace Go.Proofs.YtoffehihicabcaaDoor.T
open Go.RowKit Go.Proofs.YtoffehihicabcaaDoorW.PrintWords Go.Proofs.YtoffehihicabcaaDoorW.PrintLast Go.Proofs.YtoffehihicabcaaDoorW.PrintMore

/-- a without b. -/
def diff (a b : Nat) : Nat := a ^^^ (a &&& b)
theorem diff_testBit (a b i : Nat) : (diff a b).testBit i = (a.testBit i && !b.testBit i) := by
  unfold diff; simp; cases a.testBit i <;> cases b.testBit i <;> rfl
theorem diff_le (a b : Nat) : diff a b ≤ a := by
  have h : diff a b &&& a = diff a b := by
    apply Nat.eq_of_testBit_eq; intro i; simp [diff_testBit]
    cases a.testBit i <;> simp
  rw [← h]; exact Nat.and_le_right
theorem or_lt {a b j : Nat} (ha : a < 2 ^ j) (hb : b < 2 ^ j) : a ||| b < 2 ^ j := Nat.or_lt_two_pow ha hb

theorem i64_small (n : Int) (h0 : 0 ≤ n) (h1 : n < 2 ^ 62) : IntKind.i64.wrap n = n := by rw [IntKind.wrap_i64]; omega
theorem w64_small (n : Int) (h0 : -(2 ^ 62) ≤ n) (h1 : n < 2 ^ 62) : wrap64 n = n := by unfold wrap64; omega
theorem u64_small (n : Int) (h0 : 0 ≤ n) (h1 : n < 2 ^ 62) : IntKind.u64.wrap n = n := by rw [IntKind.wrap_u64]; omega
theorem u64_low (a : Nat) (ha : a < 2 ^ 62) : (BitVec.ofInt 64 (a : Int)).toNat = a := by
  rw [BitVec.ofInt_natCast, BitVec.toNat_ofNat]; exact Nat.mod_eq_of_lt (by omega)

theorem b_and (a b : Nat) (ha : a < 2 ^ 62) (hb : b < 2 ^ 62) : Go.bits .and .i64 (a : Int) (b : Int) = ((a &&& b : Nat) : Int) := by
  have hx : a &&& b < 2 ^ 62 := Nat.and_lt_two_pow _ hb
  show IntKind.i64.wrap ((BitVec.ofInt 64 (a : Int) &&& BitVec.ofInt 64 (b : Int)).toNat : Int) = _
  rw [BitVec.toNat_and, u64_low a ha, u64_low b hb]
  exact i64_small _ (by omega) (by omega)
theorem b_or (a b : Nat) (ha : a < 2 ^ 62) (hb : b < 2 ^ 62) : Go.bits .or .i64 (a : Int) (b : Int) = ((a ||| b : Nat) : Int) := by
  have hx : a ||| b < 2 ^ 62 := Nat.or_lt_two_pow ha hb
  show IntKind.i64.wrap ((BitVec.ofInt 64 (a : Int) ||| BitVec.ofInt 64 (b : Int)).toNat : Int) = _
  rw [BitVec.toNat_or, u64_low a ha, u64_low b hb]
  exact i64_small _ (by omega) (by omega)
theorem b_andNot (a b : Nat) (ha : a < 2 ^ 62) (hb : b < 2 ^ 62) : Go.bits .andNot .i64 (a : Int) (b : Int) = ((diff a b : Nat) : Int) := by
  have hx : diff a b < 2 ^ 62 := Nat.lt_of_le_of_lt (diff_le a b) ha
  show IntKind.i64.wrap ((BitVec.ofInt 64 (a : Int) &&& ~~~ BitVec.ofInt 64 (b : Int)).toNat : Int) = _
  have e : (BitVec.ofInt 64 (a : Int) &&& ~~~ BitVec.ofInt 64 (b : Int)).toNat = diff a b := by
    apply Nat.eq_of_testBit_eq
    intro i
    rw [diff_testBit, BitVec.testBit_toNat, BitVec.getLsbD_and, BitVec.getLsbD_not, ← BitVec.testBit_toNat, ← BitVec.testBit_toNat, u64_low a ha, u64_low b hb]
    by_cases hi : i < 64
    · simp [hi]
    · have : a.testBit i = false := Nat.testBit_lt_two_pow (Nat.lt_of_lt_of_le ha (Nat.pow_le_pow_right (by omega) (by omega)))
      simp [this]
  rw [e]
  exact i64_small _ (by omega) (by omega)
theorem s_one (i : Nat) (hi : i < 62) : shl .i64 1 (i : Int) = ((2 ^ i : Nat) : Int) := by
  have h1 : 2 ^ i < 2 ^ 62 := Nat.pow_lt_pow_right (by omega) hi
  unfold shl
  rw [show min (i : Int).toNat IntKind.i64.bits = i by simp [IntKind.bits]; omega, Int.one_mul]
  rw [show ((2 : Int) ^ i) = ((2 ^ i : Nat) : Int) by simp]
  exact i64_small _ (Int.natCast_nonneg _) (by omega)
theorem s_shl (a i : Nat) (h : a * 2 ^ i < 2 ^ 62) (hi : i < 62) : shl .i64 (a : Int) (i : Int) = ((a * 2 ^ i : Nat) : Int) := by
  unfold shl
  rw [show min (i : Int).toNat IntKind.i64.bits = i by simp [IntKind.bits]; omega]
  rw [show ((a : Int) * (2 : Int) ^ i) = ((a * 2 ^ i : Nat) : Int) by simp]
  exact i64_small _ (Int.natCast_nonneg _) (by omega)
theorem s_shr (a i : Nat) (hi : i < 62) : shr .i64 (a : Int) (i : Int) = ((a / 2 ^ i : Nat) : Int) := by
  unfold shr
  rw [show min (i : Int).toNat IntKind.i64.bits = i by simp [IntKind.bits]; omega]
  simp
/-- 'set >> i & 1': is i in the set? -/
theorem bit_at (a i : Nat) (ha : a < 2 ^ 62) (hi : i < 62) : Go.bits .and .i64 (shr .i64 (a : Int) (i : Int)) 1 = ((a.testBit i).toNat : Int) := by
  rw [s_shr a i hi]
  have h1 : a / 2 ^ i < 2 ^ 62 := Nat.lt_of_le_of_lt (Nat.div_le_self _ _) ha
  have := b_and (a / 2 ^ i) 1 h1 (by omega)
  rw [show ((1 : Nat) : Int) = 1 from rfl] at this
  rw [this, Nat.and_one_is_mod, Nat.testBit_eq_decide_div_mod_eq]
  by_cases h : a / 2 ^ i % 2 = 1
  · simp [h]
  · have : a / 2 ^ i % 2 = 0 := by omega
    simp [this]
theorem bit_one (a i : Nat) (ha : a < 2 ^ 62) (hi : i < 62) : Go.bits .and .i64 (shr .i64 (a : Int) (i : Int)) 1 = 1 ↔ a.testBit i = true := by
  rw [bit_at a i ha hi]; cases a.testBit i <;> simp
theorem bit_zero (a i : Nat) (ha : a < 2 ^ 62) (hi : i < 62) : Go.bits .and .i64 (shr .i64 (a : Int) (i : Int)) 1 = 0 ↔ a.testBit i = false := by
  rw [bit_at a i ha hi]; cases a.testBit i <;> simp

/-- A list of numbers, as the program's. -/
def gi (l : List Nat) : List Int := l.map fun (x : Nat) => (x : Int)
theorem gi_length (l : List Nat) : (gi l).length = l.length := by simp [gi]
theorem rd_gi (l : List Nat) (i : Nat) : rd (gi l) (i : Int) = ((l.getD i 0 : Nat) : Int) := by
  unfold rd gi
  simp only [Int.toNat_natCast, List.getD_eq_getElem?_getD, List.getElem?_map]
  cases l[i]? <;> rfl
theorem gi_set (l : List Nat) (i x : Nat) : (gi l).set i (x : Int) = gi (l.set i x) := by simp [gi, List.map_set]
theorem gi_append (l m : List Nat) : gi l ++ gi m = gi (l ++ m) := by simp [gi]
theorem gi_nonneg (l : List Int) (h : ∀ x ∈ l, 0 ≤ x) : ∃ m : List Nat, l = gi m := by
  refine ⟨l.map Int.toNat, ?_⟩
  unfold gi
  rw [List.map_map]
  conv => lhs; rw [← List.map_id l]
  apply List.map_congr_left
  intro x hx
  have := h x hx
  simp; omega
theorem testBit_ge {a n i : Nat} (h : a < 2 ^ n) (hi : n ≤ i) : a.testBit i = false := Nat.testBit_lt_two_pow (Nat.lt_of_lt_of_le h (Nat.pow_le_pow_right (by omega) hi))
end Go.Proofs.YtoffehihicabcaaDoor.T
end
section
/- Small words for loops over indices, and for what holds from some number of rounds on. -/
set_option linter.unusedVariables false
namespace Go.Proofs.YtoffehihicabcaaDoor.T
open Go.RowKit Go.Proofs.YtoffehihicabcaaDoorW.PrintWords Go.Proofs.YtoffehihicabcaaDoorW.PrintLast Go.Proofs.YtoffehihicabcaaDoorW.PrintMore

/-- p holds of i, i + 1, .., n - 1. -/
def allFrom (p : Nat → Bool) (n : Nat) : Nat → Nat → Bool
  | 0, _ => true
  | d + 1, i => p i && allFrom p n d (i + 1)
theorem allFrom_iff (p : Nat → Bool) (n : Nat) : ∀ d i, allFrom p n d i = true ↔ ∀ j, i ≤ j → j < i + d → p j = true
  | 0, i => by simp only [allFrom]; exact ⟨fun _ j h1 h2 => by omega, fun _ => trivial⟩
  | d + 1, i => by
    simp only [allFrom, Bool.and_eq_true, allFrom_iff p n d (i + 1)]
    constructor
    · rintro ⟨h0, h⟩ j h1 h2
      by_cases e : j = i
      · subst e; exact h0
      · exact h j (by omega) (by omega)
    · intro h
      exact ⟨h i (by omega) (by omega), fun j h1 h2 => h j (by omega) (by omega)⟩
/-- the bit of any int, as Go tells it -/
def ibit (x : Int) (i : Nat) : Int := Go.bits .and .i64 (shr .i64 x (i : Int)) 1
theorem ibit_nat (a i : Nat) (ha : a < 2 ^ 62) (hi : i < 62) : ibit (a : Int) i = ((a.testBit i).toNat : Int) := bit_at a i ha hi
theorem wrap_succ (i : Nat) (h : i < 2 ^ 61) : wrap64 ((i : Int) + 1) = ((i + 1 : Nat) : Int) := by
  rw [w64_small _ (by omega) (by omega)]; omega
theorem wrap_pred (i : Nat) (h : i < 2 ^ 61) (h0 : 0 < i) : wrap64 ((i : Int) - 1) = ((i - 1 : Nat) : Int) := by
  rw [w64_small _ (by omega) (by omega)]; omega
theorem Ev.uniq {α : Type} {g : Nat → Option α} {a b : α} (h : Ev g a) (h' : Ev g b) : a = b := by
  obtain ⟨K, h⟩ := h
  obtain ⟨K', h'⟩ := h'
  have h1 := h (max K K') (by omega)
  have h2 := h' (max K K') (by omega)
  rw [h1] at h2
  exact Option.some.inj h2
theorem Ev.bind1 {α β : Type} {g : Option α} {f : Nat → α → Option β} {a : α} {r : β} (h : g = some a) (k : Ev (fun n => f n a) r) : Ev (fun n => g.bind (f n)) r := by subst h; exact k
theorem Ev.some {α : Type} {r r' : α} (h : r = r') : Ev (fun _ => some r) r' := by subst h; exact Ev.now r
theorem Ev.if_pos {α : Type} {c : Prop} [Decidable c] {g f : Nat → Option α} {r : α} (h : c) (k : Ev g r) : Ev (fun n => if c then g n else f n) r := by
  refine Ev.congr (fun n => ?_) k
  rw [_root_.if_pos h]
theorem Ev.if_neg {α : Type} {c : Prop} [Decidable c] {g f : Nat → Option α} {r : α} (h : ¬ c) (k : Ev f r) : Ev (fun n => if c then g n else f n) r := by
  refine Ev.congr (fun n => ?_) k
  rw [_root_.if_neg h]
/-- A test that both ways serve. -/
theorem Ev.ite {α : Type} {c : Prop} [Decidable c] {g f : Nat → Option α} {r : α} (h1 : c → Ev g r) (h2 : ¬ c → Ev f r) : Ev (fun n => if c then g n else f n) r := by
  by_cases h : c
  · exact Ev.if_pos h (h1 h)
  · exact Ev.if_neg h (h2 h)
end Go.Proofs.YtoffehihicabcaaDoor.T
end
section
/- Graphs as lists of numbers: what it is to be valid; sets of nodes as numbers. -/
set_option linter.unusedVariables false
namespace Go.Proofs.YtoffehihicabcaaDoor.T
open Go.RowKit Go.Proofs.YtoffehihicabcaaDoorW.PrintWords Go.Proofs.YtoffehihicabcaaDoorW.PrintLast Go.Proofs.YtoffehihicabcaaDoorW.PrintMore

/-- What the program asks of row i of a graph. -/
def rowOk (g : List Int) (i : Nat) : Bool :=
  !decide (rd g (i : Int) < 0) && !decide (rd g (i : Int) ≥ shl .i64 1 (g.length : Int)) && !(ibit (rd g (i : Int)) i == 1) &&
    allFrom (fun j => decide (ibit (rd g (i : Int)) j = ibit (rd g (j : Int)) i)) g.length g.length 0
/-- A valid graph of at most m nodes. -/
def chk (m : Nat) (g : List Int) : Bool := decide (1 ≤ g.length) && decide (g.length ≤ m) && allFrom (rowOk g) g.length g.length 0

/-- A graph: the rows are sets of nodes, none has itself, and neighbours are so both ways. -/
structure Gr (m : Nat) (G : List Nat) : Prop where
  pos : 1 ≤ G.length
  most : G.length ≤ m
  lt : ∀ i, i < G.length → G.getD i 0 < 2 ^ G.length
  irr : ∀ i, i < G.length → (G.getD i 0).testBit i = false
  symm : ∀ i j, i < G.length → j < G.length → (G.getD i 0).testBit j = (G.getD j 0).testBit i

theorem chk_iff (m : Nat) (hm : m ≤ 13) (g : List Int) : chk m g = true ↔ ∃ G, g = gi G ∧ Gr m G := by
  have p62 : ∀ n : Nat, n ≤ 13 → 2 ^ n < 2 ^ 62 := fun n hn => Nat.pow_lt_pow_right (by omega) (by omega)
  constructor
  · intro h
    simp only [chk, Bool.and_eq_true, decide_eq_true_eq, allFrom_iff] at h
    obtain ⟨⟨h1, h2⟩, h3⟩ := h
    have hn : g.length ≤ 13 := by omega
    have hrow : ∀ i, i < g.length → (0 ≤ rd g (i : Int) ∧ rd g (i : Int) < ((2 ^ g.length : Nat) : Int)) ∧ ibit (rd g (i : Int)) i ≠ 1 ∧ ∀ j, j < g.length → ibit (rd g (i : Int)) j = ibit (rd g (j : Int)) i := by
      intro i hi
      have := h3 i (by omega) (by omega)
      simp only [rowOk, Bool.and_eq_true, Bool.not_eq_true', decide_eq_false_iff_not, beq_eq_false_iff_ne, allFrom_iff, decide_eq_true_eq] at this
      obtain ⟨⟨⟨a, b⟩, c⟩, d⟩ := this
      rw [s_one _ (by omega)] at b
      exact ⟨⟨by omega, by omega⟩, c, fun j hj => d j (by omega) (by omega)⟩
    obtain ⟨G, rfl⟩ := gi_nonneg g (fun x hx => by
      obtain ⟨i, hi, rfl⟩ := List.getElem_of_mem hx
      have := (hrow i hi).1.1
      unfold rd at this
      rw [Int.toNat_natCast, List.getD_eq_getElem?_getD, List.getElem?_eq_getElem hi] at this
      exact this)
    simp only [gi_length, rd_gi] at hrow h1 h2 hn
    have hlt : ∀ i, i < G.length → G.getD i 0 < 2 ^ G.length := fun i hi => by have := (hrow i hi).1.2; omega
    refine ⟨G, rfl, h1, h2, hlt, fun i hi => ?_, fun i j hi hj => ?_⟩
    · have := (hrow i hi).2.1
      rw [ibit_nat _ _ (Nat.lt_trans (hlt i hi) (p62 _ hn)) (by omega)] at this
      cases hb : (G.getD i 0).testBit i
      · rfl
      · rw [hb] at this; exact (this rfl).elim
    · have := (hrow i hi).2.2 j hj
      rw [ibit_nat _ _ (Nat.lt_trans (hlt i hi) (p62 _ hn)) (by omega), ibit_nat _ _ (Nat.lt_trans (hlt j hj) (p62 _ hn)) (by omega)] at this
      cases ha : (G.getD i 0).testBit j <;> cases hb : (G.getD j 0).testBit i <;> rw [ha, hb] at this <;> simp_all
  · rintro ⟨G, rfl, hG⟩
    have hn : G.length ≤ 13 := Nat.le_trans hG.most hm
    simp only [chk, Bool.and_eq_true, decide_eq_true_eq, allFrom_iff, gi_length]
    refine ⟨⟨hG.pos, hG.most⟩, fun i _ hi => ?_⟩
    have hi : i < G.length := by omega
    simp only [rowOk, Bool.and_eq_true, Bool.not_eq_true', decide_eq_false_iff_not, beq_eq_false_iff_ne, allFrom_iff, decide_eq_true_eq, rd_gi, gi_length]
    rw [s_one _ (by omega)]
    have hl := hG.lt i hi
    refine ⟨⟨⟨by omega, by omega⟩, ?_⟩, fun j _ hj => ?_⟩
    · rw [ibit_nat _ _ (Nat.lt_trans hl (p62 _ hn)) (by omega), hG.irr i hi]; simp
    · have hj : j < G.length := by omega
      rw [ibit_nat _ _ (Nat.lt_trans hl (p62 _ hn)) (by omega), ibit_nat _ _ (Nat.lt_trans (hG.lt j hj) (p62 _ hn)) (by omega), hG.symm i j hi hj]

/-- Neighbours. -/
def Adj (G : List Nat) (u w : Nat) : Prop := (G.getD u 0).testBit w = true
theorem getD_out (G : List Nat) (i : Nat) (h : G.length ≤ i) : G.getD i 0 = 0 := by
  rw [List.getD_eq_getElem?_getD, List.getElem?_eq_none h]; rfl
theorem Gr.row {m : Nat} {G : List Nat} (h : Gr m G) (i : Nat) : G.getD i 0 < 2 ^ G.length := by
  by_cases hi : i < G.length
  · exact h.lt i hi
  · rw [getD_out G i (by omega)]; exact Nat.two_pow_pos _
theorem Gr.adj_lt {m : Nat} {G : List Nat} (h : Gr m G) {u w : Nat} (a : Adj G u w) : w < G.length := by
  apply Classical.byContradiction
  intro hw
  unfold Adj at a
  rw [testBit_ge (h.row u) (by omega)] at a
  cases a
theorem Gr.adj_lt' {m : Nat} {G : List Nat} (h : Gr m G) {u w : Nat} (a : Adj G u w) : u < G.length := by
  apply Classical.byContradiction
  intro hu
  unfold Adj at a
  rw [getD_out G u (by omega)] at a
  simp at a
theorem Gr.adj_symm {m : Nat} {G : List Nat} (h : Gr m G) {u w : Nat} (a : Adj G u w) : Adj G w u := by
  have h1 := h.adj_lt a
  have h2 := h.adj_lt' a
  unfold Adj at *
  rw [← h.symm u w h2 h1]; exact a
theorem Gr.adj_irr {m : Nat} {G : List Nat} (h : Gr m G) {u : Nat} : ¬ Adj G u u := by
  intro a
  have h2 := h.adj_lt' a
  unfold Adj at a
  rw [h.irr u h2] at a
  cases a

/-- The neighbours of the nodes of a set: some nodes' rows, joined. -/
def around (G : List Nat) (s : Nat) : Nat → Nat
  | 0 => 0
  | d + 1 => around G s d ||| (if s.testBit d then G.getD d 0 else 0)
theorem around_bit (G : List Nat) (s : Nat) : ∀ d j, (around G s d).testBit j = true ↔ ∃ i, i < d ∧ s.testBit i = true ∧ Adj G i j
  | 0, j => by simp [around]
  | d + 1, j => by
    simp only [around, Nat.testBit_or, Bool.or_eq_true, around_bit G s d]
    constructor
    · rintro (⟨i, h1, h2⟩ | h)
      · exact ⟨i, by omega, h2⟩
      · by_cases hs : s.testBit d = true
        · rw [if_pos hs] at h; exact ⟨d, by omega, hs, h⟩
        · rw [if_neg hs] at h; simp at h
    · rintro ⟨i, h1, h2, h3⟩
      by_cases e : i = d
      · subst e; rw [if_pos h2]; exact .inr h3
      · exact .inl ⟨i, by omega, h2, h3⟩
/-- .. of all its nodes. -/
def Around (G : List Nat) (s : Nat) : Nat := around G s G.length
theorem Around_bit {m : Nat} {G : List Nat} (h : Gr m G) (s j : Nat) : (Around G s).testBit j = true ↔ ∃ i, s.testBit i = true ∧ Adj G i j := by
  unfold Around
  rw [around_bit]
  exact ⟨fun ⟨i, _, h2⟩ => ⟨i, h2⟩, fun ⟨i, h1, h2⟩ => ⟨i, h.adj_lt' h2, h1, h2⟩⟩
theorem lt_of_bits {x n : Nat} (h : ∀ j, x.testBit j = true → j < n) : x < 2 ^ n := by
  apply Nat.lt_pow_two_of_testBit
  intro i hi
  cases hb : x.testBit i
  · rfl
  · have := h i hb; omega
theorem bit_lt {x n j : Nat} (h : x < 2 ^ n) (hb : x.testBit j = true) : j < n := by
  apply Classical.byContradiction
  intro hj
  rw [testBit_ge h (by omega)] at hb
  cases hb
theorem Around_lt {m : Nat} {G : List Nat} (h : Gr m G) (s : Nat) : Around G s < 2 ^ G.length :=
  lt_of_bits fun j hj => by obtain ⟨i, _, h2⟩ := (Around_bit h s j).1 hj; exact h.adj_lt h2
theorem eq_of_bits {a b : Nat} (h : ∀ j, a.testBit j = true ↔ b.testBit j = true) : a = b := by
  apply Nat.eq_of_testBit_eq
  intro i
  have := h i
  cases ha : a.testBit i <;> cases hb : b.testBit i <;> simp_all

/-- What is connected with the nodes of s within w. -/
inductive Con (adj : Nat → Nat → Prop) (w : Nat → Prop) (s : Nat → Prop) : Nat → Prop
  | base {u : Nat} : s u → Con adj w s u
  | step {x u : Nat} : Con adj w s x → adj x u → w u → Con adj w s u
def bset (x : Nat) (i : Nat) : Prop := x.testBit i = true
end Go.Proofs.YtoffehihicabcaaDoor.T
end
section
/- Elimination orders of graphs, in plain Lean: a node less, an edge less, two neighbours made one. No program is in sight. -/
set_option linter.unusedVariables false
namespace Go.Proofs.YtoffehihicabcaaDoor.T

/-- At most k numbers have the property. -/
def AtMost (k : Nat) (P : Nat → Prop) : Prop := ∃ l : List Nat, l.length ≤ k ∧ ∀ u, P u → u ∈ l

theorem AtMost.mono {k k' : Nat} {P Q : Nat → Prop} (h : AtMost k P) (hk : k ≤ k') (hq : ∀ u, Q u → P u) : AtMost k' Q := by
  obtain ⟨l, hl, hp⟩ := h
  exact ⟨l, Nat.le_trans hl hk, fun u hu => hp u (hq u hu)⟩
theorem AtMost.map {k : Nat} {P Q : Nat → Prop} (f : Nat → Nat) (h : AtMost k P) (hq : ∀ u, Q u → ∃ x, P x ∧ f x = u) : AtMost k Q := by
  obtain ⟨l, hl, hp⟩ := h
  refine ⟨l.map f, by simpa using hl, fun u hu => ?_⟩
  obtain ⟨x, hx, rfl⟩ := hq u hu
  exact List.mem_map_of_mem (hp x hx)
theorem AtMost.succ {k : Nat} {P Q : Nat → Prop} (h : AtMost k P) (a : Nat) (hq : ∀ u, Q u → P u ∨ u = a) : AtMost (k + 1) Q := by
  obtain ⟨l, hl, hp⟩ := h
  refine ⟨a :: l, by simp; omega, fun u hu => ?_⟩
  rcases hq u hu with h | h
  · exact List.mem_cons_of_mem _ (hp u h)
  · subst h
    exact List.mem_cons_self
theorem AtMost.below {n : Nat} {P : Nat → Prop} (h : ∀ u, P u → u < n) : AtMost n P := ⟨List.range n, by simp, fun u hu => List.mem_range.2 (h u hu)⟩

/-- Nodes to which a way leads from v whose other nodes are in S. -/
inductive Way (adj : Nat → Nat → Prop) (S : Nat → Prop) (v : Nat) : Nat → Prop
  | one {u : Nat} : adj v u → Way adj S v u
  | more {x u : Nat} : Way adj S v x → S x → adj x u → Way adj S v u

/-- The neighbours that v has at its turn, S gone before. -/
def Nb (adj : Nat → Nat → Prop) (S : Nat → Prop) (v u : Nat) : Prop := Way adj S v u ∧ ¬ S u ∧ u ≠ v

/-- S can be eliminated, no node with more than k neighbours at its turn. -/
inductive Elim (V : Nat → Prop) (adj : Nat → Nat → Prop) (k : Nat) : (Nat → Prop) → Prop
  | nil : Elim V adj k (fun _ => False)
  | snoc {S : Nat → Prop} (v : Nat) : Elim V adj k S → V v → ¬ S v → AtMost k (Nb adj S v) → Elim V adj k (fun u => S u ∨ u = v)

theorem Elim.ext {V : Nat → Prop} {adj : Nat → Nat → Prop} {k : Nat} {S S' : Nat → Prop} (h : Elim V adj k S) (e : ∀ u, S u ↔ S' u) : Elim V adj k S' := by
  have : S = S' := funext fun u => propext (e u)
  subst this
  exact h
theorem Elim.mono {V : Nat → Prop} {adj : Nat → Nat → Prop} {k k' : Nat} {S : Nat → Prop} (h : Elim V adj k S) (hk : k ≤ k') : Elim V adj k' S := by
  induction h with
  | nil => exact .nil
  | snoc v _ hv hs ha ih => exact .snoc v ih hv hs (ha.mono hk fun _ h => h)
theorem Elim.sub {V : Nat → Prop} {adj : Nat → Nat → Prop} {k : Nat} {S : Nat → Prop} (h : Elim V adj k S) : ∀ u, S u → V u := by
  induction h with
  | nil => intro u hu; exact hu.elim
  | snoc v _ hv _ _ ih =>
    intro u hu
    rcases hu with hu | hu
    · exact ih u hu
    · subst hu; exact hv

theorem Way.inside {adj : Nat → Nat → Prop} {S W : Nat → Prop} (hW : ∀ u w, adj u w → W w) {v u : Nat} (h : Way adj S v u) : W u := by
  cases h with
  | one h => exact hW _ _ h
  | more _ _ h => exact hW _ _ h

/-- A graph that lies in another one (by φ, which ψ undoes) has no greater width. -/
theorem Elim.part {V W : Nat → Prop} {adj adj' : Nat → Nat → Prop} {k : Nat} (φ ψ : Nat → Nat) (hψ : ∀ u, ψ (φ u) = u)
    (hW : ∀ u w, adj' u w → W w) (hadj : ∀ u w, adj' u w → adj (φ u) (φ w)) {S : Nat → Prop} (h : Elim V adj k S) :
    Elim W adj' k (fun u => W u ∧ S (φ u)) := by
  have hinj : ∀ a b, φ a = φ b → a = b := fun a b e => by rw [← hψ a, ← hψ b, e]
  induction h with
  | nil => exact Elim.nil.ext fun u => ⟨fun h => h.elim, fun h => h.2⟩
  | @snoc S v _ hv hs ha ih =>
    by_cases hp : ∃ u, W u ∧ φ u = v
    · obtain ⟨u, hu, rfl⟩ := hp
      refine (Elim.snoc u ih hu (fun h => hs h.2) ?_).ext ?_
      · refine ha.map ψ fun w hw => ⟨φ w, ⟨?_, ?_, ?_⟩, hψ w⟩
        · have key : ∀ x, Way adj' (fun u => W u ∧ S (φ u)) u x → Way adj S (φ u) (φ x) := by
            intro x hx
            induction hx with
            | one h => exact .one (hadj _ _ h)
            | more _ hS h ih => exact .more ih hS.2 (hadj _ _ h)
          exact key w hw.1
        · intro hSw
          exact hw.2.1 ⟨hw.1.inside hW, hSw⟩
        · intro e
          exact hw.2.2 (hinj _ _ e)
      · intro x
        constructor
        · rintro (h | h)
          · exact ⟨h.1, .inl h.2⟩
          · subst h; exact ⟨hu, .inr rfl⟩
        · rintro ⟨h1, h2 | h2⟩
          · exact .inl ⟨h1, h2⟩
          · exact .inr (hinj _ _ h2)
    · refine ih.ext fun u => ⟨fun h => ⟨h.1, .inl h.2⟩, fun h => ⟨h.1, ?_⟩⟩
      rcases h.2 with h2 | h2
      · exact h2
      · exact (hp ⟨u, h.1, h2⟩).elim

/-- A node more raises the width by at most one: H is G without a, by φ. -/
theorem Elim.more {V W : Nat → Prop} {adj adj' : Nat → Nat → Prop} {k : Nat} (a : Nat) (φ : Nat → Nat) (hinj : ∀ x y, φ x = φ y → x = y)
    (hV : ∀ u, V u ↔ u = a ∨ ∃ x, W x ∧ φ x = u) (ha : ∀ x, φ x ≠ a)
    (hin : ∀ u w, adj u w → V w) (hadj : ∀ u w, adj (φ u) (φ w) → adj' u w) {S : Nat → Prop} (h : Elim W adj' k S) :
    Elim V adj (k + 1) (fun u => ∃ x, S x ∧ φ x = u) := by
  induction h with
  | nil => exact Elim.nil.ext fun u => ⟨fun h => h.elim, fun ⟨_, h, _⟩ => h⟩
  | @snoc S v hS hv hs hm ih =>
    refine (Elim.snoc (φ v) ih ((hV _).2 (.inr ⟨v, hv, rfl⟩)) (fun ⟨x, hx, e⟩ => hs (hinj _ _ e ▸ hx)) ?_).ext ?_
    · refine AtMost.succ (P := fun u => ∃ w, Nb adj' S v w ∧ φ w = u) (hm.map φ fun u ⟨w, hw, e⟩ => ⟨w, hw, e⟩) a ?_
      rintro u ⟨hu, hnu, hne⟩
      have key : ∀ y, Way adj (fun u => ∃ x, S x ∧ φ x = u) (φ v) y → ∀ x, φ x = y → Way adj' S v x := by
        intro y hy
        induction hy with
        | one h => rintro x rfl; exact .one (hadj _ _ h)
        | more _ hS h ih =>
          rintro x rfl
          obtain ⟨z, hz, rfl⟩ := hS
          exact .more (ih z rfl) hz (hadj _ _ h)
      rcases (hV u).1 (hu.inside hin) with e | ⟨x, hx, rfl⟩
      · exact .inr e
      · refine .inl ⟨x, ⟨key _ hu x rfl, fun h => hnu ⟨x, h, rfl⟩, fun e => hne (by rw [e])⟩, rfl⟩
    · intro u
      constructor
      · rintro (⟨x, hx, e⟩ | h)
        · exact ⟨x, .inl hx, e⟩
        · exact ⟨v, .inr rfl, h.symm⟩
      · rintro ⟨x, hx | hx, e⟩
        · exact .inl ⟨x, hx, e⟩
        · subst hx; exact .inr e.symm

/-- .. and the whole graph, a last. -/
theorem Elim.more_all {V W : Nat → Prop} {adj adj' : Nat → Nat → Prop} {k : Nat} (a : Nat) (φ : Nat → Nat) (hinj : ∀ x y, φ x = φ y → x = y)
    (hV : ∀ u, V u ↔ u = a ∨ ∃ x, W x ∧ φ x = u) (ha : ∀ x, φ x ≠ a)
    (hin : ∀ u w, adj u w → V w) (hadj : ∀ u w, adj (φ u) (φ w) → adj' u w) (h : Elim W adj' k W) : Elim V adj (k + 1) V := by
  refine (Elim.snoc a (Elim.more a φ hinj hV ha hin hadj h) ((hV a).2 (.inl rfl)) (fun ⟨x, _, e⟩ => ha x e) ?_).ext ?_
  · refine ⟨[], by simp, ?_⟩
    rintro u ⟨hu, hn, hne⟩
    rcases (hV u).1 (hu.inside hin) with e | e
    · exact (hne e).elim
    · exact (hn e).elim
  · intro u
    rw [hV]
    exact ⟨fun h => h.symm, fun h => h.symm⟩

/-- Two neighbours made one: b goes into a. -/
def glue (a b x : Nat) : Nat := if x = b then a else x

theorem Elim.contract {V : Nat → Prop} {adj adj' : Nat → Nat → Prop} {k : Nat} (a b : Nat) (hab : adj a b) (hba : adj b a) (hne : a ≠ b) (hVa : V a)
    (hadj : ∀ u w, adj' u w → u ≠ w ∧ ∃ x y, glue a b x = u ∧ glue a b y = w ∧ adj x y) {S : Nat → Prop} (h : Elim V adj k S) :
    Elim (fun u => V u ∧ u ≠ b) adj' k (fun u => u ≠ b ∧ ∀ x, glue a b x = u → S x) := by
  have ga : glue a b a = a := by unfold glue; rw [if_neg hne]
  have gb : glue a b b = a := by unfold glue; rw [if_pos rfl]
  have gx : ∀ x, x ≠ b → glue a b x = x := fun x h => by unfold glue; rw [if_neg h]
  have gn : ∀ x, glue a b x ≠ b := fun x => by unfold glue; split <;> omega
  have pre : ∀ x u, glue a b x = u → u ≠ a → x = u := fun x u h hu => by
    by_cases e : x = b
    · subst e; rw [gb] at h; omega
    · rw [gx x e] at h; exact h
  have pre2 : ∀ x, glue a b x = a → x = a ∨ x = b := fun x h => by
    by_cases e : x = b
    · exact .inr e
    · rw [gx x e] at h; exact .inl h
  induction h with
  | nil => exact Elim.nil.ext fun u => ⟨fun h => h.elim, fun h => by
      by_cases e : u = a
      · subst e; exact h.2 u ga
      · exact h.2 u (gx u h.1)⟩
  | @snoc S v _ hv hs hm ih =>
    -- ways in the smaller graph come of ways in the greater one
    have stepS : ∀ s x, Way adj S s x → S x → ∀ y, glue a b y = glue a b x → Way adj S s y := by
      intro s x hx hSx y e
      by_cases exy : x = y
      · subst exy; exact hx
      · by_cases hya : glue a b x = a
        · rcases pre2 x hya with rfl | rfl <;> rcases pre2 y (e.trans hya) with rfl | rfl
          · exact hx
          · exact .more hx hSx hab
          · exact .more hx hSx hba
          · exact hx
        · have h1 := pre x _ rfl hya
          have h2 := pre y _ e (by rw [← e] at hya; rw [e] at hya; exact hya)
          exact (exy (h1.trans h2.symm)).elim
    by_cases hcase : (v = a ∧ S b) ∨ (v = b ∧ S a) ∨ (v ≠ a ∧ v ≠ b)
    · -- the node of v goes
      have hgv : glue a b v ≠ b := gn v
      have hVg : V (glue a b v) := by
        by_cases e : v = b
        · rw [e, gb]; exact hVa
        · rw [gx v e]; exact hv
      -- from each preimage of v's node there is a way from v, of what is gone
      have start : ∀ y, glue a b y = glue a b v → y = v ∨ (S y ∧ Way adj S v y) := by
        intro y e
        rcases hcase with ⟨rfl, hb⟩ | ⟨rfl, ha'⟩ | ⟨h1, h2⟩
        · rw [ga] at e
          rcases pre2 y e with h | h
          · exact .inl h
          · subst h; exact .inr ⟨hb, .one hab⟩
        · rw [gb] at e
          rcases pre2 y e with h | h
          · subst h; exact .inr ⟨ha', .one hba⟩
          · exact .inl h
        · rw [gx v h2] at e
          exact .inl (pre y v e h1)
      have key : ∀ w, Way adj' (fun u => u ≠ b ∧ ∀ x, glue a b x = u → S x) (glue a b v) w → ∃ x, glue a b x = w ∧ Way adj S v x := by
        intro w hw
        induction hw with
        | one h =>
          obtain ⟨_, x, y, hx, hy, hxy⟩ := hadj _ _ h
          rcases start x hx with rfl | ⟨h1, h2⟩
          · exact ⟨y, hy, .one hxy⟩
          · exact ⟨y, hy, .more h2 h1 hxy⟩
        | more _ hS h ih =>
          obtain ⟨z, hz, hwz⟩ := ih
          obtain ⟨_, x, y, hx, hy, hxy⟩ := hadj _ _ h
          have hSz := hS.2 z hz
          have hSx := hS.2 x hx
          exact ⟨y, hy, .more (stepS v z hwz hSz x (hx.trans hz.symm)) hSx hxy⟩
      refine (Elim.snoc (glue a b v) ih ⟨hVg, hgv⟩ (fun h => hs (h.2 v rfl)) ?_).ext ?_
      · refine hm.map (glue a b) fun w hw => ?_
        obtain ⟨hw1, hw2, hw3⟩ := hw
        obtain ⟨x, hx, hwx⟩ := key w hw1
        have hwb : w ≠ b := hx ▸ gn x
        by_cases hSx : S x
        · -- another preimage is not gone
          have : ∃ y, glue a b y = w ∧ ¬ S y := Classical.byContradiction fun hno => hw2 ⟨hwb, fun y hy => Classical.byContradiction fun h => hno ⟨y, hy, h⟩⟩
          obtain ⟨y, hy, hSy⟩ := this
          exact ⟨y, ⟨stepS v x hwx hSx y (hy.trans hx.symm), hSy, fun e => hw3 (by rw [← hy, e])⟩, hy⟩
        · exact ⟨x, ⟨hwx, hSx, fun e => hw3 (by rw [← hx, e])⟩, hx⟩
      · intro u
        constructor
        · rintro (⟨h1, h2⟩ | rfl)
          · exact ⟨h1, fun x hx => .inl (h2 x hx)⟩
          · refine ⟨hgv, fun x hx => ?_⟩
            rcases start x hx with h | h
            · exact .inr h
            · exact .inl h.1
        · rintro ⟨h1, h2⟩
          by_cases e : u = glue a b v
          · exact .inr e
          · refine .inl ⟨h1, fun x hx => ?_⟩
            rcases h2 x hx with h | h
            · exact h
            · subst h; exact (e hx.symm).elim
    · -- the other one is still there: nothing goes
      refine ih.ext fun u => ⟨fun h => ⟨h.1, fun x hx => .inl (h.2 x hx)⟩, fun h => ⟨h.1, fun x hx => ?_⟩⟩
      rcases h.2 x hx with h' | h'
      · exact h'
      · subst h'
        exfalso
        apply hcase
        by_cases e1 : x = a
        · refine .inl ⟨e1, ?_⟩
          subst e1
          rw [ga] at hx
          subst hx
          rcases h.2 b gb with h | h
          · exact h
          · exact (hne h.symm).elim
        · by_cases e2 : x = b
          · subst e2
            rw [gb] at hx
            subst hx
            rcases h.2 a ga with h | h
            · exact .inr (.inl ⟨rfl, h⟩)
            · exact (hne h).elim
          · exact .inr (.inr ⟨e1, e2⟩)
end Go.Proofs.YtoffehihicabcaaDoor.T
end
section
/- Sets of nodes as numbers: how many they have, what is connected with them, the neighbours of a node at its turn. -/
set_option linter.unusedVariables false
namespace Go.Proofs.YtoffehihicabcaaDoor.T
open Go.RowKit Go.Proofs.YtoffehihicabcaaDoorW.PrintWords Go.Proofs.YtoffehihicabcaaDoorW.PrintLast Go.Proofs.YtoffehihicabcaaDoorW.PrintMore

/-- The set of the numbers below n with a property. -/
noncomputable def ofSet (P : Nat → Prop) : Nat → Nat
  | 0 => 0
  | d + 1 => ofSet P d ||| (@ite _ (P d) (Classical.propDecidable _) (2 ^ d) 0)
theorem ofSet_bit (P : Nat → Prop) : ∀ n j, bset (ofSet P n) j ↔ j < n ∧ P j
  | 0, j => by simp [ofSet, bset]
  | d + 1, j => by
    have ih := ofSet_bit P d j
    unfold bset at *
    simp only [ofSet, Nat.testBit_or, Bool.or_eq_true, ih]
    by_cases h : P d
    · rw [if_pos h, Nat.testBit_two_pow, decide_eq_true_eq]
      constructor
      · rintro (h1 | h1)
        · exact ⟨by omega, h1.2⟩
        · subst h1; exact ⟨by omega, h⟩
      · rintro ⟨h1, h2⟩
        by_cases e : d = j
        · exact .inr e
        · exact .inl ⟨by omega, h2⟩
    · rw [if_neg h]
      simp
      intro h1
      constructor
      · intro _; omega
      · intro _
        by_cases e : j = d
        · subst e; exact (h h1).elim
        · omega
theorem ofSet_lt (P : Nat → Prop) (n : Nat) : ofSet P n < 2 ^ n := lt_of_bits fun j hj => ((ofSet_bit P n j).1 hj).1
theorem eq_ofSet {P : Nat → Prop} {n x : Nat} (hx : x < 2 ^ n) (h : ∀ j, bset x j ↔ P j) : x = ofSet P n :=
  eq_of_bits fun j => by
    have := ofSet_bit P n j
    unfold bset at *
    rw [this, ← h j]
    exact ⟨fun hb => ⟨bit_lt hx hb, hb⟩, fun hb => hb.2⟩

/-- How many elements below n a set has. -/
def pc (x : Nat) : Nat → Nat
  | 0 => 0
  | d + 1 => pc x d + (x.testBit d).toNat
theorem pc_le (x : Nat) : ∀ n, pc x n ≤ n
  | 0 => Nat.le_refl _
  | d + 1 => by have := pc_le x d; simp only [pc]; cases x.testBit d <;> simp <;> omega
theorem pc_mono {x y : Nat} : ∀ n, (∀ j, j < n → x.testBit j = true → y.testBit j = true) → pc x n ≤ pc y n
  | 0, _ => Nat.le_refl _
  | d + 1, h => by
    have ih := pc_mono d (fun j hj => h j (by omega))
    have := h d (by omega)
    simp only [pc]
    cases hx : x.testBit d <;> cases hy : y.testBit d <;> simp_all <;> omega
theorem pc_lt {x y : Nat} (i : Nat) : ∀ n, (∀ j, j < n → x.testBit j = true → y.testBit j = true) → i < n → x.testBit i = false → y.testBit i = true → pc x n < pc y n
  | 0, _, hi, _, _ => by omega
  | d + 1, h, hi, h1, h2 => by
    simp only [pc]
    by_cases e : i = d
    · subst e
      have ih := pc_mono i (fun j hj => h j (by omega))
      rw [h1, h2]; simp; omega
    · have ih := pc_lt i d (fun j hj => h j (by omega)) (by omega) h1 h2
      have := h d (by omega)
      cases hx : x.testBit d <;> cases hy : y.testBit d <;> simp_all <;> omega
/-- The elements below n. -/
def els (x : Nat) (n : Nat) : List Nat := (List.range n).filter fun i => x.testBit i
theorem els_length (x : Nat) : ∀ n, (els x n).length = pc x n
  | 0 => rfl
  | d + 1 => by
    have ih := els_length x d
    unfold els at *
    rw [List.range_succ, List.filter_append, List.length_append, ih]
    simp only [pc]
    cases h : x.testBit d <;> simp [h]
theorem mem_els {x n j : Nat} : j ∈ els x n ↔ j < n ∧ x.testBit j = true := by unfold els; simp
theorem els_nodup (x n : Nat) : (els x n).Nodup := List.Pairwise.filter _ List.nodup_range
theorem nodup_le {l m : List Nat} (h : l.Nodup) (hs : ∀ x ∈ l, x ∈ m) : l.length ≤ m.length := by
  induction l generalizing m with
  | nil => simp
  | cons a l ih =>
    obtain ⟨h1, h2⟩ := List.nodup_cons.1 h
    have ha := hs a List.mem_cons_self
    have := ih (m := m.erase a) h2 (fun x hx => by
      have hxa : x ≠ a := fun e => h1 (e ▸ hx)
      exact (List.mem_erase_of_ne hxa).2 (hs x (List.mem_cons_of_mem _ hx)))
    rw [List.length_erase_of_mem ha] at this
    have : 0 < m.length := List.length_pos_of_mem ha
    simp only [List.length_cons]
    omega
theorem atMost_pc {x n k : Nat} (hx : x < 2 ^ n) : AtMost k (bset x) ↔ pc x n ≤ k := by
  rw [← els_length]
  constructor
  · rintro ⟨l, hl, h⟩
    exact Nat.le_trans (nodup_le (els_nodup x n) fun j hj => h j (mem_els.1 hj).2) hl
  · intro h
    exact ⟨els x n, h, fun j hj => mem_els.2 ⟨bit_lt hx hj, hj⟩⟩

/-- What is connected with s within w, as a set. -/
noncomputable def conset (G : List Nat) (s w : Nat) : Nat := ofSet (Con (Adj G) (bset w) (bset s)) G.length
theorem Con.inside {adj : Nat → Nat → Prop} {w s : Nat → Prop} {u : Nat} (h : Con adj w s u) : s u ∨ w u := by
  cases h with
  | base h => exact .inl h
  | step _ _ h => exact .inr h
theorem Con.mono {adj : Nat → Nat → Prop} {w s w' s' : Nat → Prop} (hw : ∀ u, w u → w' u) (hs : ∀ u, s u → s' u) {u : Nat} (h : Con adj w s u) : Con adj w' s' u := by
  induction h with
  | base h => exact .base (hs _ h)
  | step _ a h ih => exact .step ih a (hw _ h)
theorem conset_bit {m : Nat} {G : List Nat} (hG : Gr m G) {s : Nat} (w : Nat) (hs : s < 2 ^ G.length) (j : Nat) : bset (conset G s w) j ↔ Con (Adj G) (bset w) (bset s) j := by
  unfold conset
  rw [ofSet_bit]
  refine ⟨fun h => h.2, fun h => ⟨?_, h⟩⟩
  cases h with
  | base h => exact bit_lt hs h
  | step _ a _ => exact hG.adj_lt a
theorem conset_lt (G : List Nat) (s w : Nat) : conset G s w < 2 ^ G.length := ofSet_lt _ _
/-- A set that has s and is closed, and has nothing else, is that. -/
theorem conset_eq {m : Nat} {G : List Nat} (hG : Gr m G) {s w x : Nat} (hs : s < 2 ^ G.length) (hx : x < 2 ^ G.length) (h1 : ∀ j, bset s j → bset x j)
    (h2 : ∀ j, bset x j → Con (Adj G) (bset w) (bset s) j) (h3 : ∀ i j, bset x i → Adj G i j → bset w j → bset x j) : x = conset G s w :=
  eq_ofSet hx fun j => ⟨h2 j, fun h => by
    induction h with
    | base h => exact h1 _ h
    | step _ a h ih => exact h3 _ _ ih a h⟩

/-- The neighbours that v has at its turn, as a set: the program's way to tell them. -/
noncomputable def nbset (G : List Nat) (gone v : Nat) : Nat := diff (diff (Around G (conset G (2 ^ v) (gone ||| 2 ^ v))) gone) (2 ^ v)
theorem two_pow_bit (v j : Nat) : bset (2 ^ v) j ↔ j = v := by
  unfold bset; rw [Nat.testBit_two_pow, decide_eq_true_eq]; exact ⟨fun h => h.symm, fun h => h.symm⟩
theorem diff_bset (a b j : Nat) : bset (diff a b) j ↔ bset a j ∧ ¬ bset b j := by
  unfold bset; rw [diff_testBit]; cases a.testBit j <;> cases b.testBit j <;> simp
theorem or_bset (a b j : Nat) : bset (a ||| b) j ↔ bset a j ∨ bset b j := by unfold bset; simp
theorem and_bset (a b j : Nat) : bset (a &&& b) j ↔ bset a j ∧ bset b j := by unfold bset; simp
theorem nbset_bit {m : Nat} {G : List Nat} (hG : Gr m G) {gone v : Nat} (hv : v < G.length) (j : Nat) : bset (nbset G gone v) j ↔ Nb (Adj G) (bset gone) v j := by
  have hp : 2 ^ v < 2 ^ G.length := Nat.pow_lt_pow_right (by omega) hv
  unfold nbset
  rw [diff_bset, diff_bset, two_pow_bit]
  have h1 : bset (Around G (conset G (2 ^ v) (gone ||| 2 ^ v))) j ↔ Way (Adj G) (bset gone) v j := by
    have : bset (Around G (conset G (2 ^ v) (gone ||| 2 ^ v))) j ↔ ∃ i, Con (Adj G) (bset (gone ||| 2 ^ v)) (bset (2 ^ v)) i ∧ Adj G i j := by
      unfold bset at *
      rw [Around_bit hG]
      exact ⟨fun ⟨i, h1, h2⟩ => ⟨i, (conset_bit hG _ hp i).1 h1, h2⟩, fun ⟨i, h1, h2⟩ => ⟨i, (conset_bit hG _ hp i).2 h1, h2⟩⟩
    rw [this]
    constructor
    · rintro ⟨i, hi, ha⟩
      have key : ∀ i, Con (Adj G) (bset (gone ||| 2 ^ v)) (bset (2 ^ v)) i → i = v ∨ (Way (Adj G) (bset gone) v i ∧ bset gone i) := by
        intro i hi
        induction hi with
        | base h => exact .inl ((two_pow_bit v _).1 h)
        | @step x u _ a h ih =>
          by_cases e : u = v
          · exact .inl e
          · have hg : bset gone u := by
              rcases (or_bset _ _ _).1 h with h | h
              · exact h
              · exact (e ((two_pow_bit v u).1 h)).elim
            refine .inr ⟨?_, hg⟩
            rcases ih with ih | ih
            · subst ih; exact .one a
            · exact .more ih.1 ih.2 a
      rcases key i hi with h | h
      · subst h; exact .one ha
      · exact .more h.1 h.2 ha
    · intro h
      have key : ∀ x, Way (Adj G) (bset gone) v x → bset gone x → Con (Adj G) (bset (gone ||| 2 ^ v)) (bset (2 ^ v)) x := by
        intro x hx
        induction hx with
        | one a => intro hg; exact .step (.base ((two_pow_bit v v).2 rfl)) a ((or_bset _ _ _).2 (.inl hg))
        | more _ hS a ih => intro hg; exact .step (ih hS) a ((or_bset _ _ _).2 (.inl hg))
      cases h with
      | one a => exact ⟨v, .base ((two_pow_bit v v).2 rfl), a⟩
      | more hx hS a => exact ⟨_, key _ hx hS, a⟩
  rw [h1]
  unfold Nb
  exact ⟨fun ⟨⟨a, b⟩, c⟩ => ⟨a, b, c⟩, fun ⟨a, b, c⟩ => ⟨⟨a, b⟩, c⟩⟩
theorem nbset_lt {m : Nat} {G : List Nat} (hG : Gr m G) (gone v : Nat) : nbset G gone v < 2 ^ G.length :=
  Nat.lt_of_le_of_lt (diff_le _ _) (Nat.lt_of_le_of_lt (diff_le _ _) (Around_lt hG _))
end Go.Proofs.YtoffehihicabcaaDoor.T
end
section
/- The width of a graph: the least k with which all nodes can be eliminated; its step from a set to the set without a node. -/
set_option linter.unusedVariables false
namespace Go.Proofs.YtoffehihicabcaaDoor.T
open Go.RowKit Go.Proofs.YtoffehihicabcaaDoorW.PrintWords Go.Proofs.YtoffehihicabcaaDoorW.PrintLast Go.Proofs.YtoffehihicabcaaDoorW.PrintMore

def ElimG (G : List Nat) (k S : Nat) : Prop := Elim (fun u => u < G.length) (Adj G) k (bset S)
theorem elimG_zero (G : List Nat) (k : Nat) : ElimG G k 0 := Elim.nil.ext fun u => by simp [bset]
theorem elimG_step {m : Nat} {G : List Nat} (hG : Gr m G) {k S : Nat} (hS : S < 2 ^ G.length) (h0 : S ≠ 0) :
    ElimG G k S ↔ ∃ v, bset S v ∧ ElimG G k (diff S (2 ^ v)) ∧ pc (nbset G (diff S (2 ^ v)) v) G.length ≤ k := by
  have nb : ∀ v, bset S v → (AtMost k (Nb (Adj G) (bset (diff S (2 ^ v))) v) ↔ pc (nbset G (diff S (2 ^ v)) v) G.length ≤ k) := fun v hv => by
    rw [← atMost_pc (nbset_lt hG _ _)]
    have e : bset (nbset G (diff S (2 ^ v)) v) = Nb (Adj G) (bset (diff S (2 ^ v))) v := funext fun j => propext (nbset_bit hG (bit_lt hS hv) j)
    rw [e]
  constructor
  · intro h
    unfold ElimG at h
    generalize hT : bset S = T at h
    cases h with
    | nil =>
      exfalso
      apply h0
      apply Nat.eq_of_testBit_eq
      intro i
      have : ¬ bset S i := by rw [hT]; exact id
      unfold bset at this
      simpa using this
    | @snoc S' v h1 hv hs ha =>
      have hv' : bset S v := by rw [hT]; exact .inr rfl
      have e : S' = bset (diff S (2 ^ v)) := funext fun u => propext (by
        rw [diff_bset, hT, two_pow_bit]
        constructor
        · intro h; exact ⟨.inl h, fun e => hs (e ▸ h)⟩
        · rintro ⟨h | h, h'⟩
          · exact h
          · exact (h' h).elim)
      subst e
      exact ⟨v, by rw [← hT]; exact hv', h1, (nb v hv').1 ha⟩
  · rintro ⟨v, hv, h1, h2⟩
    refine (Elim.snoc v h1 (bit_lt hS hv) (fun h => ?_) ((nb v hv).2 h2)).ext fun u => ?_
    · rw [diff_bset] at h
      exact h.2 ((two_pow_bit v v).2 rfl)
    · rw [diff_bset, two_pow_bit]
      constructor
      · rintro (h | h)
        · exact h.1
        · subst h; exact hv
      · intro h
        by_cases e : u = v
        · exact .inr e
        · exact .inl ⟨h, e⟩
theorem diff_lt {S v : Nat} (h : bset S v) : diff S (2 ^ v) < S := by
  have h1 := diff_le S (2 ^ v)
  have h2 : diff S (2 ^ v) ≠ S := fun e => by
    have := (diff_bset S (2 ^ v) v).1 (by rw [e]; exact h)
    exact this.2 ((two_pow_bit v v).2 rfl)
  omega
theorem some_bit {S : Nat} (h : S ≠ 0) : ∃ v, bset S v := by
  apply Classical.byContradiction
  intro hn
  apply h
  apply Nat.eq_of_testBit_eq
  intro i
  have : ¬ bset S i := fun hi => hn ⟨i, hi⟩
  unfold bset at this
  simpa using this
theorem elimG_big {m : Nat} {G : List Nat} (hG : Gr m G) {k : Nat} (hk : G.length ≤ k) : ∀ S, S < 2 ^ G.length → ElimG G k S := by
  intro S
  induction S using Nat.strongRecOn with
  | _ S ih =>
    intro hS
    by_cases h0 : S = 0
    · subst h0; exact elimG_zero G k
    · obtain ⟨v, hv⟩ := some_bit h0
      have hd := diff_lt hv
      exact (elimG_step hG hS h0).2 ⟨v, hv, ih _ hd (by omega), Nat.le_trans (pc_le _ _) hk⟩
theorem pc_more {x n : Nat} (hx : x < 2 ^ n) : ∀ d, pc x (n + d) = pc x n
  | 0 => rfl
  | d + 1 => by
    rw [← Nat.add_assoc]
    simp only [pc]
    rw [pc_more hx d, testBit_ge hx (by omega)]
    rfl
theorem pc_nine {x n : Nat} (hx : x < 2 ^ n) (hn : n ≤ 9) : pc x 9 = pc x n := by
  have := pc_more hx (9 - n)
  rwa [show n + (9 - n) = 9 by omega] at this

/-- W is the width of G. -/
def IsWidth (G : List Nat) (W : Nat) : Prop := ∀ k, W ≤ k ↔ ElimG G k (2 ^ G.length - 1)
theorem IsWidth.uniq {G : List Nat} {a b : Nat} (h : IsWidth G a) (h' : IsWidth G b) : a = b := by
  have h1 := (h b).2 ((h' b).1 (Nat.le_refl _))
  have h2 := (h' a).2 ((h a).1 (Nat.le_refl _))
  omega
theorem all_bit (n u : Nat) : bset (2 ^ n - 1) u ↔ u < n := by
  unfold bset; rw [Nat.testBit_two_pow_sub_one, decide_eq_true_eq]
theorem elimG_all {G : List Nat} {k : Nat} : ElimG G k (2 ^ G.length - 1) ↔ Elim (fun u => u < G.length) (Adj G) k (fun u => u < G.length) := by
  unfold ElimG
  have e : bset (2 ^ G.length - 1) = fun u => u < G.length := funext fun u => propext (all_bit _ u)
  rw [e]
theorem isWidth_iff {G : List Nat} {W : Nat} : IsWidth G W ↔ ∀ k, W ≤ k ↔ Elim (fun u => u < G.length) (Adj G) k (fun u => u < G.length) :=
  ⟨fun h k => (h k).trans elimG_all, fun h k => (h k).trans elimG_all.symm⟩
theorem width_exists {m : Nat} {G : List Nat} (hG : Gr m G) : ∃ W, IsWidth G W ∧ W ≤ G.length := by
  have h2 := Nat.two_pow_pos G.length
  have hall : ElimG G G.length (2 ^ G.length - 1) := elimG_big hG (Nat.le_refl _) _ (by omega)
  have key : ∀ n, ElimG G n (2 ^ G.length - 1) → ∃ W, IsWidth G W ∧ W ≤ n := by
    intro n
    induction n with
    | zero => intro h; exact ⟨0, fun k => ⟨fun _ => Elim.mono h (Nat.zero_le k), fun _ => Nat.zero_le k⟩, Nat.le_refl _⟩
    | succ n ih =>
      intro h
      by_cases h' : ElimG G n (2 ^ G.length - 1)
      · obtain ⟨W, h1, h2⟩ := ih h'; exact ⟨W, h1, by omega⟩
      · refine ⟨n + 1, fun k => ⟨fun hk => Elim.mono h hk, fun hk => ?_⟩, Nat.le_refl _⟩
        apply Classical.byContradiction
        intro hlt
        exact h' (Elim.mono hk (by omega))
  exact key _ hall
end Go.Proofs.YtoffehihicabcaaDoor.T
end
section
/- A node less, an edge less, two neighbours made one: what becomes of a graph, and of its width. -/
set_option linter.unusedVariables false
namespace Go.Proofs.YtoffehihicabcaaDoor.T
open Go.RowKit Go.Proofs.YtoffehihicabcaaDoorW.PrintWords Go.Proofs.YtoffehihicabcaaDoorW.PrintLast Go.Proofs.YtoffehihicabcaaDoorW.PrintMore

/-- The number that a node has when node v is put back. -/
def up (v u : Nat) : Nat := if u < v then u else u + 1
def down (v u : Nat) : Nat := if u < v then u else u - 1
theorem down_up (v u : Nat) : down v (up v u) = u := by
  unfold down up
  by_cases h : u < v
  · rw [if_pos h, if_pos h]
  · rw [if_neg h, if_neg (by omega)]; omega
theorem up_ne (v u : Nat) : up v u ≠ v := by unfold up; split <;> omega
theorem up_inj (v a b : Nat) (h : up v a = up v b) : a = b := by rw [← down_up v a, h, down_up]
theorem up_onto {v u : Nat} (h : u ≠ v) : up v (down v u) = u := by
  unfold up down
  by_cases h1 : u < v
  · rw [if_pos h1, if_pos h1]
  · rw [if_neg h1, if_neg (by omega)]; omega
theorem up_lt {v u n : Nat} (hv : v < n) : up v u < n ↔ u < n - 1 := by unfold up; split <;> omega
/-- A set without node v, the nodes behind it one place ahead. -/
def delbits (v s : Nat) : Nat := (s &&& (2 ^ v - 1)) ||| (s / 2 ^ (v + 1) * 2 ^ v)
theorem delbits_bit (v s j : Nat) : (delbits v s).testBit j = s.testBit (up v j) := by
  unfold delbits up
  rw [Nat.testBit_or, Nat.testBit_and, Nat.testBit_two_pow_sub_one, Nat.testBit_mul_two_pow, Nat.testBit_div_two_pow]
  by_cases h : j < v
  · rw [if_pos h, decide_eq_true h, decide_eq_false (show ¬ v ≤ j by omega)]; simp
  · rw [if_neg h, decide_eq_false h, decide_eq_true (show v ≤ j by omega), show j - v + (v + 1) = j + 1 by omega]; simp
/-- The rows up to i, without row v. -/
def delTo (G : List Nat) (v : Nat) : Nat → List Nat
  | 0 => []
  | i + 1 => if i = v then delTo G v i else delTo G v i ++ [delbits v (G.getD i 0)]
def del (G : List Nat) (v : Nat) : List Nat := delTo G v G.length
theorem delTo_length (G : List Nat) (v : Nat) : ∀ i, (delTo G v i).length = if i ≤ v then i else i - 1
  | 0 => by simp [delTo]
  | i + 1 => by
    have ih := delTo_length G v i
    unfold delTo
    by_cases h : i = v
    · subst h; rw [if_pos rfl, ih]; simp
    · rw [if_neg h, List.length_append, ih]; simp; split <;> split <;> omega
theorem delTo_get (G : List Nat) (v : Nat) : ∀ i u, u < (delTo G v i).length → (delTo G v i).getD u 0 = delbits v (G.getD (up v u) 0)
  | 0, u, h => by simp [delTo] at h
  | i + 1, u, h => by
    have hl := delTo_length G v i
    have ih := delTo_get G v i u
    unfold delTo at h ⊢
    by_cases e : i = v
    · rw [if_pos e] at h ⊢; exact ih h
    · rw [if_neg e] at h ⊢
      by_cases hu : u < (delTo G v i).length
      · rw [← ih hu]
        simp only [List.getD_eq_getElem?_getD]
        rw [List.getElem?_append_left hu]
      · have hu2 : u = (delTo G v i).length := by simp at h; omega
        simp only [List.getD_eq_getElem?_getD]
        rw [List.getElem?_append_right (by omega), hu2]
        have : up v (delTo G v i).length = i := by
          rw [hl]; unfold up
          by_cases h1 : i ≤ v
          · rw [if_pos h1, if_pos (by omega)]
          · rw [if_neg h1, if_neg (by omega)]; omega
        rw [this]
        simp
theorem del_length {G : List Nat} {v : Nat} (hv : v < G.length) : (del G v).length = G.length - 1 := by
  unfold del; rw [delTo_length, if_neg (by omega)]
theorem del_adj {G : List Nat} {v : Nat} (hv : v < G.length) (u w : Nat) : Adj (del G v) u w ↔ u < G.length - 1 ∧ Adj G (up v u) (up v w) := by
  unfold Adj
  by_cases hu : u < G.length - 1
  · have h := delTo_get G v G.length u (by have := del_length hv; unfold del at this; omega)
    have h' : (del G v).getD u 0 = delbits v (G.getD (up v u) 0) := h
    rw [h', delbits_bit]
    exact ⟨fun h => ⟨hu, h⟩, fun h => h.2⟩
  · rw [getD_out (del G v) u (by rw [del_length hv]; omega)]
    simp [hu]
theorem gr_of {m : Nat} {H : List Nat} (h1 : 1 ≤ H.length) (h2 : H.length ≤ m) (h3 : ∀ u w, Adj H u w → w < H.length ∧ Adj H w u ∧ u ≠ w) : Gr m H where
  pos := h1
  most := h2
  lt := fun i hi => lt_of_bits fun j hj => (h3 i j hj).1
  irr := fun i hi => by
    cases hb : (H.getD i 0).testBit i
    · rfl
    · exact ((h3 i i hb).2.2 rfl).elim
  symm := fun i j hi hj => by
    have a := h3 i j
    have b := h3 j i
    unfold Adj at a b
    cases ha : (H.getD i 0).testBit j <;> cases hb : (H.getD j 0).testBit i <;> simp_all
theorem del_gr {m : Nat} {G : List Nat} (hG : Gr m G) {v : Nat} (hv : v < G.length) (hn : 2 ≤ G.length) : Gr m (del G v) := by
  have hl := del_length hv
  refine gr_of (by omega) (by have := hG.most; omega) fun u w h => ?_
  obtain ⟨hu, ha⟩ := (del_adj hv u w).1 h
  have hw := (up_lt hv).1 (hG.adj_lt ha)
  refine ⟨by omega, (del_adj hv w u).2 ⟨hw, hG.adj_symm ha⟩, fun e => ?_⟩
  subst e
  exact hG.adj_irr ha

abbrev Full (G : List Nat) (k : Nat) : Prop := Elim (fun u => u < G.length) (Adj G) k (fun u => u < G.length)
/-- A part of a graph (by a renaming) has no greater width. -/
theorem full_part {m m' : Nat} {G H : List Nat} (hH : Gr m' H) {k : Nat} (φ ψ : Nat → Nat) (hψ : ∀ u, ψ (φ u) = u) (hφ : ∀ u, u < H.length → φ u < G.length)
    (hadj : ∀ u w, Adj H u w → Adj G (φ u) (φ w)) (h : Full G k) : Full H k :=
  (Elim.part (W := fun u => u < H.length) φ ψ hψ (fun _ _ a => hH.adj_lt a) hadj h).ext fun u => ⟨fun h => h.1, fun h => ⟨h, hφ u h⟩⟩
theorem full_del {m : Nat} {G : List Nat} (hG : Gr m G) {v : Nat} (hv : v < G.length) (hn : 2 ≤ G.length) {k : Nat} (h : Full G k) : Full (del G v) k :=
  full_part (m := m) (del_gr hG hv hn) (up v) (down v) (down_up v) (fun u hu => (up_lt hv).2 (by rw [del_length hv] at hu; exact hu)) (fun u w a => ((del_adj hv u w).1 a).2) h
theorem full_more {m : Nat} {G : List Nat} (hG : Gr m G) {v : Nat} (hv : v < G.length) {k : Nat} (h : Full (del G v) k) : Full G (k + 1) := by
  refine Elim.more_all (W := fun u => u < (del G v).length) v (up v) (up_inj v) (fun u => ?_) (up_ne v) (fun _ _ a => hG.adj_lt a) (fun u w a => ?_) h
  · rw [del_length hv]
    constructor
    · intro hu
      by_cases e : u = v
      · exact .inl e
      · exact .inr ⟨down v u, (up_lt hv).1 (by rw [up_onto e]; exact hu), up_onto e⟩
    · rintro (e | ⟨x, hx, rfl⟩)
      · rw [e]; exact hv
      · exact (up_lt hv).2 hx
  · exact (del_adj hv u w).2 ⟨(up_lt hv).1 (hG.adj_lt' a), a⟩
/-- The widths of two graphs, when what eliminates one eliminates the other. -/
theorem width_le {G H : List Nat} {a b d : Nat} (hG : IsWidth G a) (hH : IsWidth H b) (h : ∀ k, Full G k → Full H (k + d)) : b ≤ a + d :=
  (isWidth_iff.1 hH _).2 (h a ((isWidth_iff.1 hG a).1 (Nat.le_refl _)))

/-- H is a graph whose width is that of G or one less. -/
def Less (G H : List Nat) : Prop := Gr 9 H ∧ (∀ k, Full G k → Full H k) ∧ ∀ k, Full H k → Full G (k + 1)
theorem less_del {G : List Nat} (hG : Gr 9 G) {v : Nat} (hv : v < G.length) (hn : 2 ≤ G.length) : Less G (del G v) :=
  ⟨del_gr hG hv hn, fun _ => full_del hG hv hn, fun _ => full_more hG hv⟩
/-- An edge less. -/
theorem less_cut {G H : List Nat} (hG : Gr 9 G) {a b : Nat} (ha : a < G.length) (hn : 2 ≤ G.length) (hl : H.length = G.length)
    (hadj : ∀ u w, Adj H u w ↔ Adj G u w ∧ ¬ (u = a ∧ w = b) ∧ ¬ (u = b ∧ w = a)) : Less G H := by
  have hH : Gr 9 H := gr_of (by omega) (by have := hG.most; omega) fun u w h => by
    obtain ⟨h1, h2, h3⟩ := (hadj u w).1 h
    exact ⟨by rw [hl]; exact hG.adj_lt h1, (hadj w u).2 ⟨hG.adj_symm h1, fun e => h3 ⟨e.2, e.1⟩, fun e => h2 ⟨e.2, e.1⟩⟩, fun e => by subst e; exact hG.adj_irr h1⟩
  refine ⟨hH, fun k h => full_part (m := 9) hH id id (fun _ => rfl) (fun u hu => by rw [hl] at hu; exact hu) (fun u w a => ((hadj u w).1 a).1) h, fun k h => full_more hG ha ?_⟩
  refine full_part (m := 9) (del_gr hG ha hn) (up a) (down a) (down_up a) (fun u hu => by rw [hl]; exact (up_lt ha).2 (by rw [del_length ha] at hu; exact hu)) (fun u w e => ?_) h
  obtain ⟨h1, h2⟩ := (del_adj ha u w).1 e
  exact (hadj _ _).2 ⟨h2, fun e => up_ne a u e.1, fun e => up_ne a w e.2⟩
/-- Two neighbours made one: J is G with b's neighbours as a's, too. -/
theorem less_join {G J : List Nat} (hG : Gr 9 G) {a b : Nat} (hab : Adj G a b) (hl : J.length = G.length)
    (hadj : ∀ u w, Adj J u w ↔ Adj G u w ∨ (w = a ∧ u ≠ a ∧ Adj G b u) ∨ (u = a ∧ w ≠ a ∧ Adj G b w)) : Less G (del J b) := by
  have ha := hG.adj_lt' hab
  have hb := hG.adj_lt hab
  have hne : a ≠ b := fun e => by subst e; exact hG.adj_irr hab
  have hn : 2 ≤ G.length := by omega
  have hJ : Gr 9 J := gr_of (by omega) (by have := hG.most; omega) fun u w h => by
    rcases (hadj u w).1 h with h1 | ⟨h1, h2, h3⟩ | ⟨h1, h2, h3⟩
    · exact ⟨by rw [hl]; exact hG.adj_lt h1, (hadj w u).2 (.inl (hG.adj_symm h1)), fun e => by subst e; exact hG.adj_irr h1⟩
    · subst h1; exact ⟨by omega, (hadj _ _).2 (.inr (.inr ⟨rfl, h2, h3⟩)), h2⟩
    · subst h1; exact ⟨by rw [hl]; exact hG.adj_lt h3, (hadj _ _).2 (.inr (.inl ⟨rfl, h2, h3⟩)), fun e => h2 e.symm⟩
  have hb' : b < J.length := by omega
  have hD := del_gr hJ hb' (by omega)
  refine ⟨hD, fun k h => ?_, fun k h => full_more hG hb ?_⟩
  · have h1 := Elim.contract (adj' := fun u w => u ≠ b ∧ w ≠ b ∧ Adj J u w) a b hab (hG.adj_symm hab) hne ha (fun u w e => by
      obtain ⟨e1, e2, e3⟩ := e
      refine ⟨fun e => by subst e; exact hJ.adj_irr e3, ?_⟩
      have gu : ∀ x, x ≠ b → glue a b x = x := fun x h => by unfold glue; rw [if_neg h]
      have gb : glue a b b = a := by unfold glue; rw [if_pos rfl]
      rcases (hadj u w).1 e3 with h1 | ⟨h1, h2, h3⟩ | ⟨h1, h2, h3⟩
      · exact ⟨u, w, gu u e1, gu w e2, h1⟩
      · subst h1; exact ⟨u, b, gu u e1, gb, hG.adj_symm h3⟩
      · subst h1; exact ⟨b, w, gb, gu w e2, h3⟩) h
    refine (Elim.part (W := fun u => u < (del J b).length) (up b) (down b) (down_up b) (fun _ _ e => hD.adj_lt e) (fun u w e => ⟨up_ne b u, up_ne b w, ((del_adj hb' u w).1 e).2⟩) h1).ext fun u => ⟨fun h => h.1, fun h => ⟨h, up_ne b u, fun x hx => ?_⟩⟩
    by_cases e : x = b
    · rw [e]; exact hb
    · unfold glue at hx
      rw [if_neg e] at hx
      rw [hx]
      exact (up_lt hb).2 (by rw [del_length hb'] at h; omega)
  · refine full_part (m := 9) (del_gr hG hb hn) id id (fun _ => rfl) (fun u hu => by rw [del_length hb] at hu; show u < _; rw [del_length hb']; omega) (fun u w e => ?_) h
    obtain ⟨h1, h2⟩ := (del_adj hb u w).1 e
    exact (del_adj hb' u w).2 ⟨by omega, (hadj _ _).2 (.inl h2)⟩
end Go.Proofs.YtoffehihicabcaaDoor.T
end
section
-- by ownprint.py (wip/tool), over the kit's print
namespace Go.Proofs.YtoffehihicabcaaDoor.X
open Go.RowKit Go.Proofs.YtoffehihicabcaaDoorW.PrintWords Go.Proofs.YtoffehihicabcaaDoorW.PrintLast Go.Proofs.YtoffehihicabcaaDoorW.PrintMore
attribute [local go_sem] max2_int min2_int max_two min_two max_three min_three max_four min_four
set_option linter.unusedVariables false
set_option linter.unusedSimpArgs false

/-! ### lampblackref01_IsGraph: function 65 -/
mutual
def lampblackref01_IsGraph.l0 : Nat → List Int → Int → List Int → Int → Int → Option (Bool)
  | 0, _, _, _, _, _ => none
  | k + 1, x0, x1, x8, x9, x10 => if x10 < x9 then (if 0 ≤ x10 then (if x10 < (x8.length : Int) then (if (x0.length : Int) > x1 then (lampblackref01_IsGraph.j1 k x0 x1 x10 (rd x8 x10) x8 x9 x10 true) else (if (rd x8 x10) < 0 then (lampblackref01_IsGraph.j1 k x0 x1 x10 (rd x8 x10) x8 x9 x10 true) else (if (rd x8 x10) ≥ (shl .i64 1 (x0.length : Int)) then (lampblackref01_IsGraph.j1 k x0 x1 x10 (rd x8 x10) x8 x9 x10 true) else (lampblackref01_IsGraph.j1 k x0 x1 x10 (rd x8 x10) x8 x9 x10 ((Go.bits .and .i64 (shr .i64 (rd x8 x10) x10) 1) == 1))))) else (none)) else (none)) else (if (x0.length : Int) ≥ 1 then (some (decide ((x0.length : Int) ≤ x1))) else (some false))
def lampblackref01_IsGraph.j1 : Nat → List Int → Int → Int → Int → List Int → Int → Int → Bool → Option (Bool)
  | 0, _, _, _, _, _, _, _, _ => none
  | k + 1, x0, x1, x5, x6, x8, x9, x10, x36 => if x36 = true then (some false) else (lampblackref01_IsGraph.l1 k x0 x1 x5 x6 x8 x9 x10 (x0.length : Int) 0)
def lampblackref01_IsGraph.l1 : Nat → List Int → Int → Int → Int → List Int → Int → Int → Int → Int → Option (Bool)
  | 0, _, _, _, _, _, _, _, _, _ => none
  | k + 1, x0, x1, x5, x6, x8, x9, x10, x38, x39 => if x39 < x38 then (if 0 ≤ x39 then (if x39 < (x0.length : Int) then (if 0 ≤ x5 then (if (Go.bits .and .i64 (shr .i64 x6 x39) 1) = (Go.bits .and .i64 (shr .i64 (rd x0 x39) x5) 1) then (lampblackref01_IsGraph.l1 k x0 x1 x5 x6 x8 x9 x10 x38 (wrap64 (x39 + 1))) else (some false)) else (none)) else (none)) else (none)) else (lampblackref01_IsGraph.l0 k x0 x1 x8 x9 (wrap64 (x10 + 1)))
end
def lampblackref01_IsGraph.f (k : Nat) (l0 : List Int) (a1 : Int) : Option (Bool) := lampblackref01_IsGraph.l0 k l0 a1 l0 (l0.length : Int) 0
theorem lampblackref01_IsGraph.mono_l : ∀ k, (∀ y0 y1 y2 y3 y4, LeO (lampblackref01_IsGraph.l0 k y0 y1 y2 y3 y4) (lampblackref01_IsGraph.l0 (k + 1) y0 y1 y2 y3 y4)) ∧ (∀ y0 y1 y2 y3 y4 y5 y6 y7, LeO (lampblackref01_IsGraph.j1 k y0 y1 y2 y3 y4 y5 y6 y7) (lampblackref01_IsGraph.j1 (k + 1) y0 y1 y2 y3 y4 y5 y6 y7)) ∧ (∀ y0 y1 y2 y3 y4 y5 y6 y7 y8, LeO (lampblackref01_IsGraph.l1 k y0 y1 y2 y3 y4 y5 y6 y7 y8) (lampblackref01_IsGraph.l1 (k + 1) y0 y1 y2 y3 y4 y5 y6 y7 y8))
  | 0 => ⟨fun _ _ _ _ _ r h => by simp [lampblackref01_IsGraph.l0] at h, fun _ _ _ _ _ _ _ _ r h => by simp [lampblackref01_IsGraph.j1] at h, fun _ _ _ _ _ _ _ _ _ r h => by simp [lampblackref01_IsGraph.l1] at h⟩
  | k + 1 => by
    obtain ⟨ih0, ih1, ih2⟩ := lampblackref01_IsGraph.mono_l k
    refine ⟨?_, ?_, ?_⟩
    · intro y0 y1 y2 y3 y4
      unfold lampblackref01_IsGraph.l0
      repeat' first
      | (with_reducible exact ih0 _ _ _ _ _)
      | (with_reducible exact ih1 _ _ _ _ _ _ _ _)
      | (with_reducible exact ih2 _ _ _ _ _ _ _ _ _)
      | (with_reducible exact LeO.refl _)
      | (with_reducible exact LeO.none _)
      | (with_reducible refine LeO.ite ?_ ?_)
      | (with_reducible refine LeO.bind ?_ (fun _ => ?_))
      | exact ih0 _ _ _ _ _
      | exact ih1 _ _ _ _ _ _ _ _
      | exact ih2 _ _ _ _ _ _ _ _ _
      | exact LeO.none _
      | refine LeO.ite ?_ ?_
      | refine LeO.bind ?_ (fun _ => ?_)
    · intro y0 y1 y2 y3 y4 y5 y6 y7
      unfold lampblackref01_IsGraph.j1
      repeat' first
      | (with_reducible exact ih0 _ _ _ _ _)
      | (with_reducible exact ih1 _ _ _ _ _ _ _ _)
      | (with_reducible exact ih2 _ _ _ _ _ _ _ _ _)
      | (with_reducible exact LeO.refl _)
      | (with_reducible exact LeO.none _)
      | (with_reducible refine LeO.ite ?_ ?_)
      | (with_reducible refine LeO.bind ?_ (fun _ => ?_))
      | exact ih0 _ _ _ _ _
      | exact ih1 _ _ _ _ _ _ _ _
      | exact ih2 _ _ _ _ _ _ _ _ _
      | exact LeO.none _
      | refine LeO.ite ?_ ?_
      | refine LeO.bind ?_ (fun _ => ?_)
    · intro y0 y1 y2 y3 y4 y5 y6 y7 y8
      unfold lampblackref01_IsGraph.l1
      repeat' first
      | (with_reducible exact ih0 _ _ _ _ _)
      | (with_reducible exact ih1 _ _ _ _ _ _ _ _)
      | (with_reducible exact ih2 _ _ _ _ _ _ _ _ _)
      | (with_reducible exact LeO.refl _)
      | (with_reducible exact LeO.none _)
      | (with_reducible refine LeO.ite ?_ ?_)
      | (with_reducible refine LeO.bind ?_ (fun _ => ?_))
      | exact ih0 _ _ _ _ _
      | exact ih1 _ _ _ _ _ _ _ _
      | exact ih2 _ _ _ _ _ _ _ _ _
      | exact LeO.none _
      | refine LeO.ite ?_ ?_
      | refine LeO.bind ?_ (fun _ => ?_)
theorem lampblackref01_IsGraph.mono : ∀ a0 a1 k, LeO (lampblackref01_IsGraph.f k a0 a1) (lampblackref01_IsGraph.f (k + 1) a0 a1) := by
  intro a0 a1 k
  obtain ⟨ih0, ih1, ih2⟩ := lampblackref01_IsGraph.mono_l k
  unfold lampblackref01_IsGraph.f
  repeat' first
      | (with_reducible exact ih0 _ _ _ _ _)
      | (with_reducible exact ih1 _ _ _ _ _ _ _ _)
      | (with_reducible exact ih2 _ _ _ _ _ _ _ _ _)
      | (with_reducible exact LeO.refl _)
      | (with_reducible exact LeO.none _)
      | (with_reducible refine LeO.ite ?_ ?_)
      | (with_reducible refine LeO.bind ?_ (fun _ => ?_))
      | exact ih0 _ _ _ _ _
      | exact ih1 _ _ _ _ _ _ _ _
      | exact ih2 _ _ _ _ _ _ _ _ _
      | exact LeO.none _
      | refine LeO.ite ?_ ?_
      | refine LeO.bind ?_ (fun _ => ?_)
set_option maxHeartbeats 8000000 in
set_option maxRecDepth 100000 in
theorem lampblackref01_IsGraph.calls (k : Nat) (A0 : Option Addr) (c0 : Nat) (l0 : List Int) (a1 : Int) (r : Bool) (w : World) (hr0 : Kd.C (Kd.int .i64) w A0 l0.length l0) (hc0 : l0.length ≤ c0) (h : lampblackref01_IsGraph.f k l0 a1 = some r) :
    Calls Tryd.prog 65 #[.slice A0 l0.length c0, .int .i64 a1] w fun e w' => e = .returned (.bool r) ∧ Drawn0 w w' := by
  have HR0 := Aside0.mk hr0
  have HC0 := Aside0.mk hc0
  clear hr0 hc0
  have H : (lampblackref01_IsGraph.l0 k l0 a1 l0 (l0.length : Int) 0) = some r := h
  clear h
  have H' := Aside0.mk H
  clear H
  go_enter Tryd.func65, Tryd.ntmps65
  go_wp2
  repeat (go_quiet (fail); try go_wp2)
  go_loopg [10] k (fun kq v10 w' => ∃ (x10_1 : Int), v10 = .int .i64 x10_1 ∧ Aside0 (lampblackref01_IsGraph.l0 kq l0 a1 l0 (l0.length : Int) x10_1 = some r) ∧ Aside0 (kq ≤ k) ∧ Drawn0 w w')
  case atStart => exact ⟨(0), (by first | rfl | (simp; done) | (simp [*]; done)), H', ⟨Nat.le_refl _⟩, by repeat (first | exact Drawn0.refl _ | apply Drawn0.step)⟩
  case round =>
    clear H'
    try clear p2
    obtain ⟨x10_1, rfl, HA, HK1, ⟨m1, rfl⟩⟩ := hrel
    cases gk with
    | zero => exact absurd HA.out (by simp [lampblackref01_IsGraph.l0])
    | succ k1 =>
      have H := HA.out
      clear HA
      simp only [lampblackref01_IsGraph.l0] at H
      by_cases c3 : x10_1 < (l0.length : Int)
      · rw [if_pos c3] at H
        have c3b0 : decide (x10_1 < (l0.length : Int)) = true := decide_eq_true c3
        clear c3
        by_cases c4 : 0 ≤ x10_1
        · rw [if_pos c4] at H
          have c4b0 : decide (0 ≤ x10_1) = true := decide_eq_true c4
          clear c4
          by_cases c5 : x10_1 < (l0.length : Int)
          · rw [if_pos c5] at H
            have c5b0 : decide (x10_1 < (l0.length : Int)) = true := decide_eq_true c5
            clear c5
            have HC6 := Aside0.mk H
            clear H
            have p215 : 0 ≤ (x10_1 : Int) := of_decide_eq_true (by first | (with_reducible assumption) | assumption)
            have q215 : x10_1 < (l0.length : Int) := of_decide_eq_true (by first | (with_reducible assumption) | assumption)
            obtain ⟨ad215, e215, hx215_0⟩ := Kd.at_int HR0.out x10_1 p215 q215
            cases e215
            replace p215 := eq_true p215
            replace q215 := eq_true q215
            go_upto_region 4 with (fail)
            repeat (go_quiet (fail); go_upto_region 4 with (fail))
            go_cut [36] (fun v36 wc => ∃ (kq : Nat) (x36_5 : Bool), v36 = .bool x36_5 ∧ Aside0 (lampblackref01_IsGraph.j1 kq l0 a1 x10_1 (rd l0 x10_1) l0 (l0.length : Int) x10_1 x36_5 = some r) ∧ Aside0 (kq ≤ k1) ∧ Drawn0 w wc)
            case first =>
              have H := HC6.out
              clear HC6
              by_cases c7 : (l0.length : Int) > a1
              · rw [if_pos c7] at H
                have c7b0 : decide (a1 < (l0.length : Int)) = true := decide_eq_true c7
                clear c7
                (first | rw [c7b0] | (simp only [i64_w, i32_w]; rw [c7b0]) | skip)
                have H' := Aside0.mk H
                clear H
                go_wp2
                repeat (go_quiet (fail); try go_wp2)
                go_meet
                case rel => exact ⟨_, (true), (by first | rfl | (simp; done) | (simp [*]; done)), H', ⟨by have := HK1.out; first | omega | exact Nat.le_refl _⟩, by repeat (first | exact Drawn0.refl _ | apply Drawn0.step)⟩
              · rw [if_neg c7] at H
                have c7b0 : decide (a1 < (l0.length : Int)) = false := decide_eq_false c7
                clear c7
                (first | rw [c7b0] | (simp only [i64_w, i32_w]; rw [c7b0]) | skip)
                by_cases c8 : (rd l0 x10_1) < 0
                · rw [if_pos c8] at H
                  have c8b0 : decide ((rd l0 x10_1) < 0) = true := decide_eq_true c8
                  clear c8
                  have H' := Aside0.mk H
                  clear H
                  go_wp2
                  repeat (go_quiet (fail); try go_wp2)
                  go_meet
                  case rel => exact ⟨_, (true), (by first | rfl | (simp; done) | (simp [*]; done)), H', ⟨by have := HK1.out; first | omega | exact Nat.le_refl _⟩, by repeat (first | exact Drawn0.refl _ | apply Drawn0.step)⟩
                · rw [if_neg c8] at H
                  have c8b0 : decide ((rd l0 x10_1) < 0) = false := decide_eq_false c8
                  clear c8
                  obtain ⟨ji9, hji9⟩ : ∃ j_ : Int, (shl .i64 1 (l0.length : Int)) = j_ := ⟨_, rfl⟩
                  replace H : (if (rd l0 x10_1) ≥ (ji9) then (lampblackref01_IsGraph.j1 k1 l0 a1 x10_1 (rd l0 x10_1) l0 (l0.length : Int) x10_1 true) else (lampblackref01_IsGraph.j1 k1 l0 a1 x10_1 (rd l0 x10_1) l0 (l0.length : Int) x10_1 ((Go.bits .and .i64 (shr .i64 (rd l0 x10_1) x10_1) 1) == 1))) = some r := by first | (rw [hji9] at H; exact H) | (simp only [hji9] at H ⊢; exact H)
                  have hji9_ : (IntKind.i64.wrap (1 * 2 ^ min (l0.length : Int).toNat 64)) = ji9 := hji9
                  have hji9z : (l0.length : Int) ≤ 64 → (IntKind.i64.wrap (1 * 2 ^ (l0.length : Int).toNat)) = ji9 := shl_small hji9
                  have hji9p : (IntKind.i64.wrap (1 * 2 ^ min l0.length 64)) = ji9 := hji9_
                  have hji9q : (l0.length : Int) ≤ 64 → (IntKind.i64.wrap (1 * 2 ^ l0.length)) = ji9 := hji9z
                  have hji9r : (IntKind.i64.wrap (2 ^ min l0.length 64)) = ji9 := by have h_ := hji9p; rw [Int.one_mul] at h_; exact h_
                  have hji9s : (l0.length : Int) ≤ 64 → (IntKind.i64.wrap (2 ^ l0.length)) = ji9 := fun hle_ => by have h_ := hji9q hle_; rw [Int.one_mul] at h_; exact h_
                  have hji9u : (IntKind.i64.wrap (2 ^ min (l0.length : Int).toNat 64)) = ji9 := by have h_ := hji9_; rw [Int.one_mul] at h_; exact h_
                  have hji9v : (l0.length : Int) ≤ 64 → (IntKind.i64.wrap (2 ^ (l0.length : Int).toNat)) = ji9 := fun hle_ => by have h_ := hji9z hle_; rw [Int.one_mul] at h_; exact h_
                  have hji9y : (wrap64 (1 * 2 ^ min (l0.length : Int).toNat 64)) = ji9 := (i64_w _).symm.trans hji9_
                  have hji9x : (l0.length : Int) ≤ 64 → (wrap64 (1 * 2 ^ (l0.length : Int).toNat)) = ji9 := fun h_ => (i64_w _).symm.trans (hji9z h_)
                  by_cases c10 : (rd l0 x10_1) ≥ (ji9)
                  · rw [if_pos c10] at H
                    have c10b0 : decide ((ji9) ≤ (rd l0 x10_1)) = true := decide_eq_true c10
                    clear c10
                    have H' := Aside0.mk H
                    clear H
                    go_wp2
                    repeat (go_quiet (fail); try go_wp2)
                    go_meet
                    case rel => exact ⟨_, (true), (by first | rfl | (simp; done) | (simp [*]; done)), H', ⟨by have := HK1.out; first | omega | exact Nat.le_refl _⟩, by repeat (first | exact Drawn0.refl _ | apply Drawn0.step)⟩
                  · rw [if_neg c10] at H
                    have c10b0 : decide ((ji9) ≤ (rd l0 x10_1)) = false := decide_eq_false c10
                    clear c10
                    have c11b0 := eq_true (of_decide_eq_true (by first | (with_reducible assumption) | assumption) : 0 ≤ x10_1)
                    obtain ⟨ji12, hji12⟩ : ∃ j_ : Int, (shr .i64 (rd l0 x10_1) x10_1) = j_ := ⟨_, rfl⟩
                    replace H : (lampblackref01_IsGraph.j1 k1 l0 a1 x10_1 (rd l0 x10_1) l0 (l0.length : Int) x10_1 ((Go.bits .and .i64 (ji12) 1) == 1)) = some r := by first | (rw [hji12] at H; exact H) | (simp only [hji12] at H ⊢; exact H)
                    have hji12_ : ((rd l0 x10_1) / 2 ^ min x10_1.toNat 64) = ji12 := hji12
                    have hji12z : x10_1 ≤ 64 → ((rd l0 x10_1) / 2 ^ x10_1.toNat) = ji12 := shr_small hji12
                    have H' := Aside0.mk H
                    clear H
                    go_wp2
                    repeat (go_quiet (fail); try go_wp2)
                    go_meet
                    case rel => exact ⟨_, (((Go.bits .and .i64 (ji12) 1) == 1)), (by first | rfl | (simp; done) | (simp only [← hji12] <;> (first | rfl | simp)) | (simp [*]; done)), H', ⟨by have := HK1.out; first | omega | exact Nat.le_refl _⟩, by repeat (first | exact Drawn0.refl _ | apply Drawn0.step)⟩
            case rest =>
              clear HC6
              try clear c1
              try clear p2
              try clear q2
              try clear hx2
              try clear c3
              try clear c3b0
              try clear c4
              try clear c4b0
              try clear c5
              try clear c5b0
              try clear c6
              try clear p6
              try clear c7
              try clear c7b0
              try clear c8
              try clear c8b0
              try clear c10
              try clear c10b0
              try clear c11
              try clear c11b0
              try clear hx215_0
              try clear p2
              try clear p215
              try clear q215
              obtain ⟨kq, x36_5, rfl, HA, HJ5, ⟨mc5, rfl⟩⟩ := hcut
              cases kq with
              | zero => exact absurd HA.out (by simp [lampblackref01_IsGraph.j1])
              | succ kj5 =>
                have H := HA.out
                clear HA
                simp only [lampblackref01_IsGraph.j1] at H
                by_cases c13 : x36_5 = true
                · subst c13
                  have H1 : (some false) = some r := by rw [if_pos rfl] at H; exact H
                  clear H
                  have H := H1
                  clear H1
                  obtain rfl := Option.some.inj H
                  go_wp2
                  repeat (go_quiet (fail); try go_wp2)
                  go_ret
                  exact ⟨by first | rfl | (simp; done) | (simp [*]; done), by repeat (first | exact Drawn0.refl _ | apply Drawn0.step)⟩
                · replace c13 := Bool.eq_false_iff.mpr c13
                  subst c13
                  have H1 : (lampblackref01_IsGraph.l1 kj5 l0 a1 x10_1 (rd l0 x10_1) l0 (l0.length : Int) x10_1 (l0.length : Int) 0) = some r := by rw [if_neg (show ¬ (false = true) by decide)] at H; exact H
                  clear H
                  have H := H1
                  clear H1
                  have H' := Aside0.mk H
                  clear H
                  go_wp2
                  repeat (go_quiet (fail); try go_wp2)
                  go_loopg [39] kj5 (fun kq v39 w' => ∃ (x39_3 : Int), v39 = .int .i64 x39_3 ∧ Aside0 (lampblackref01_IsGraph.l1 kq l0 a1 x10_1 (rd l0 x10_1) l0 (l0.length : Int) x10_1 (l0.length : Int) x39_3 = some r) ∧ Aside0 (kq ≤ kj5) ∧ Drawn0 w w')
                  case atStart => exact ⟨(0), (by first | rfl | (simp; done) | (simp [*]; done)), H', ⟨Nat.le_refl _⟩, by repeat (first | exact Drawn0.refl _ | apply Drawn0.step)⟩
                  case round =>
                    clear H'
                    try clear c1
                    try clear p2
                    try clear q2
                    try clear hx2
                    try clear c3
                    try clear c3b0
                    try clear c4
                    try clear c4b0
                    try clear c5
                    try clear c5b0
                    try clear c6
                    try clear p6
                    try clear c7
                    try clear c7b0
                    try clear c8
                    try clear c8b0
                    try clear c10
                    try clear c10b0
                    try clear c11
                    try clear c11b0
                    try clear c13
                    try clear hx215_0
                    try clear p2
                    try clear p215
                    try clear p6
                    try clear q2
                    try clear q215
                    obtain ⟨x39_3, rfl, HA, HK3, ⟨m3, rfl⟩⟩ := hrel
                    cases gk with
                    | zero => exact absurd HA.out (by simp [lampblackref01_IsGraph.l1])
                    | succ k3 =>
                      have H := HA.out
                      clear HA
                      simp only [lampblackref01_IsGraph.l1] at H
                      by_cases c14 : x39_3 < (l0.length : Int)
                      · rw [if_pos c14] at H
                        have c14b0 : decide (x39_3 < (l0.length : Int)) = true := decide_eq_true c14
                        clear c14
                        by_cases c15 : 0 ≤ x39_3
                        · rw [if_pos c15] at H
                          have c15b0 := eq_true c15
                          have c15b1 : decide (0 ≤ x39_3) = true := decide_eq_true c15
                          clear c15
                          obtain ⟨ji16, hji16⟩ : ∃ j_ : Int, (shr .i64 (rd l0 x10_1) x39_3) = j_ := ⟨_, rfl⟩
                          replace H : (if x39_3 < (l0.length : Int) then (if 0 ≤ x10_1 then (if (Go.bits .and .i64 (ji16) 1) = (Go.bits .and .i64 (shr .i64 (rd l0 x39_3) x10_1) 1) then (lampblackref01_IsGraph.l1 k3 l0 a1 x10_1 (rd l0 x10_1) l0 (l0.length : Int) x10_1 (l0.length : Int) (wrap64 (x39_3 + 1))) else (some false)) else (none)) else (none)) = some r := by first | (rw [hji16] at H; exact H) | (simp only [hji16] at H ⊢; exact H)
                          have hji16_ : ((rd l0 x10_1) / 2 ^ min x39_3.toNat 64) = ji16 := hji16
                          have hji16z : x39_3 ≤ 64 → ((rd l0 x10_1) / 2 ^ x39_3.toNat) = ji16 := shr_small hji16
                          by_cases c17 : x39_3 < (l0.length : Int)
                          · rw [if_pos c17] at H
                            have c17b0 : decide (x39_3 < (l0.length : Int)) = true := decide_eq_true c17
                            clear c17
                            by_cases c18 : 0 ≤ x10_1
                            · rw [if_pos c18] at H
                              have c18b0 := eq_true c18
                              have c18b1 : decide (0 ≤ x10_1) = true := decide_eq_true c18
                              clear c18
                              obtain ⟨ji19, hji19⟩ : ∃ j_ : Int, (shr .i64 (rd l0 x39_3) x10_1) = j_ := ⟨_, rfl⟩
                              replace H : (if (Go.bits .and .i64 (ji16) 1) = (Go.bits .and .i64 (ji19) 1) then (lampblackref01_IsGraph.l1 k3 l0 a1 x10_1 (rd l0 x10_1) l0 (l0.length : Int) x10_1 (l0.length : Int) (wrap64 (x39_3 + 1))) else (some false)) = some r := by first | (rw [hji19] at H; exact H) | (simp only [hji19] at H ⊢; exact H)
                              have hji19_ : ((rd l0 x39_3) / 2 ^ min x10_1.toNat 64) = ji19 := hji19
                              have hji19z : x10_1 ≤ 64 → ((rd l0 x39_3) / 2 ^ x10_1.toNat) = ji19 := shr_small hji19
                              by_cases c20 : (Go.bits .and .i64 (ji16) 1) = (Go.bits .and .i64 (ji19) 1)
                              · rw [if_pos c20] at H
                                have c20b0 : ((Go.bits .and .i64 (ji16) 1) == (Go.bits .and .i64 (ji19) 1)) = true := beq_iff_eq.mpr c20
                                have c20b1 : ((Go.bits .and .i64 (ji16) 1) != (Go.bits .and .i64 (ji19) 1)) = false := bne_eq_false_iff_eq.mpr c20
                                clear c20
                                have H' := Aside0.mk H
                                clear H
                                have p216 : 0 ≤ (x39_3 : Int) := of_decide_eq_true (by first | (with_reducible assumption) | assumption)
                                have q216 : x39_3 < (l0.length : Int) := of_decide_eq_true (by first | (with_reducible assumption) | assumption)
                                obtain ⟨ad216, e216, hx216_0⟩ := Kd.at_int HR0.out x39_3 p216 q216
                                obtain rfl : ad215 = ad216 := (by injection e216)
                                replace p216 := eq_true p216
                                replace q216 := eq_true q216
                                go_wp2
                                repeat (go_quiet (fail); try go_wp2)
                                go_roundg k3
                                case measure => have := HK1.out; have := HJ5.out; have := HK3.out; omega
                                case rel => exact ⟨(wrap64 (x39_3 + 1)), (by first | rfl | (simp; done) | (simp [*]; done)), H', ⟨by have := HK1.out; have := HJ5.out; have := HK3.out; omega⟩, by repeat (first | exact Drawn0.refl _ | apply Drawn0.step)⟩
                              · rw [if_neg c20] at H
                                have c20b0 : ((Go.bits .and .i64 (ji16) 1) == (Go.bits .and .i64 (ji19) 1)) = false := beq_eq_false_iff_ne.mpr c20
                                have c20b1 : ((Go.bits .and .i64 (ji16) 1) != (Go.bits .and .i64 (ji19) 1)) = true := bne_iff_ne.mpr c20
                                obtain rfl := Option.some.inj H
                                have p216 : 0 ≤ (x39_3 : Int) := of_decide_eq_true (by first | (with_reducible assumption) | assumption)
                                have q216 : x39_3 < (l0.length : Int) := of_decide_eq_true (by first | (with_reducible assumption) | assumption)
                                obtain ⟨ad216, e216, hx216_0⟩ := Kd.at_int HR0.out x39_3 p216 q216
                                obtain rfl : ad215 = ad216 := (by injection e216)
                                replace p216 := eq_true p216
                                replace q216 := eq_true q216
                                go_wp2
                                repeat (go_quiet (fail); try go_wp2)
                                go_ret
                                exact ⟨by first | rfl | (simp; done) | (simp only [← hji16, ← hji19] <;> (first | rfl | simp)) | (simp [*]; done), by repeat (first | exact Drawn0.refl _ | apply Drawn0.step)⟩
                            · rw [if_neg c18] at H
                              exact absurd H (by simp)
                          · rw [if_neg c17] at H
                            exact absurd H (by simp)
                        · rw [if_neg c15] at H
                          exact absurd H (by simp)
                      · rw [if_neg c14] at H
                        have c14b0 : decide (x39_3 < (l0.length : Int)) = false := decide_eq_false c14
                        clear c14
                        have H' := Aside0.mk H
                        clear H
                        go_wp2
                        repeat (go_quiet (fail); try go_wp2)
                        go_roundg k3
                        case measure => have := HK1.out; have := HJ5.out; have := HK3.out; omega
                        case rel => exact ⟨(wrap64 (x10_1 + 1)), (by first | rfl | (simp; done) | (simp [*]; done)), H', ⟨by have := HK1.out; have := HJ5.out; have := HK3.out; omega⟩, by repeat (first | exact Drawn0.refl _ | apply Drawn0.step)⟩
          · rw [if_neg c5] at H
            exact absurd H (by simp)
        · rw [if_neg c4] at H
          exact absurd H (by simp)
      · rw [if_neg c3] at H
        have c3b0 : decide (x10_1 < (l0.length : Int)) = false := decide_eq_false c3
        clear c3
        by_cases c21 : (l0.length : Int) ≥ 1
        · rw [if_pos c21] at H
          have c21b0 : decide (1 ≤ (l0.length : Int)) = true := decide_eq_true c21
          have c21b1 : decide (1 ≤ l0.length) = true := decide_eq_true (by omega)
          clear c21
          obtain rfl := Option.some.inj H
          go_wp2
          repeat (go_quiet (fail); try go_wp2)
          go_ret
          exact ⟨by first | rfl | (simp; done) | (simp [*]; done), by repeat (first | exact Drawn0.refl _ | apply Drawn0.step)⟩
        · rw [if_neg c21] at H
          have c21b0 : decide (1 ≤ (l0.length : Int)) = false := decide_eq_false c21
          have c21b1 : decide (1 ≤ l0.length) = false := decide_eq_false (by omega)
          clear c21
          obtain rfl := Option.some.inj H
          go_wp2
          repeat (go_quiet (fail); try go_wp2)
          go_ret
          exact ⟨by first | rfl | (simp; done) | (simp [*]; done), by repeat (first | exact Drawn0.refl _ | apply Drawn0.step)⟩

end Go.Proofs.YtoffehihicabcaaDoor.X
end
