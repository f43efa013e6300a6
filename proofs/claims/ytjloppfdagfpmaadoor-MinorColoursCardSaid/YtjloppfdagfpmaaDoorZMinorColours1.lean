/- Part 1 of what MinorColours rests on: contracts of the functions that it reaches, and what they compute, in plain words. -/
import Derived.Test.YtjloppfdagfpmaaDoorZMinorColours0
import Derived.Laws.EntriesVeiled
import Derived.WalkSpells
import Derived.Carry
set_option linter.unusedVariables false
set_option linter.unusedSimpArgs false
section
namespace Go.Proofs.YtjloppfdagfpmaaDoor.X
open Go.RowKit YtjloppfdagfpmaaDoorW.PrintWords YtjloppfdagfpmaaDoorW.PrintLast YtjloppfdagfpmaaDoorW.PrintMore YtjloppfdagfpmaaDoor.T
theorem read_l1V (g : List Int) (hn : g.length ≤ 9) (i : Nat) (hi : i < g.length) (r : List Int × Bool)
  (hrest : Ev (fun k => width_read.l0 k g (g.length : Int) g (g.length : Int) ((i + 1 : Nat) : Int)) r) :
  ∀ d j, j + d = g.length → Ev (fun k => width_read.l1 k g (g.length : Int) (i : Int) (rd g (i : Int)) g (g.length : Int) (i : Int) (g.length : Int) (j : Int))
   (cond (allFrom (fun j => decide (ibit (rd g (i : Int)) j = ibit (rd g (j : Int)) i)) g.length d j) r (([] : List Int), false)) := by
 intro d
 induction d with
 | zero =>
  intro j hj
  refine Ev.step (fun k => ?_) hrest
  rw [width_read.l1, if_neg (by omega), wrap_succ i (by omega)]
 | succ d ih =>
  intro j hj
  simp only [allFrom]
  by_cases hb : ibit (rd g (i : Int)) j = ibit (rd g (j : Int)) i
  ·refine Ev.step (f := fun k => width_read.l1 k g (g.length : Int) (i : Int) (rd g (i : Int)) g (g.length : Int) (i : Int) (g.length : Int) ((j + 1 : Nat) : Int)) (fun k => ?_) ?_
   ·rw [width_read.l1, if_pos (by omega), if_pos (by omega), if_pos (by omega), if_pos (by omega), wrap_succ j (by omega)]
    exact if_pos hb
   ·have := ih (j + 1) (by omega)
    simpa [hb] using this
  ·refine Ev.step (f := fun _ => some (([] : List Int), false)) (fun k => ?_) (Ev.some (by simp [hb]))
   rw [width_read.l1, if_pos (by omega), if_pos (by omega), if_pos (by omega), if_pos (by omega)]
   exact if_neg hb
theorem read_l0V (g : List Int) (hn : g.length ≤ 9) :
  ∀ d i, i + d = g.length → Ev (fun k => width_read.l0 k g (g.length : Int) g (g.length : Int) (i : Int)) (cond (allFrom (rowOk g) g.length d i) (g, true) (([] : List Int), false)) := by
 intro d
 induction d with
 | zero =>
  intro i hi
  refine Ev.step (f := fun _ => some (g, true)) (fun k => ?_) (Ev.some (by simp [allFrom]))
  rw [width_read.l0, if_neg (by omega)]
 | succ d ih =>
  intro i hi
  have stop : ∀ k, width_read.j2 (k + 1) g (g.length : Int) (i : Int) (rd g (i : Int)) g (g.length : Int) (i : Int) true = some (([] : List Int), false) := fun k => by
   rw [width_read.j2, if_pos rfl]
  simp only [allFrom, rowOk]
  by_cases h1 : rd g (i : Int) < 0
  ·refine Ev.step (fun k => ?_) (f := fun k => width_read.j2 k g (g.length : Int) (i : Int) (rd g (i : Int)) g (g.length : Int) (i : Int) true) ?_
   ·rw [width_read.l0, if_pos (by omega), if_pos (by omega), if_pos (by omega), if_pos h1]
   ·exact Ev.step stop (Ev.some (by simp [h1]))
  ·by_cases h2 : rd g (i : Int) ≥ shl .i64 1 (g.length : Int)
   ·refine Ev.step (fun k => ?_) (f := fun k => width_read.j2 k g (g.length : Int) (i : Int) (rd g (i : Int)) g (g.length : Int) (i : Int) true) ?_
    ·rw [width_read.l0, if_pos (by omega), if_pos (by omega), if_pos (by omega), if_neg h1, if_pos (by omega), if_pos h2]
    ·exact Ev.step stop (Ev.some (by simp [h2]))
   ·refine Ev.step (fun k => ?_) (f := fun k => width_read.j2 k g (g.length : Int) (i : Int) (rd g (i : Int)) g (g.length : Int) (i : Int) (ibit (rd g (i : Int)) i == 1)) ?_
    ·rw [width_read.l0, if_pos (by omega), if_pos (by omega), if_pos (by omega), if_neg h1, if_pos (by omega), if_neg h2]
     rfl
    ·by_cases h3 : (ibit (rd g (i : Int)) i == 1) = true
     ·simp only [h3]
      exact Ev.step stop (Ev.some (by simp))
     ·refine Ev.step (fun k => by rw [width_read.j2, if_neg h3]) ?_
      have := read_l1V g hn i (by omega) _ (ih (i + 1) (by omega)) g.length 0 (by omega)
      have h3' : (ibit (rd g (i : Int)) i == 1) = false := by simpa using h3
      simp only [h1, h2, h3', decide_false, Bool.not_false, Bool.true_and]
      cases h4 : allFrom (fun j => decide (ibit (rd g (i : Int)) j = ibit (rd g (j : Int)) i)) g.length g.length 0
      ·simpa [h4] using this
      ·simpa [h4] using this
theorem read_evV (g : List Int) (hg : g.length < 2 ^ 60) : Ev (fun k => width_read.f k g) (cond (chk 9 g) (g, true) (([] : List Int), false)) := by
 have stop : ∀ k, width_read.j0 (k + 1) g (g.length : Int) true = some (([] : List Int), false) := fun k => by
  rw [width_read.j0, if_pos rfl]
 by_cases h1 : g.length < 1
 ·refine Ev.congr (f := fun k => width_read.j0 k g (g.length : Int) true) (fun k => ?_) (Ev.step stop (Ev.some ?_))
  ·rw [width_read.f, if_pos (by omega)]
  ·have : ¬ 1 ≤ g.length := by omega
   simp [chk, this]
 ·refine Ev.congr (f := fun k => width_read.j0 k g (g.length : Int) (decide ((g.length : Int) > 9))) (fun k => ?_) ?_
  ·rw [width_read.f, if_neg (by omega)]
  ·by_cases h2 : g.length ≤ 9
   ·have e : decide ((g.length : Int) > 9) = false := decide_eq_false (by omega)
    rw [e]
    refine Ev.step (fun k => by rw [width_read.j0, if_neg (by simp)]) ?_
    have := read_l0V g h2 g.length 0 (by omega)
    have h3 : decide (1 ≤ g.length) = true := decide_eq_true (by omega)
    simpa [chk, h2, h3] using this
   ·have e : decide ((g.length : Int) > 9) = true := decide_eq_true (by omega)
    rw [e]
    refine Ev.step stop (Ev.some ?_)
    simp [chk, h2]
end Go.Proofs.YtjloppfdagfpmaaDoor.X
end
section
namespace Go.Proofs.YtjloppfdagfpmaaDoor.X
open Go.RowKit YtjloppfdagfpmaaDoorW.PrintWords YtjloppfdagfpmaaDoorW.PrintLast YtjloppfdagfpmaaDoorW.PrintMore
attribute [local go_sem] max2_int min2_int max_two min_two max_three min_three max_four min_four
noncomputable section
def bits_OnesCount64.f (a0 : Int) : Option (Int) := some (Go.bits .and .i64 (wrap64 (IntKind.u64.wrap ((IntKind.u64.wrap ((IntKind.u64.wrap ((Go.bits .and .u64 (IntKind.u64.wrap (((IntKind.u64.wrap ((Go.bits .and .u64 ((IntKind.u64.wrap ((Go.bits .and .u64 (a0 / 2) 6148914691236517205) + (Go.bits .and .u64 a0 6148914691236517205))) / 4) 3689348814741910323) + (Go.bits .and .u64 (IntKind.u64.wrap ((Go.bits .and .u64 (a0 / 2) 6148914691236517205) + (Go.bits .and .u64 a0 6148914691236517205))) 3689348814741910323))) / 16) + (IntKind.u64.wrap ((Go.bits .and .u64 ((IntKind.u64.wrap ((Go.bits .and .u64 (a0 / 2) 6148914691236517205) + (Go.bits .and .u64 a0 6148914691236517205))) / 4) 3689348814741910323) + (Go.bits .and .u64 (IntKind.u64.wrap ((Go.bits .and .u64 (a0 / 2) 6148914691236517205) + (Go.bits .and .u64 a0 6148914691236517205))) 3689348814741910323))))) 1085102592571150095) + ((Go.bits .and .u64 (IntKind.u64.wrap (((IntKind.u64.wrap ((Go.bits .and .u64 ((IntKind.u64.wrap ((Go.bits .and .u64 (a0 / 2) 6148914691236517205) + (Go.bits .and .u64 a0 6148914691236517205))) / 4) 3689348814741910323) + (Go.bits .and .u64 (IntKind.u64.wrap ((Go.bits .and .u64 (a0 / 2) 6148914691236517205) + (Go.bits .and .u64 a0 6148914691236517205))) 3689348814741910323))) / 16) + (IntKind.u64.wrap ((Go.bits .and .u64 ((IntKind.u64.wrap ((Go.bits .and .u64 (a0 / 2) 6148914691236517205) + (Go.bits .and .u64 a0 6148914691236517205))) / 4) 3689348814741910323) + (Go.bits .and .u64 (IntKind.u64.wrap ((Go.bits .and .u64 (a0 / 2) 6148914691236517205) + (Go.bits .and .u64 a0 6148914691236517205))) 3689348814741910323))))) 1085102592571150095) / 256))) + ((IntKind.u64.wrap ((Go.bits .and .u64 (IntKind.u64.wrap (((IntKind.u64.wrap ((Go.bits .and .u64 ((IntKind.u64.wrap ((Go.bits .and .u64 (a0 / 2) 6148914691236517205) + (Go.bits .and .u64 a0 6148914691236517205))) / 4) 3689348814741910323) + (Go.bits .and .u64 (IntKind.u64.wrap ((Go.bits .and .u64 (a0 / 2) 6148914691236517205) + (Go.bits .and .u64 a0 6148914691236517205))) 3689348814741910323))) / 16) + (IntKind.u64.wrap ((Go.bits .and .u64 ((IntKind.u64.wrap ((Go.bits .and .u64 (a0 / 2) 6148914691236517205) + (Go.bits .and .u64 a0 6148914691236517205))) / 4) 3689348814741910323) + (Go.bits .and .u64 (IntKind.u64.wrap ((Go.bits .and .u64 (a0 / 2) 6148914691236517205) + (Go.bits .and .u64 a0 6148914691236517205))) 3689348814741910323))))) 1085102592571150095) + ((Go.bits .and .u64 (IntKind.u64.wrap (((IntKind.u64.wrap ((Go.bits .and .u64 ((IntKind.u64.wrap ((Go.bits .and .u64 (a0 / 2) 6148914691236517205) + (Go.bits .and .u64 a0 6148914691236517205))) / 4) 3689348814741910323) + (Go.bits .and .u64 (IntKind.u64.wrap ((Go.bits .and .u64 (a0 / 2) 6148914691236517205) + (Go.bits .and .u64 a0 6148914691236517205))) 3689348814741910323))) / 16) + (IntKind.u64.wrap ((Go.bits .and .u64 ((IntKind.u64.wrap ((Go.bits .and .u64 (a0 / 2) 6148914691236517205) + (Go.bits .and .u64 a0 6148914691236517205))) / 4) 3689348814741910323) + (Go.bits .and .u64 (IntKind.u64.wrap ((Go.bits .and .u64 (a0 / 2) 6148914691236517205) + (Go.bits .and .u64 a0 6148914691236517205))) 3689348814741910323))))) 1085102592571150095) / 256))) / 65536))) + ((IntKind.u64.wrap ((IntKind.u64.wrap ((Go.bits .and .u64 (IntKind.u64.wrap (((IntKind.u64.wrap ((Go.bits .and .u64 ((IntKind.u64.wrap ((Go.bits .and .u64 (a0 / 2) 6148914691236517205) + (Go.bits .and .u64 a0 6148914691236517205))) / 4) 3689348814741910323) + (Go.bits .and .u64 (IntKind.u64.wrap ((Go.bits .and .u64 (a0 / 2) 6148914691236517205) + (Go.bits .and .u64 a0 6148914691236517205))) 3689348814741910323))) / 16) + (IntKind.u64.wrap ((Go.bits .and .u64 ((IntKind.u64.wrap ((Go.bits .and .u64 (a0 / 2) 6148914691236517205) + (Go.bits .and .u64 a0 6148914691236517205))) / 4) 3689348814741910323) + (Go.bits .and .u64 (IntKind.u64.wrap ((Go.bits .and .u64 (a0 / 2) 6148914691236517205) + (Go.bits .and .u64 a0 6148914691236517205))) 3689348814741910323))))) 1085102592571150095) + ((Go.bits .and .u64 (IntKind.u64.wrap (((IntKind.u64.wrap ((Go.bits .and .u64 ((IntKind.u64.wrap ((Go.bits .and .u64 (a0 / 2) 6148914691236517205) + (Go.bits .and .u64 a0 6148914691236517205))) / 4) 3689348814741910323) + (Go.bits .and .u64 (IntKind.u64.wrap ((Go.bits .and .u64 (a0 / 2) 6148914691236517205) + (Go.bits .and .u64 a0 6148914691236517205))) 3689348814741910323))) / 16) + (IntKind.u64.wrap ((Go.bits .and .u64 ((IntKind.u64.wrap ((Go.bits .and .u64 (a0 / 2) 6148914691236517205) + (Go.bits .and .u64 a0 6148914691236517205))) / 4) 3689348814741910323) + (Go.bits .and .u64 (IntKind.u64.wrap ((Go.bits .and .u64 (a0 / 2) 6148914691236517205) + (Go.bits .and .u64 a0 6148914691236517205))) 3689348814741910323))))) 1085102592571150095) / 256))) + ((IntKind.u64.wrap ((Go.bits .and .u64 (IntKind.u64.wrap (((IntKind.u64.wrap ((Go.bits .and .u64 ((IntKind.u64.wrap ((Go.bits .and .u64 (a0 / 2) 6148914691236517205) + (Go.bits .and .u64 a0 6148914691236517205))) / 4) 3689348814741910323) + (Go.bits .and .u64 (IntKind.u64.wrap ((Go.bits .and .u64 (a0 / 2) 6148914691236517205) + (Go.bits .and .u64 a0 6148914691236517205))) 3689348814741910323))) / 16) + (IntKind.u64.wrap ((Go.bits .and .u64 ((IntKind.u64.wrap ((Go.bits .and .u64 (a0 / 2) 6148914691236517205) + (Go.bits .and .u64 a0 6148914691236517205))) / 4) 3689348814741910323) + (Go.bits .and .u64 (IntKind.u64.wrap ((Go.bits .and .u64 (a0 / 2) 6148914691236517205) + (Go.bits .and .u64 a0 6148914691236517205))) 3689348814741910323))))) 1085102592571150095) + ((Go.bits .and .u64 (IntKind.u64.wrap (((IntKind.u64.wrap ((Go.bits .and .u64 ((IntKind.u64.wrap ((Go.bits .and .u64 (a0 / 2) 6148914691236517205) + (Go.bits .and .u64 a0 6148914691236517205))) / 4) 3689348814741910323) + (Go.bits .and .u64 (IntKind.u64.wrap ((Go.bits .and .u64 (a0 / 2) 6148914691236517205) + (Go.bits .and .u64 a0 6148914691236517205))) 3689348814741910323))) / 16) + (IntKind.u64.wrap ((Go.bits .and .u64 ((IntKind.u64.wrap ((Go.bits .and .u64 (a0 / 2) 6148914691236517205) + (Go.bits .and .u64 a0 6148914691236517205))) / 4) 3689348814741910323) + (Go.bits .and .u64 (IntKind.u64.wrap ((Go.bits .and .u64 (a0 / 2) 6148914691236517205) + (Go.bits .and .u64 a0 6148914691236517205))) 3689348814741910323))))) 1085102592571150095) / 256))) / 65536))) / 4294967296)))) 127)
set_option maxHeartbeats 8000000 in
set_option maxRecDepth 100000 in
theorem bits_OnesCount64.calls (a0 : Int) (r : Int) (w : World) (h : bits_OnesCount64.f a0 = some r) :
  Calls Tryd.prog 122 #[.int .u64 a0] w fun e w' => e = .returned (.int .i64 r) ∧ Drawn0 w w' := by
 have H : (some (Go.bits .and .i64 (wrap64 (IntKind.u64.wrap ((IntKind.u64.wrap ((IntKind.u64.wrap ((Go.bits .and .u64 (IntKind.u64.wrap (((IntKind.u64.wrap ((Go.bits .and .u64 ((IntKind.u64.wrap ((Go.bits .and .u64 (a0 / 2) 6148914691236517205) + (Go.bits .and .u64 a0 6148914691236517205))) / 4) 3689348814741910323) + (Go.bits .and .u64 (IntKind.u64.wrap ((Go.bits .and .u64 (a0 / 2) 6148914691236517205) + (Go.bits .and .u64 a0 6148914691236517205))) 3689348814741910323))) / 16) + (IntKind.u64.wrap ((Go.bits .and .u64 ((IntKind.u64.wrap ((Go.bits .and .u64 (a0 / 2) 6148914691236517205) + (Go.bits .and .u64 a0 6148914691236517205))) / 4) 3689348814741910323) + (Go.bits .and .u64 (IntKind.u64.wrap ((Go.bits .and .u64 (a0 / 2) 6148914691236517205) + (Go.bits .and .u64 a0 6148914691236517205))) 3689348814741910323))))) 1085102592571150095) + ((Go.bits .and .u64 (IntKind.u64.wrap (((IntKind.u64.wrap ((Go.bits .and .u64 ((IntKind.u64.wrap ((Go.bits .and .u64 (a0 / 2) 6148914691236517205) + (Go.bits .and .u64 a0 6148914691236517205))) / 4) 3689348814741910323) + (Go.bits .and .u64 (IntKind.u64.wrap ((Go.bits .and .u64 (a0 / 2) 6148914691236517205) + (Go.bits .and .u64 a0 6148914691236517205))) 3689348814741910323))) / 16) + (IntKind.u64.wrap ((Go.bits .and .u64 ((IntKind.u64.wrap ((Go.bits .and .u64 (a0 / 2) 6148914691236517205) + (Go.bits .and .u64 a0 6148914691236517205))) / 4) 3689348814741910323) + (Go.bits .and .u64 (IntKind.u64.wrap ((Go.bits .and .u64 (a0 / 2) 6148914691236517205) + (Go.bits .and .u64 a0 6148914691236517205))) 3689348814741910323))))) 1085102592571150095) / 256))) + ((IntKind.u64.wrap ((Go.bits .and .u64 (IntKind.u64.wrap (((IntKind.u64.wrap ((Go.bits .and .u64 ((IntKind.u64.wrap ((Go.bits .and .u64 (a0 / 2) 6148914691236517205) + (Go.bits .and .u64 a0 6148914691236517205))) / 4) 3689348814741910323) + (Go.bits .and .u64 (IntKind.u64.wrap ((Go.bits .and .u64 (a0 / 2) 6148914691236517205) + (Go.bits .and .u64 a0 6148914691236517205))) 3689348814741910323))) / 16) + (IntKind.u64.wrap ((Go.bits .and .u64 ((IntKind.u64.wrap ((Go.bits .and .u64 (a0 / 2) 6148914691236517205) + (Go.bits .and .u64 a0 6148914691236517205))) / 4) 3689348814741910323) + (Go.bits .and .u64 (IntKind.u64.wrap ((Go.bits .and .u64 (a0 / 2) 6148914691236517205) + (Go.bits .and .u64 a0 6148914691236517205))) 3689348814741910323))))) 1085102592571150095) + ((Go.bits .and .u64 (IntKind.u64.wrap (((IntKind.u64.wrap ((Go.bits .and .u64 ((IntKind.u64.wrap ((Go.bits .and .u64 (a0 / 2) 6148914691236517205) + (Go.bits .and .u64 a0 6148914691236517205))) / 4) 3689348814741910323) + (Go.bits .and .u64 (IntKind.u64.wrap ((Go.bits .and .u64 (a0 / 2) 6148914691236517205) + (Go.bits .and .u64 a0 6148914691236517205))) 3689348814741910323))) / 16) + (IntKind.u64.wrap ((Go.bits .and .u64 ((IntKind.u64.wrap ((Go.bits .and .u64 (a0 / 2) 6148914691236517205) + (Go.bits .and .u64 a0 6148914691236517205))) / 4) 3689348814741910323) + (Go.bits .and .u64 (IntKind.u64.wrap ((Go.bits .and .u64 (a0 / 2) 6148914691236517205) + (Go.bits .and .u64 a0 6148914691236517205))) 3689348814741910323))))) 1085102592571150095) / 256))) / 65536))) + ((IntKind.u64.wrap ((IntKind.u64.wrap ((Go.bits .and .u64 (IntKind.u64.wrap (((IntKind.u64.wrap ((Go.bits .and .u64 ((IntKind.u64.wrap ((Go.bits .and .u64 (a0 / 2) 6148914691236517205) + (Go.bits .and .u64 a0 6148914691236517205))) / 4) 3689348814741910323) + (Go.bits .and .u64 (IntKind.u64.wrap ((Go.bits .and .u64 (a0 / 2) 6148914691236517205) + (Go.bits .and .u64 a0 6148914691236517205))) 3689348814741910323))) / 16) + (IntKind.u64.wrap ((Go.bits .and .u64 ((IntKind.u64.wrap ((Go.bits .and .u64 (a0 / 2) 6148914691236517205) + (Go.bits .and .u64 a0 6148914691236517205))) / 4) 3689348814741910323) + (Go.bits .and .u64 (IntKind.u64.wrap ((Go.bits .and .u64 (a0 / 2) 6148914691236517205) + (Go.bits .and .u64 a0 6148914691236517205))) 3689348814741910323))))) 1085102592571150095) + ((Go.bits .and .u64 (IntKind.u64.wrap (((IntKind.u64.wrap ((Go.bits .and .u64 ((IntKind.u64.wrap ((Go.bits .and .u64 (a0 / 2) 6148914691236517205) + (Go.bits .and .u64 a0 6148914691236517205))) / 4) 3689348814741910323) + (Go.bits .and .u64 (IntKind.u64.wrap ((Go.bits .and .u64 (a0 / 2) 6148914691236517205) + (Go.bits .and .u64 a0 6148914691236517205))) 3689348814741910323))) / 16) + (IntKind.u64.wrap ((Go.bits .and .u64 ((IntKind.u64.wrap ((Go.bits .and .u64 (a0 / 2) 6148914691236517205) + (Go.bits .and .u64 a0 6148914691236517205))) / 4) 3689348814741910323) + (Go.bits .and .u64 (IntKind.u64.wrap ((Go.bits .and .u64 (a0 / 2) 6148914691236517205) + (Go.bits .and .u64 a0 6148914691236517205))) 3689348814741910323))))) 1085102592571150095) / 256))) + ((IntKind.u64.wrap ((Go.bits .and .u64 (IntKind.u64.wrap (((IntKind.u64.wrap ((Go.bits .and .u64 ((IntKind.u64.wrap ((Go.bits .and .u64 (a0 / 2) 6148914691236517205) + (Go.bits .and .u64 a0 6148914691236517205))) / 4) 3689348814741910323) + (Go.bits .and .u64 (IntKind.u64.wrap ((Go.bits .and .u64 (a0 / 2) 6148914691236517205) + (Go.bits .and .u64 a0 6148914691236517205))) 3689348814741910323))) / 16) + (IntKind.u64.wrap ((Go.bits .and .u64 ((IntKind.u64.wrap ((Go.bits .and .u64 (a0 / 2) 6148914691236517205) + (Go.bits .and .u64 a0 6148914691236517205))) / 4) 3689348814741910323) + (Go.bits .and .u64 (IntKind.u64.wrap ((Go.bits .and .u64 (a0 / 2) 6148914691236517205) + (Go.bits .and .u64 a0 6148914691236517205))) 3689348814741910323))))) 1085102592571150095) + ((Go.bits .and .u64 (IntKind.u64.wrap (((IntKind.u64.wrap ((Go.bits .and .u64 ((IntKind.u64.wrap ((Go.bits .and .u64 (a0 / 2) 6148914691236517205) + (Go.bits .and .u64 a0 6148914691236517205))) / 4) 3689348814741910323) + (Go.bits .and .u64 (IntKind.u64.wrap ((Go.bits .and .u64 (a0 / 2) 6148914691236517205) + (Go.bits .and .u64 a0 6148914691236517205))) 3689348814741910323))) / 16) + (IntKind.u64.wrap ((Go.bits .and .u64 ((IntKind.u64.wrap ((Go.bits .and .u64 (a0 / 2) 6148914691236517205) + (Go.bits .and .u64 a0 6148914691236517205))) / 4) 3689348814741910323) + (Go.bits .and .u64 (IntKind.u64.wrap ((Go.bits .and .u64 (a0 / 2) 6148914691236517205) + (Go.bits .and .u64 a0 6148914691236517205))) 3689348814741910323))))) 1085102592571150095) / 256))) / 65536))) / 4294967296)))) 127)) = some r := h
 clear h
 obtain rfl := Option.some.inj H
 go_enter Tryd.func122, Tryd.ntmps122
 go_wp2
 go_ret
 exact ⟨by first | rfl | (simp; done) | (simp [*]; done), by repeat (first | exact Drawn0.refl _ | apply Drawn0.step)⟩
end
noncomputable section
def bits_OnesCount.f (a0 : Int) : Option (Int) := (bits_OnesCount64.f a0).bind fun t116 => (some t116)
set_option maxHeartbeats 8000000 in
set_option maxRecDepth 100000 in
theorem bits_OnesCount.calls (a0 : Int) (r : Int) (w : World) (h : bits_OnesCount.f a0 = some r) :
  Calls Tryd.prog 118 #[.int .u64 a0] w fun e w' => e = .returned (.int .i64 r) ∧ Drawn0 w w' := by
 have H : ((bits_OnesCount64.f a0).bind fun t116 => (some t116)) = some r := h
 clear h
 replace H := Option.bind_eq_some_iff.mp H
 obtain ⟨t116, A20, H⟩ := H
 replace H : (some t116) = some r := H
 have A2 := Aside0.mk A20
 clear A20
 obtain rfl := Option.some.inj H
 go_enter Tryd.func118, Tryd.ntmps118
 go_wp2_with (first | ((with_reducible refine gate_callee (f := 122) rfl ?_); refine goesL_ (some 7) rfl rfl Tryd.func122 (by kernel_rfl) rfl #[.int .u64 a0] rfl (Qls) ?_; (with_reducible refine (bits_OnesCount64.calls a0 t116 _ A2.out).mono ?_); rintro e w' ⟨rfl, ⟨nd, rfl⟩⟩; refine ⟨_, rfl, ?_⟩))
 go_ret
 exact ⟨by first | rfl | (simp; done) | (simp [*]; done), by repeat (first | exact Drawn0.refl _ | apply Drawn0.step)⟩
end
noncomputable section
def width_count.f (a0 : Int) : Option (Int) := (bits_OnesCount.f (IntKind.u64.wrap (a0))).bind fun t587 => (some t587)
set_option maxHeartbeats 8000000 in
set_option maxRecDepth 100000 in
theorem width_count.calls (a0 : Int) (r : Int) (w : World) (h : width_count.f a0 = some r) :
  Calls Tryd.prog 120 #[.int .i64 a0] w fun e w' => e = .returned (.int .i64 r) ∧ Drawn0 w w' := by
 have H : ((bits_OnesCount.f (IntKind.u64.wrap (a0))).bind fun t587 => (some t587)) = some r := h
 clear h
 replace H := Option.bind_eq_some_iff.mp H
 obtain ⟨t587, A20, H⟩ := H
 replace H : (some t587) = some r := H
 have A2 := Aside0.mk A20
 clear A20
 obtain rfl := Option.some.inj H
 go_enter Tryd.func120, Tryd.ntmps120
 go_wp2_with (first | ((with_reducible refine gate_callee (f := 118) rfl ?_); refine goesL_ (some 5) rfl rfl Tryd.func118 (by kernel_rfl) rfl #[.int .u64 (IntKind.u64.wrap (a0))] rfl (Qls) ?_; (with_reducible refine (bits_OnesCount.calls (IntKind.u64.wrap (a0)) t587 _ A2.out).mono ?_); rintro e w' ⟨rfl, ⟨nd, rfl⟩⟩; refine ⟨_, rfl, ?_⟩))
 go_ret
 exact ⟨by first | rfl | (simp; done) | (simp [*]; done), by repeat (first | exact Drawn0.refl _ | apply Drawn0.step)⟩
end
noncomputable section
def width_nodes.l0 : Nat → Int → List Int → Option (List Int)
 | 0, _, _ => none
 | k + 1, x0, x3 => if x0 = 0 then (some x3) else ((bits_TrailingZeros.f (IntKind.u64.wrap (x0))).bind fun t577 => (if x3.length < 17592186044416 then (width_nodes.l0 k (Go.bits .and .i64 x0 (wrap64 (x0 - 1))) (x3 ++ [t577])) else (none)))
def width_nodes.f (k : Nat) (a0 : Int) : Option (List Int) := width_nodes.l0 k a0 ([] : List Int)
theorem width_nodes.mono_l : ∀ k, (∀ y0 y1, LeO (width_nodes.l0 k y0 y1) (width_nodes.l0 (k + 1) y0 y1))
 | 0 => fun _ _ r h => by simp [width_nodes.l0] at h
 | k + 1 => by
  have ih0 := width_nodes.mono_l k
  ·intro y0 y1
   unfold width_nodes.l0
   repeat' first
   | (with_reducible exact ih0 _ _)
   | (with_reducible exact LeO.refl _)
   | (with_reducible exact LeO.none _)
   | (with_reducible refine LeO.ite ?_ ?_)
   | (with_reducible refine LeO.bind ?_ (fun _ => ?_))
   | exact ih0 _ _
   | exact LeO.none _
   | refine LeO.ite ?_ ?_
   | refine LeO.bind ?_ (fun _ => ?_)
theorem width_nodes.mono : ∀ a0 k, LeO (width_nodes.f k a0) (width_nodes.f (k + 1) a0) := by
 intro a0 k
 have ih0 := width_nodes.mono_l k
 unfold width_nodes.f
 repeat' first
   | (with_reducible exact ih0 _ _)
   | (with_reducible exact LeO.refl _)
   | (with_reducible exact LeO.none _)
   | (with_reducible refine LeO.ite ?_ ?_)
   | (with_reducible refine LeO.bind ?_ (fun _ => ?_))
   | exact ih0 _ _
   | exact LeO.none _
   | refine LeO.ite ?_ ?_
   | refine LeO.bind ?_ (fun _ => ?_)
set_option maxHeartbeats 8000000 in
set_option maxRecDepth 100000 in
theorem width_nodes.calls (k : Nat) (a0 : Int) (r : List Int) (w : World) (hGL : GL w) (h : width_nodes.f k a0 = some r) :
  Calls Tryd.prog 104 #[.int .i64 a0] w fun e w' => ∃ v0_ : Value, e = .returned (v0_) ∧ Kd.R (Kd.int .i64) 3 w' w.heap.size (fun _ => True) v0_ r ∧ Below w.heap.size w w' := by
 have HGL := Aside0.mk hGL
 clear hGL
 have HB := Aside0.mk (Below.refl w.heap.size w)
 have H : (width_nodes.l0 k a0 ([] : List Int)) = some r := h
 clear h
 have H' := Aside0.mk H
 clear H
 go_enter Tryd.func104, Tryd.ntmps104
 go_wp2
 go_loopg [0, 3] k (fun kq v0 v3 w' => ∃ (x0_1 : Int) (x3_1 : List Int), v0 = .int .i64 x0_1 ∧ Aside0 (width_nodes.l0 kq x0_1 x3_1 = some r) ∧ Aside0 (kq ≤ k) ∧ Aside0 (Kd.R (Kd.int .i64) 3 w' w.heap.size (fun _ => True) v3 x3_1) ∧ Aside0 (Below w.heap.size w w'))
 case atStart => exact ⟨(a0), (([] : List Int)), (Qrs), H', ⟨Nat.le_refl _⟩, ⟨by first | exact Kd.R_nil _ _ _ _ _ | exact Kd.N_nil _ _ _ _ _ | exact Kd.V_nil _ _ _ _ _ | exact Kd.Q_nil _ _ _ _ _ | exact Kd.S_nil _ _ _ _ _⟩, ⟨by repeat (first | (with_reducible first | exact HB.out | apply below_alloc | apply pw_below_drewN | apply below_drew1) | exact HB.out)⟩⟩
 case round =>
  clear H'
  try clear c1
  obtain ⟨x0_1, x3_1, rfl, HA, HK1, HO_3, HB⟩ := hrel
  cases gk with
  | zero => exact absurd HA.out (by simp [width_nodes.l0])
  | succ k1 =>
   have H := HA.out
   clear HA
   simp only [width_nodes.l0] at H
   by_cases c2 : x0_1 = 0
   ·rw [if_pos c2] at H
    have c2b0 : (x0_1 == 0) = true := beq_iff_eq.mpr c2
    have c2b1 : (x0_1 != 0) = false := bne_eq_false_iff_eq.mpr c2
    clear c2
    obtain rfl := Option.some.inj H
    go_wp2
    go_ret
    exact ⟨_, by first | rfl | (simp [errW_none, errW_some] <;> rfl) | (simp [*, errW_none, errW_some] <;> rfl), by (with_reducible repeat (first | apply Kd.R_alloc | apply Kd.R_drewN | apply Kd.R_drew)); exact HO_3.out, by repeat (first | (with_reducible first | exact HB.out | apply below_alloc | apply pw_below_drewN | apply below_drew1) | exact HB.out)⟩
   ·rw [if_neg c2] at H
    have c2b0 : (x0_1 == 0) = false := beq_eq_false_iff_ne.mpr c2
    have c2b1 : (x0_1 != 0) = true := bne_iff_ne.mpr c2
    replace H := Option.bind_eq_some_iff.mp H
    obtain ⟨t577, A30, H⟩ := H
    replace H : (if x3_1.length < 17592186044416 then (width_nodes.l0 k1 (Go.bits .and .i64 x0_1 (wrap64 (x0_1 - 1))) (x3_1 ++ [t577])) else (none)) = some r := H
    have A3 := Aside0.mk A30
    clear A30
    by_cases c4 : x3_1.length < 17592186044416
    ·rw [if_pos c4] at H
     have LMc4 := Aside0.mk c4
     clear c4
     obtain ⟨y578, hy578⟩ : ∃ y_ : List Int, y_ = (x3_1 ++ [t577]) := ⟨_, rfl⟩
     replace H : (width_nodes.l0 k1 (Go.bits .and .i64 x0_1 (wrap64 (x0_1 - 1))) y578) = some r := by first | (rw [hy578]; with_reducible exact H) | (have H2_ := (Option.bind_some _ _).symm.trans H; rw [hy578]; with_reducible exact H2_) | (have H2_ := (Option.bind_some _ _).symm.trans H; with_reducible exact H2_) | with_reducible exact H | (rw [hy578]; exact H) | exact H
     have Ny578 := Aside0.mk hy578
     clear hy578
     have H' := Aside0.mk H
     clear H
     go_wp2_with (first | ((with_reducible refine gate_callee (f := 94) rfl ?_); refine goesL_ (some 13) rfl rfl Tryd.func94 (by kernel_rfl) rfl #[.int .u64 (IntKind.u64.wrap (x0_1))] rfl (Qls) ?_; (with_reducible refine (bits_TrailingZeros.calls (hGL := (Qlg)) (IntKind.u64.wrap (x0_1)) t577 _ A3.out).mono ?_); rintro e w' ⟨rfl, ⟨nd, rfl⟩⟩; refine ⟨_, rfl, ?_⟩) | ((with_reducible refine gate_builtin (b := .append) (xs := #[.tmp 10, .tmp 14]) rfl ?_); at_builtin; refine Kd.R_append (Kd.int .i64) (w0 := w) w.heap.size rfl (.tmp 10) (.tmp 14) 22 3 (.int .i64 0) 8 rfl Tryd.underlying22 info3 rfl (by decide) (by omega) u3 x3_1 t577 [.int .i64 t577] (fun _ => True) (fun _ => False) rfl rfl ?aP (fun _ hk => hk.elim) ?aF ?aO ?aB ?aS ?aL ?_; (case aP => exact rfl); (case aB => exact (Qaw)); (case aF => exact (fun _ _ => trivial)); (case aO => exact (Qro HO_3.out)); (case aS => exact (below_size (Qaw))); (case aL => have := LMc4.out; omega); intro v579 w5 ho hb hg hat; rw [← Ny578.out] at ho; have n0_ := Aside0.mk (hb); have n1_ := Aside0.mk (ho); clear HB; clear HO_3; have HB := n0_; have HO580 := n1_; clear n0_ n1_; clear ho hb hg hat))
     go_roundg k1
     case measure => have := HK1.out; omega
     case rel => exact ⟨(Go.bits .and .i64 x0_1 (wrap64 (x0_1 - 1))), (y578), (Qrs), H', ⟨by have := HK1.out; omega⟩, ⟨by (with_reducible repeat (first | apply Kd.R_alloc | apply Kd.R_drewN | apply Kd.R_drew)); exact HO580.out⟩, ⟨by repeat (first | (with_reducible first | exact HB.out | apply below_alloc | apply pw_below_drewN | apply below_drew1) | exact HB.out)⟩⟩
    ·rw [if_neg c4] at H
     exact absurd H (by simp)
end
noncomputable section
def width_town_around.l0 : Nat → List Int → Int → List Int → Int → Int → Option (Int)
 | 0, _, _, _, _, _ => none
 | k + 1, x0, x5, x9, x10, x11 => if x11 < x10 then (if 0 ≤ x11 then (if x11 < (x9.length : Int) then (if 0 ≤ (rd x9 x11) then (if (rd x9 x11) < (x0.length : Int) then (width_town_around.l0 k x0 (Go.bits .or .i64 x5 (rd x0 (rd x9 x11))) x9 x10 (wrap64 (x11 + 1))) else (none)) else (none)) else (none)) else (none)) else (some x5)
def width_town_around.f (k : Nat) (l0 : List Int) (a1 : Int) : Option (Int) := (width_nodes.f k a1).bind fun t581 => (width_town_around.l0 k l0 0 t581 (t581.length : Int) 0)
set_option maxHeartbeats 8000000 in
set_option maxRecDepth 100000 in
theorem width_town_around.calls (k : Nat) (A0 : Option Addr) (c0 : Nat) (l0 : List Int) (a1 : Int) (r : Int) (w : World) (hGL : GL w) (hr0 : Kd.C (Kd.int .i64) w A0 l0.length l0) (hc0 : l0.length ≤ c0) (h : width_town_around.f k l0 a1 = some r) :
  Calls Tryd.prog 100 #[.slice A0 l0.length c0, .int .i64 a1] w fun e w' => e = .returned (.int .i64 r) ∧ Below w.heap.size w w' := by
 have HGL := Aside0.mk hGL
 clear hGL
 have HR0 := Aside0.mk hr0
 have HC0 := Aside0.mk hc0
 clear hr0 hc0
 have HB := Aside0.mk (Below.refl w.heap.size w)
 have H : ((width_nodes.f k a1).bind fun t581 => (width_town_around.l0 k l0 0 t581 (t581.length : Int) 0)) = some r := h
 clear h
 replace H := Option.bind_eq_some_iff.mp H
 obtain ⟨t581, A30, H⟩ := H
 replace H : (width_town_around.l0 k l0 0 t581 (t581.length : Int) 0) = some r := H
 have A3 := Aside0.mk A30
 clear A30
 have H' := Aside0.mk H
 clear H
 go_enter Tryd.func100, Tryd.ntmps100
 go_wp2_with (first | ((with_reducible refine gate_callee (f := 104) rfl ?_); refine goesL_ (some 9) rfl rfl Tryd.func104 (by kernel_rfl) rfl #[.int .i64 a1] rfl (Qls) ?_; (with_reducible refine (width_nodes.calls (hGL := (Qlg)) k a1 t581 _ A3.out).mono ?_); rintro e w4 ⟨v582, rfl, ho0, hb⟩; refine ⟨_, rfl, ?_⟩; have n0_ := Aside0.mk (Kd.R_lower ho0 (below_size (Qaw))); have n1_ := Aside0.mk (below_step (Qaw) hb); clear HB; have HO583 := n0_; have HB := n1_; clear n0_ n1_; (try clear hb); (try clear hb2); (try clear hk); (try clear hi); (try clear ho0); obtain ⟨Ao5, co5, eo5⟩ := Kd.R_slice HO583.out; subst eo5))
 go_loopg [5, 11] k (fun kq v5 v11 w' => ∃ (x5_1 : Int) (x11_1 : Int), v5 = .int .i64 x5_1 ∧ v11 = .int .i64 x11_1 ∧ Aside0 (width_town_around.l0 kq l0 x5_1 t581 (t581.length : Int) x11_1 = some r) ∧ Aside0 (kq ≤ k) ∧ Aside0 (Kd.R (Kd.int .i64) 3 w' w.heap.size (fun _ => True) (.slice Ao5 t581.length co5) t581) ∧ Aside0 (Below w.heap.size w w'))
 case atStart => exact ⟨(0), (0), (Qrs), (Qrs), H', ⟨Nat.le_refl _⟩, ⟨by (with_reducible repeat (first | apply Kd.R_alloc | apply Kd.R_drewN | apply Kd.R_drew)); exact HO583.out⟩, ⟨by repeat (first | (with_reducible first | exact HB.out | apply below_alloc | apply pw_below_drewN | apply below_drew1) | exact HB.out)⟩⟩
 case round =>
  clear H'
  try clear c1
  try clear p2
  obtain ⟨x5_1, x11_1, rfl, rfl, HA, HK1, HO_9, HB⟩ := hrel
  cases gk with
  | zero => exact absurd HA.out (by simp [width_town_around.l0])
  | succ k1 =>
   have H := HA.out
   clear HA
   simp only [width_town_around.l0] at H
   by_cases c6 : x11_1 < (t581.length : Int)
   ·rw [if_pos c6] at H
    have c6b0 : decide (x11_1 < (t581.length : Int)) = true := decide_eq_true c6
    clear c6
    by_cases c7 : 0 ≤ x11_1
    ·rw [if_pos c7] at H
     have c7b0 : decide (0 ≤ x11_1) = true := decide_eq_true c7
     clear c7
     by_cases c8 : x11_1 < (t581.length : Int)
     ·rw [if_pos c8] at H
      have c8b0 : decide (x11_1 < (t581.length : Int)) = true := decide_eq_true c8
      clear c8
      by_cases c9 : 0 ≤ (rd t581 x11_1)
      ·rw [if_pos c9] at H
       have c9b0 : decide (0 ≤ (rd t581 x11_1)) = true := decide_eq_true c9
       clear c9
       by_cases c10 : (rd t581 x11_1) < (l0.length : Int)
       ·rw [if_pos c10] at H
        have c10b0 : decide ((rd t581 x11_1) < (l0.length : Int)) = true := decide_eq_true c10
        clear c10
        have H' := Aside0.mk H
        clear H
        have p584 : 0 ≤ (x11_1 : Int) := of_decide_eq_true (Qas)
        have q584 : x11_1 < (t581.length : Int) := of_decide_eq_true (Qas)
        obtain ⟨ad584, e584, hx584_0⟩ := Kd.at_int (Kd.R_reads' HO_9.out).2.2 x11_1 p584 q584
        cases e584
        replace p584 := eq_true p584
        replace q584 := eq_true q584
        have p585 : 0 ≤ ((rd t581 x11_1) : Int) := of_decide_eq_true (Qas)
        have q585 : (rd t581 x11_1) < (l0.length : Int) := of_decide_eq_true (Qas)
        obtain ⟨ad585, e585, hx585_0⟩ := Kd.at_int HR0.out (rd t581 x11_1) p585 q585
        cases e585
        replace hx585_0 := (HB.out.cell (World.block_lt_of_cell? w _ hx585_0)).trans hx585_0
        replace p585 := eq_true p585
        replace q585 := eq_true q585
        go_wp2
        go_roundg k1
        case measure => have := HK1.out; omega
        case rel => exact ⟨(Go.bits .or .i64 x5_1 (rd l0 (rd t581 x11_1))), (wrap64 (x11_1 + 1)), (Qrs), (Qrs), H', ⟨by have := HK1.out; omega⟩, ⟨by (with_reducible repeat (first | apply Kd.R_alloc | apply Kd.R_drewN | apply Kd.R_drew)); exact HO_9.out⟩, ⟨by repeat (first | (with_reducible first | exact HB.out | apply below_alloc | apply pw_below_drewN | apply below_drew1) | exact HB.out)⟩⟩
       ·rw [if_neg c10] at H
        exact absurd H (by simp)
      ·rw [if_neg c9] at H
       exact absurd H (by simp)
     ·rw [if_neg c8] at H
      exact absurd H (by simp)
    ·rw [if_neg c7] at H
     exact absurd H (by simp)
   ·rw [if_neg c6] at H
    have c6b0 : decide (x11_1 < (t581.length : Int)) = false := decide_eq_false c6
    clear c6
    obtain rfl := Option.some.inj H
    go_wp2
    go_ret
    exact ⟨by first | rfl | (simp [errW_none, errW_some] <;> rfl) | (simp [*, errW_none, errW_some] <;> rfl), by repeat (first | (with_reducible first | exact HB.out | apply below_alloc | apply pw_below_drewN | apply below_drew1) | exact HB.out)⟩
end
noncomputable section
def width_town_part.l0 : Nat → List Int → Int → Int → Option (Int)
 | 0, _, _, _ => none
 | k + 1, x0, x1, x2 => (width_town_around.f k x0 x1).bind fun t586 => (if (Go.bits .or .i64 x1 (Go.bits .and .i64 t586 x2)) = x1 then (some x1) else (width_town_part.l0 k x0 (Go.bits .or .i64 x1 (Go.bits .and .i64 t586 x2)) x2))
def width_town_part.f (k : Nat) (l0 : List Int) (a1 : Int) (a2 : Int) : Option (Int) := width_town_part.l0 k l0 a1 a2
set_option maxHeartbeats 8000000 in
set_option maxRecDepth 100000 in
theorem width_town_part.calls (k : Nat) (A0 : Option Addr) (c0 : Nat) (l0 : List Int) (a1 : Int) (a2 : Int) (r : Int) (w : World) (hGL : GL w) (hr0 : Kd.C (Kd.int .i64) w A0 l0.length l0) (hc0 : l0.length ≤ c0) (h : width_town_part.f k l0 a1 a2 = some r) :
  Calls Tryd.prog 101 #[.slice A0 l0.length c0, .int .i64 a1, .int .i64 a2] w fun e w' => e = .returned (.int .i64 r) ∧ Below w.heap.size w w' := by
 have HGL := Aside0.mk hGL
 clear hGL
 have HR0 := Aside0.mk hr0
 have HC0 := Aside0.mk hc0
 clear hr0 hc0
 have HB := Aside0.mk (Below.refl w.heap.size w)
 have H : (width_town_part.l0 k l0 a1 a2) = some r := h
 clear h
 have H' := Aside0.mk H
 clear H
 go_enter Tryd.func101, Tryd.ntmps101
 go_wp2
 go_loopg [1] k (fun kq v1 w' => ∃ (x1_1 : Int), v1 = .int .i64 x1_1 ∧ Aside0 (width_town_part.l0 kq l0 x1_1 a2 = some r) ∧ Aside0 (kq ≤ k) ∧ Aside0 (Below w.heap.size w w'))
 case atStart => exact ⟨(a1), (Qrs), H', ⟨Nat.le_refl _⟩, ⟨by repeat (first | (with_reducible first | exact HB.out | apply below_alloc | apply pw_below_drewN | apply below_drew1) | exact HB.out)⟩⟩
 case round =>
  clear H'
  try clear c1
  try clear p2
  obtain ⟨x1_1, rfl, HA, HK1, HB⟩ := hrel
  cases gk with
  | zero => exact absurd HA.out (by simp [width_town_part.l0])
  | succ k1 =>
   have H := HA.out
   clear HA
   simp only [width_town_part.l0] at H
   replace H := Option.bind_eq_some_iff.mp H
   obtain ⟨t586, A40, H⟩ := H
   replace H : (if (Go.bits .or .i64 x1_1 (Go.bits .and .i64 t586 a2)) = x1_1 then (some x1_1) else (width_town_part.l0 k1 l0 (Go.bits .or .i64 x1_1 (Go.bits .and .i64 t586 a2)) a2)) = some r := H
   have A4 := Aside0.mk A40
   clear A40
   by_cases c5 : (Go.bits .or .i64 x1_1 (Go.bits .and .i64 t586 a2)) = x1_1
   ·rw [if_pos c5] at H
    have c5b0 : ((Go.bits .or .i64 x1_1 (Go.bits .and .i64 t586 a2)) == x1_1) = true := beq_iff_eq.mpr c5
    have c5b1 : ((Go.bits .or .i64 x1_1 (Go.bits .and .i64 t586 a2)) != x1_1) = false := bne_eq_false_iff_eq.mpr c5
    clear c5
    obtain rfl := Option.some.inj H
    go_wp2_with (first | ((with_reducible refine gate_callee (f := 100) rfl ?_); refine goesL_ (some 11) rfl rfl Tryd.func100 (by kernel_rfl) rfl #[.slice A0 l0.length c0, .int .i64 x1_1] rfl (Qls) ?_; (with_reducible refine (width_town_around.calls (hGL := (Qlg)) k1 _ _ l0 x1_1 t586 _ ?side1 ?side2 A4.out).mono ?_); (case side1 => exact Qsc (Kd.C_below HR0.out HB.out)); (case side2 => exact HC0.out); rintro e w6 ⟨rfl, hb⟩; refine ⟨_, rfl, ?_⟩; have n0_ := Aside0.mk (below_step (Qaw) hb); clear HB; have HB := n0_; clear n0_; (try clear hb); (try clear hb2); (try clear hk); (try clear hi)))
    go_ret
    exact ⟨by first | rfl | (simp [errW_none, errW_some] <;> rfl) | (simp [*, errW_none, errW_some] <;> rfl), by repeat (first | (with_reducible first | exact HB.out | apply below_alloc | apply pw_below_drewN | apply below_drew1) | exact HB.out)⟩
   ·rw [if_neg c5] at H
    have c5b0 : ((Go.bits .or .i64 x1_1 (Go.bits .and .i64 t586 a2)) == x1_1) = false := beq_eq_false_iff_ne.mpr c5
    have c5b1 : ((Go.bits .or .i64 x1_1 (Go.bits .and .i64 t586 a2)) != x1_1) = true := bne_iff_ne.mpr c5
    have H' := Aside0.mk H
    clear H
    go_wp2_with (first | ((with_reducible refine gate_callee (f := 100) rfl ?_); refine goesL_ (some 11) rfl rfl Tryd.func100 (by kernel_rfl) rfl #[.slice A0 l0.length c0, .int .i64 x1_1] rfl (Qls) ?_; (with_reducible refine (width_town_around.calls (hGL := (Qlg)) k1 _ _ l0 x1_1 t586 _ ?side1 ?side2 A4.out).mono ?_); (case side1 => exact Qsc (Kd.C_below HR0.out HB.out)); (case side2 => exact HC0.out); rintro e w7 ⟨rfl, hb⟩; refine ⟨_, rfl, ?_⟩; have n0_ := Aside0.mk (below_step (Qaw) hb); clear HB; have HB := n0_; clear n0_; (try clear hb); (try clear hb2); (try clear hk); (try clear hi)))
    go_roundg k1
    case measure => have := HK1.out; omega
    case rel => exact ⟨(Go.bits .or .i64 x1_1 (Go.bits .and .i64 t586 a2)), (Qrs), H', ⟨by have := HK1.out; omega⟩, ⟨by repeat (first | (with_reducible first | exact HB.out | apply below_alloc | apply pw_below_drewN | apply below_drew1) | exact HB.out)⟩⟩
end
noncomputable section
def width_town_degree.f (k : Nat) (l0 : List Int) (a1 : Int) (a2 : Int) : Option (Int) := if 0 ≤ a1 then ((width_town_part.f k l0 (shl .i64 1 a1) (Go.bits .or .i64 a2 (shl .i64 1 a1))).bind fun t588 => ((width_town_around.f k l0 t588).bind fun t589 => ((width_count.f (Go.bits .andNot .i64 (Go.bits .andNot .i64 t589 a2) (shl .i64 1 a1))).bind fun t590 => (some t590)))) else (none)
def width_town_degree.T1 : Bool × List (List Nat × List Nat) := (true, [([], []), ([], []), ([], []), ([2], [2]), ([], []), ([], []), ([5], [5]), ([4, 6], [4, 6]), ([1, 3, 7], [1, 3, 7]), ([0, 8, 8], [0, 8]), ([], []), ([9, 10], [9, 10]), ([], []), ([12], [12]), ([11, 13], [11, 13]), ([14, 9], [14]), ([15, 15, 0, 1, 2, 3, 4, 5, 6, 7, 8, 9, 10, 11, 12, 13, 14, 15], [15])])
def width_town_degree.B1 : List Nat := [0, 0, 0, 4, 0, 0, 32, 112, 254, 511, 0, 2047, 0, 4096, 16383, 32767, 65535]
theorem width_town_degree.tab1 : rtab .any (opsOf Tryd.f113 1) = width_town_degree.T1 := by kernel_rfl
theorem width_town_degree.bits1 : waitsOk width_town_degree.T1.2 width_town_degree.B1 = true := by kernel_rfl
set_option maxHeartbeats 8000000 in
set_option maxRecDepth 100000 in
theorem width_town_degree.calls (k : Nat) (A0 : Option Addr) (c0 : Nat) (l0 : List Int) (a1 : Int) (a2 : Int) (r : Int) (w : World) (hGL : GL w) (hr0 : Kd.C (Kd.int .i64) w A0 l0.length l0) (hc0 : l0.length ≤ c0) (h : width_town_degree.f k l0 a1 a2 = some r) :
  Calls Tryd.prog 113 #[.slice A0 l0.length c0, .int .i64 a1, .int .i64 a2] w fun e w' => e = .returned (.int .i64 r) ∧ Below w.heap.size w w' := by
 have HGL := Aside0.mk hGL
 clear hGL
 have HR0 := Aside0.mk hr0
 have HC0 := Aside0.mk hc0
 clear hr0 hc0
 have HB := Aside0.mk (Below.refl w.heap.size w)
 have H : (if 0 ≤ a1 then ((width_town_part.f k l0 (shl .i64 1 a1) (Go.bits .or .i64 a2 (shl .i64 1 a1))).bind fun t588 => ((width_town_around.f k l0 t588).bind fun t589 => ((width_count.f (Go.bits .andNot .i64 (Go.bits .andNot .i64 t589 a2) (shl .i64 1 a1))).bind fun t590 => (some t590)))) else (none)) = some r := h
 clear h
 by_cases c4 : 0 ≤ a1
 ·rw [if_pos c4] at H
  have c4b0 := eq_true c4
  have c4b1 : decide (0 ≤ a1) = true := decide_eq_true c4
  clear c4
  obtain ⟨ji5, hji5⟩ : ∃ j_ : Int, (shl .i64 1 a1) = j_ := ⟨_, rfl⟩
  replace H : ((width_town_part.f k l0 (ji5) (Go.bits .or .i64 a2 (ji5))).bind fun t588 => ((width_town_around.f k l0 t588).bind fun t589 => ((width_count.f (Go.bits .andNot .i64 (Go.bits .andNot .i64 t589 a2) (ji5))).bind fun t590 => (some t590)))) = some r := by first | (rw [hji5] at H; exact H) | (simp only [hji5] at H ⊢; exact H)
  have hji5_ : (IntKind.i64.wrap (1 * 2 ^ min a1.toNat 64)) = ji5 := hji5
  have hji5z : a1 ≤ 64 → (IntKind.i64.wrap (1 * 2 ^ a1.toNat)) = ji5 := shl_small hji5
  have hji5u : (IntKind.i64.wrap (2 ^ min a1.toNat 64)) = ji5 := by have h_ := hji5_; rw [Int.one_mul] at h_; exact h_
  have hji5v : a1 ≤ 64 → (IntKind.i64.wrap (2 ^ a1.toNat)) = ji5 := fun hle_ => by have h_ := hji5z hle_; rw [Int.one_mul] at h_; exact h_
  have hji5y : (wrap64 (1 * 2 ^ min a1.toNat 64)) = ji5 := (i64_w _).symm.trans hji5_
  have hji5x : a1 ≤ 64 → (wrap64 (1 * 2 ^ a1.toNat)) = ji5 := fun h_ => (i64_w _).symm.trans (hji5z h_)
  have c6b0 := eq_true (of_decide_eq_true (Qas) : 0 ≤ a1)
  replace H := Option.bind_eq_some_iff.mp H
  obtain ⟨t588, A70, H⟩ := H
  replace H : ((width_town_around.f k l0 t588).bind fun t589 => ((width_count.f (Go.bits .andNot .i64 (Go.bits .andNot .i64 t589 a2) (ji5))).bind fun t590 => (some t590))) = some r := H
  have A7 := Aside0.mk A70
  clear A70
  replace H := Option.bind_eq_some_iff.mp H
  obtain ⟨t589, A80, H⟩ := H
  replace H : ((width_count.f (Go.bits .andNot .i64 (Go.bits .andNot .i64 t589 a2) (ji5))).bind fun t590 => (some t590)) = some r := H
  have A8 := Aside0.mk A80
  clear A80
  have c9b0 := eq_true (of_decide_eq_true (Qas) : 0 ≤ a1)
  replace H := Option.bind_eq_some_iff.mp H
  obtain ⟨t590, A100, H⟩ := H
  replace H : (some t590) = some r := H
  have A10 := Aside0.mk A100
  clear A100
  obtain rfl := Option.some.inj H
  go_enter Tryd.func113, Tryd.ntmps113
  try go_wp2
  have n0_ := Aside0.mk (below_drew1 HB.out)
  clear HB
  have HB := n0_
  clear n0_
  refine start_ (n := 17) (S := fun w' => True) (ds := []) (Qbz 17 0) (by kernel_rfl) rfl rfl trivial (fun hHeld => ?_); refine with_tabW width_town_degree.tab1 width_town_degree.bits1 (fun HT_ HW_ => ?_)
  generalize w.drew = w11 at HB hHeld ⊢
  refine Qpu 0 7 ?_ ?_ (Qbz 17 1) (Qao) ?_
  refine Qpu 1 8 ?_ ?_ (Qbz 17 3) (Qao) ?_
  refine Qpu 2 9 ?_ ?_ (Qbz 17 7) (Qao) ?_
  refine Qpu 3 10 ?_ ?_ (Qbz 17 15) (Qao) ?_
  refine Qpu 4 11 ?_ ?_ (Qbz 17 31) (Qao) ?_
  refine Qpu 5 12 ?_ ?_ (Qbz 17 63) (Qao) ?_
  refine Qpu 6 13 ?_ ?_ (Qbz 17 127) (Qao) ?_
  refine Qpu 7 14 ?_ ?_ (Qbz 17 255) (Qao) ?_
  refine Qpu 10 17 ?_ ?_ (Qbz 17 1279) (Qao) ?_
  refine Qpu 12 19 ?_ ?_ (Qbz 17 5375) (Qao) ?_
  refine Qpu 13 20 ?_ ?_ (Qbz 17 13567) (Qao) ?_
  refine one_ (i := 8) (N := some 15) (Qbz 17 13823) rfl rfl (one_of HT_.out (by kernel_rfl)) (by decide) (fun K hK => ?_)
  refine goes_ Tryd.func101 (by kernel_rfl) rfl #[.slice A0 l0.length c0, .int .i64 ji5, .int .i64 (Go.bits .or .i64 a2 (ji5))] (by rfl) rfl rfl (by (try simp only [List.map_toArray, List.map_cons, List.map_nil]); first | done | (simp only [hji5]; rfl) | rfl | (simp only [List.length_drop, List.length_take]; rfl)) ?_
  with_reducible refine (width_town_part.calls (hGL := (Qlg)) k _ _ l0 ji5 (Go.bits .or .i64 a2 (ji5)) t588 _ ?side1 ?side2 A7.out).mono ?_
  (case side1 => exact Qsc (Kd.C_below HR0.out HB.out))
  (case side2 => exact HC0.out)
  rintro e w12 ⟨rfl, hb⟩
  refine ⟨_, rfl, ?_⟩
  have n0_ := Aside0.mk (below_step (Qaw) hb)
  clear HB
  have HB := n0_
  clear n0_
  (try clear hb)
  (try clear hb2)
  (try clear hk)
  (try clear hi)
  refine hK.out _ _ trivial (fun hHeld => ?_)
  clear hK K
  refine norm_ (a' := ?_) ?_ ?_
  rotate_left
  ·show Act.put _ (some 15) _ = _
   simp only [Act.put, Qp1, Qp2, Qp3, i64_w, i32_w]
   rfl
  refine one_ (i := 9) (N := some 16) (Qbz 17 14335) rfl rfl (one_of HT_.out (by kernel_rfl)) (by decide) (fun K hK => ?_)
  refine goes_ Tryd.func100 (by kernel_rfl) rfl #[.slice A0 l0.length c0, .int .i64 t588] (by rfl) rfl rfl (Qls) ?_
  with_reducible refine (width_town_around.calls (hGL := (Qlg)) k _ _ l0 t588 t589 _ ?side1 ?side2 A8.out).mono ?_
  (case side1 => exact Qsc (Kd.C_below HR0.out HB.out))
  (case side2 => exact HC0.out)
  rintro e w13 ⟨rfl, hb⟩
  refine ⟨_, rfl, ?_⟩
  have n0_ := Aside0.mk (below_step (Qaw) hb)
  clear HB
  have HB := n0_
  clear n0_
  (try clear hb)
  (try clear hb2)
  (try clear hk)
  (try clear hi)
  refine hK.out _ _ trivial (fun hHeld => ?_)
  clear hK K
  refine norm_ (a' := ?_) ?_ ?_
  rotate_left
  ·show Act.put _ (some 16) _ = _
   simp only [Act.put, Qp1, Qp2, Qp3, i64_w, i32_w]
   rfl
  refine Qpu 11 18 ?_ ?_ (Qbz 17 16383) (Qao) ?_
  refine Qpu 14 21 ?_ ?_ (Qbz 17 32767) (Qao) ?_
  refine one_ (i := 15) (N := some 22) (Qbz 17 65535) rfl rfl (one_of HT_.out (by kernel_rfl)) (by decide) (fun K hK => ?_)
  refine goes_ Tryd.func120 (by kernel_rfl) rfl #[.int .i64 (Go.bits .andNot .i64 (Go.bits .andNot .i64 t589 a2) (ji5))] (by rfl) rfl rfl (by (try simp only [List.map_toArray, List.map_cons, List.map_nil]); first | done | (simp only [hji5]; rfl) | rfl | (simp only [List.length_drop, List.length_take]; rfl)) ?_
  with_reducible refine (width_count.calls (Go.bits .andNot .i64 (Go.bits .andNot .i64 t589 a2) (ji5)) t590 _ A10.out).mono ?_
  rintro e w' ⟨rfl, ⟨nd, rfl⟩⟩
  refine ⟨_, rfl, ?_⟩
  refine hK.out _ _ trivial (fun hHeld => ?_)
  clear hK K
  refine norm_ (a' := ?_) ?_ ?_
  rotate_left
  ·show Act.put _ (some 22) _ = _
   simp only [Act.put, Qp1, Qp2, Qp3, i64_w, i32_w]
   rfl
  refine Qpu 16 6 ?_ ?_ (Qbz 17 131071) (Qao) ?_
  refine done_ (done_of HT_.out (by kernel_rfl)) ?_
  try go_wp2
  go_ret
  exact ⟨by first | rfl | (simp [errW_none, errW_some] <;> rfl) | (simp only [← hji5]; first | rfl | (simp [errW_none, errW_some] <;> rfl)) | (simp [*, errW_none, errW_some] <;> rfl), by repeat (first | (with_reducible first | exact HB.out | apply below_alloc | apply pw_below_drewN | apply below_drew1) | exact HB.out)⟩
 ·rw [if_neg c4] at H
  exact absurd H (by simp)
end
noncomputable section
def width_town_all.f (l0 : List Int) : Option (Int) := some (wrap64 ((shl .i64 1 (l0.length : Int)) - 1))
set_option maxHeartbeats 8000000 in
set_option maxRecDepth 100000 in
theorem width_town_all.calls (A0 : Option Addr) (c0 : Nat) (l0 : List Int) (r : Int) (w : World) (hr0 : Kd.C (Kd.int .i64) w A0 l0.length l0) (hc0 : l0.length ≤ c0) (h : width_town_all.f l0 = some r) :
  Calls Tryd.prog 98 #[.slice A0 l0.length c0] w fun e w' => e = .returned (.int .i64 r) ∧ Drawn0 w w' := by
 have HR0 := Aside0.mk hr0
 have HC0 := Aside0.mk hc0
 clear hr0 hc0
 have H : (some (wrap64 ((shl .i64 1 (l0.length : Int)) - 1))) = some r := h
 clear h
 obtain ⟨ji2, hji2⟩ : ∃ j_ : Int, (shl .i64 1 (l0.length : Int)) = j_ := ⟨_, rfl⟩
 replace H : (some (wrap64 ((ji2) - 1))) = some r := by first | (rw [hji2] at H; exact H) | (simp only [hji2] at H ⊢; exact H)
 have hji2_ : (IntKind.i64.wrap (1 * 2 ^ min (l0.length : Int).toNat 64)) = ji2 := hji2
 have hji2z : (l0.length : Int) ≤ 64 → (IntKind.i64.wrap (1 * 2 ^ (l0.length : Int).toNat)) = ji2 := shl_small hji2
 have hji2p : (IntKind.i64.wrap (1 * 2 ^ min l0.length 64)) = ji2 := hji2_
 have hji2q : (l0.length : Int) ≤ 64 → (IntKind.i64.wrap (1 * 2 ^ l0.length)) = ji2 := hji2z
 have hji2r : (IntKind.i64.wrap (2 ^ min l0.length 64)) = ji2 := by have h_ := hji2p; rw [Int.one_mul] at h_; exact h_
 have hji2s : (l0.length : Int) ≤ 64 → (IntKind.i64.wrap (2 ^ l0.length)) = ji2 := fun hle_ => by have h_ := hji2q hle_; rw [Int.one_mul] at h_; exact h_
 have hji2u : (IntKind.i64.wrap (2 ^ min (l0.length : Int).toNat 64)) = ji2 := by have h_ := hji2_; rw [Int.one_mul] at h_; exact h_
 have hji2v : (l0.length : Int) ≤ 64 → (IntKind.i64.wrap (2 ^ (l0.length : Int).toNat)) = ji2 := fun hle_ => by have h_ := hji2z hle_; rw [Int.one_mul] at h_; exact h_
 have hji2y : (wrap64 (1 * 2 ^ min (l0.length : Int).toNat 64)) = ji2 := (i64_w _).symm.trans hji2_
 have hji2x : (l0.length : Int) ≤ 64 → (wrap64 (1 * 2 ^ (l0.length : Int).toNat)) = ji2 := fun h_ => (i64_w _).symm.trans (hji2z h_)
 obtain rfl := Option.some.inj H
 go_enter Tryd.func98, Tryd.ntmps98
 go_wp2
 go_ret
 exact ⟨by first | rfl | (simp; done) | (simp only [← hji2] <;> (first | rfl | simp)) | (simp [*]; done), by repeat (first | exact Drawn0.refl _ | apply Drawn0.step)⟩
end
end Go.Proofs.YtjloppfdagfpmaaDoor.X
end
section
namespace Go.Proofs.YtjloppfdagfpmaaDoor.X
open Go.RowKit YtjloppfdagfpmaaDoorW.PrintWords YtjloppfdagfpmaaDoorW.PrintLast YtjloppfdagfpmaaDoorW.PrintMore YtjloppfdagfpmaaDoor.T
theorem nodes_allV : ∀ x : Fin 512, width_nodes.f 12 (x.val : Int) = some (gi (els x.val 9)) := by decide +kernel
theorem nodes_evV (x : Nat) (hx : x < 512) : Ev (fun k => width_nodes.f k (x : Int)) (gi (els x 9)) :=
 Ev.of (width_nodes.mono _) (nodes_allV ⟨x, hx⟩)
theorem count_allV : ∀ x : Fin 512, width_count.f (x.val : Int) = some (pc x.val 9 : Int) := by decide +kernel
theorem count_eqV (x : Nat) (hx : x < 512) : width_count.f (x : Int) = some (pc x 9 : Int) := count_allV ⟨x, hx⟩
theorem smallV (G : List Nat) (h : G.length ≤ 9) {x : Nat} (hx : x < 2 ^ G.length) : x < 512 := Nat.lt_of_lt_of_le hx (show 2 ^ G.length ≤ 2 ^ 9 from Nat.pow_le_pow_right (by omega) h)
theorem bigV {x : Nat} (h : x < 512) : x < 2 ^ 62 := by omega
theorem around_l0V (G : List Nat) (hG : Gr 9 G) (L : List Nat) (hL : ∀ x ∈ L, x < G.length) (hLl : L.length ≤ 100) : ∀ d i (o : Nat), i + d = L.length → o < 2 ^ G.length →
  ∃ r : Nat, Ev (fun k => width_town_around.l0 k (gi G) (o : Int) (gi L) (L.length : Int) (i : Int)) (r : Int) ∧ r < 2 ^ G.length ∧ ∀ j, bset r j ↔ bset o j ∨ ∃ x, x ∈ L.drop i ∧ Adj G x j := by
 intro d
 induction d with
 | zero =>
  intro i o hi ho
  refine ⟨o, Ev.step (f := fun _ => some (o : Int)) (fun k => ?_) (Ev.some rfl), ho, fun j => ?_⟩
  ·rw [width_town_around.l0, if_neg (by omega)]
  ·rw [List.drop_eq_nil_of_le (by omega)]; simp
 | succ d ih =>
  intro i o hi ho
  have hi' : i < L.length := by omega
  have hm := hL _ (List.getElem_mem hi')
  have hr : rd (gi L) (i : Int) = ((L[i] : Nat) : Int) := by rw [rd_gi, List.getD_eq_getElem?_getD, List.getElem?_eq_getElem hi']; rfl
  have hrow := hG.row L[i]
  have ho2 : o ||| G.getD L[i] 0 < 2 ^ G.length := or_lt ho hrow
  obtain ⟨r, h1, h2, h3⟩ := ih (i + 1) (o ||| G.getD L[i] 0) (by omega) ho2
  refine ⟨r, Ev.step (fun k => ?_) h1, h2, fun j => ?_⟩
  ·rw [width_town_around.l0, if_pos (by omega), if_pos (by omega), if_pos (by rw [gi_length]; omega), hr, if_pos (by omega), if_pos (by rw [gi_length]; omega), rd_gi,
    b_or _ _ (bigV (smallV G hG.most ho)) (bigV (smallV G hG.most hrow)), wrap_succ i (by omega)]
  ·rw [h3, or_bset, List.drop_eq_getElem_cons hi']
   constructor
   ·rintro ((h | h) | ⟨x, hx, ha⟩)
    ·exact .inl h
    ·exact .inr ⟨_, List.mem_cons_self, h⟩
    ·exact .inr ⟨x, List.mem_cons_of_mem _ hx, ha⟩
   ·rintro (h | ⟨x, hx, ha⟩)
    ·exact .inl (.inl h)
    ·rcases List.mem_cons.1 hx with h | h
     ·subst h; exact .inl (.inr ha)
     ·exact .inr ⟨x, h, ha⟩
theorem around_evV (G : List Nat) (hG : Gr 9 G) (s : Nat) (hs : s < 2 ^ G.length) : Ev (fun k => width_town_around.f k (gi G) (s : Int)) ((Around G s : Nat) : Int) := by
 have hs5 := smallV G hG.most hs
 obtain ⟨r, h1, h2, h3⟩ := around_l0V G hG (els s 9) (fun x hx => bit_lt hs (mem_els.1 hx).2) (by rw [els_length]; have := pc_le s 9; omega) (els s 9).length 0 0 (by omega) (Nat.two_pow_pos _)
 have e : r = Around G s := eq_of_bits fun j => by
  have hh := h3 j
  rw [Around_bit hG]
  unfold bset at hh
  rw [hh]
  constructor
  ·rintro (h | ⟨x, hx, ha⟩)
   ·simp at h
   ·exact ⟨x, (mem_els.1 hx).2, ha⟩
  ·rintro ⟨x, hx, ha⟩
   exact .inr ⟨x, mem_els.2 ⟨Nat.lt_of_lt_of_le (bit_lt hs hx) hG.most, hx⟩, ha⟩
 subst e
 refine Ev.bind (nodes_evV s hs5) ?_
 rw [gi_length]
 exact h1
theorem part_l0V (G : List Nat) (hG : Gr 9 G) (s w : Nat) (hs : s < 2 ^ G.length) (hw : w < 2 ^ G.length) : ∀ d x, 2 ^ G.length - x = d → x < 2 ^ G.length → (∀ j, bset s j → bset x j) → (∀ j, bset x j → Con (Adj G) (bset w) (bset s) j) →
  Ev (fun k => width_town_part.l0 k (gi G) (x : Int) (w : Int)) ((conset G s w : Nat) : Int) := by
 intro d
 induction d using Nat.strongRecOn with
 | _ d ih =>
  intro x hd hx h1 h2
  have hA := Around_lt hG x
  have hb : Go.bits .or .i64 (x : Int) (Go.bits .and .i64 ((Around G x : Nat) : Int) (w : Int)) = ((x ||| (Around G x &&& w) : Nat) : Int) := by
   rw [b_and _ _ (bigV (smallV G hG.most hA)) (bigV (smallV G hG.most hw)), b_or _ _ (bigV (smallV G hG.most hx)) (Nat.lt_of_le_of_lt Nat.and_le_left (bigV (smallV G hG.most hA)))]
  have hy : x ||| (Around G x &&& w) < 2 ^ G.length := or_lt hx (Nat.lt_of_le_of_lt Nat.and_le_left hA)
  refine Ev.step (fun k => by rw [width_town_part.l0]) (Ev.bind (around_evV G hG x hx) ?_)
  simp only [hb]
  by_cases e : x ||| (Around G x &&& w) = x
  ·refine Ev.if_pos (by rw [e]) (Ev.some ?_)
   congr 1
   refine conset_eq hG hs hx h1 h2 fun i j hi ha hj => ?_
   rw [← e, or_bset, and_bset]
   exact .inr ⟨(Around_bit hG x j).2 ⟨i, hi, ha⟩, hj⟩
  ·refine Ev.if_neg (by omega) ?_
   have hle : x ≤ x ||| (Around G x &&& w) := Nat.left_le_or
   refine ih (2 ^ G.length - (x ||| (Around G x &&& w))) (by omega) _ rfl hy (fun j hj => (or_bset _ _ _).2 (.inl (h1 j hj))) fun j hj => ?_
   rcases (or_bset _ _ _).1 hj with h | h
   ·exact h2 j h
   ·obtain ⟨ha, hw'⟩ := (and_bset _ _ _).1 h
    obtain ⟨i, hi, hij⟩ := (Around_bit hG x j).1 ha
    exact .step (h2 i hi) hij hw'
theorem part_evV (G : List Nat) (hG : Gr 9 G) (s w : Nat) (hs : s < 2 ^ G.length) (hw : w < 2 ^ G.length) : Ev (fun k => width_town_part.f k (gi G) (s : Int) (w : Int)) ((conset G s w : Nat) : Int) :=
 part_l0V G hG s w hs hw _ s rfl hs (fun _ h => h) (fun _ h => .base h)
theorem degree_evV (G : List Nat) (hG : Gr 9 G) (gone v : Nat) (hg : gone < 2 ^ G.length) (hv : v < G.length) :
  Ev (fun k => width_town_degree.f k (gi G) (v : Int) (gone : Int)) ((pc (nbset G gone v) 9 : Nat) : Int) := by
 have hp : 2 ^ v < 2 ^ G.length := Nat.pow_lt_pow_right (by omega) hv
 have hn := hG.most
 have hc := conset_lt G (2 ^ v) (gone ||| 2 ^ v)
 have hA := Around_lt hG (conset G (2 ^ v) (gone ||| 2 ^ v))
 have hd : diff (Around G (conset G (2 ^ v) (gone ||| 2 ^ v))) gone < 2 ^ G.length := Nat.lt_of_le_of_lt (diff_le _ _) hA
 unfold width_town_degree.f
 refine Ev.if_pos (by omega) ?_
 simp only [s_one v (by omega), b_or gone (2 ^ v) (bigV (smallV G hn hg)) (bigV (smallV G hn hp))]
 refine Ev.bind (part_evV G hG _ _ hp (or_lt hg hp)) ?_
 refine Ev.bind (around_evV G hG _ hc) ?_
 simp only [b_andNot _ gone (bigV (smallV G hn hA)) (bigV (smallV G hn hg)), b_andNot _ (2 ^ v) (bigV (smallV G hn hd)) (bigV (smallV G hn hp))]
 exact Ev.bind1 (count_eqV _ (smallV G hn (nbset_lt hG gone v))) (Ev.some rfl)
theorem all_eqV (G : List Nat) (h : G.length ≤ 9) : width_town_all.f (gi G) = some ((2 ^ G.length - 1 : Nat) : Int) := by
 unfold width_town_all.f
 have h1 : 2 ^ G.length ≤ 2 ^ 9 := Nat.pow_le_pow_right (by omega) h
 have h2 := Nat.two_pow_pos G.length
 rw [gi_length, s_one _ (by omega), w64_small _ (by omega) (by omega)]
 congr 1
 omega
end Go.Proofs.YtjloppfdagfpmaaDoor.X
end
section
namespace Go.Proofs.YtjloppfdagfpmaaDoor.X
open Go.RowKit YtjloppfdagfpmaaDoorW.PrintWords YtjloppfdagfpmaaDoorW.PrintLast YtjloppfdagfpmaaDoorW.PrintMore
attribute [local go_sem] max2_int min2_int max_two min_two max_three min_three max_four min_four
noncomputable section
mutual
def width_town_widths.l0 : Nat → List Int → List Int → Int → Option (List Int)
 | 0, _, _, _ => none
 | k + 1, x0, x3, x4 => if x4 < (x3.length : Int) then (if 0 ≤ x4 then ((width_nodes.f k x4).bind fun t595 => (width_town_widths.l1 k x0 (x3.set (x4 : Int).toNat (x0.length : Int)) x4 t595 (t595.length : Int) 0)) else (none)) else (some x3)
def width_town_widths.l1 : Nat → List Int → List Int → Int → List Int → Int → Int → Option (List Int)
 | 0, _, _, _, _, _, _ => none
 | k + 1, x0, x3, x4, x23, x24, x25 => if x25 < x24 then (if 0 ≤ x25 then (if x25 < (x23.length : Int) then (if 0 ≤ x4 then (if x4 < (x3.length : Int) then (if 0 ≤ (rd x23 x25) then (if 0 ≤ (Go.bits .andNot .i64 x4 (shl .i64 1 (rd x23 x25))) then (if (Go.bits .andNot .i64 x4 (shl .i64 1 (rd x23 x25))) < (x3.length : Int) then ((width_town_degree.f k x0 (rd x23 x25) (Go.bits .andNot .i64 x4 (shl .i64 1 (rd x23 x25)))).bind fun t601 => (width_town_widths.l1 k x0 (x3.set (x4 : Int).toNat (mn (rd x3 x4) (mx (rd x3 (Go.bits .andNot .i64 x4 (shl .i64 1 (rd x23 x25)))) t601))) x4 x23 x24 (wrap64 (x25 + 1)))) else (none)) else (none)) else (none)) else (none)) else (none)) else (none)) else (none)) else (width_town_widths.l0 k x0 x3 (wrap64 (x4 + 1)))
end
def width_town_widths.f (k : Nat) (l0 : List Int) : Option (List Int) := if 0 ≤ (shl .i64 1 (l0.length : Int)) then (if (shl .i64 1 (l0.length : Int) : Int).toNat ≤ 35184372088832 then (width_town_widths.l0 k l0 (List.replicate (shl .i64 1 (l0.length : Int) : Int).toNat 0) 1) else (none)) else (none)
def width_town_widths.T9 : Bool × List (List Nat × List Nat) := (true, [([], []), ([], []), ([], []), ([], []), ([2, 3], [2, 3]), ([4], [4]), ([], []), ([], []), ([], []), ([8], [8]), ([7, 9], [7, 9]), ([6, 10], [6, 10]), ([11], [11]), ([], []), ([], []), ([], []), ([], []), ([16], [16]), ([15, 17], [15, 17]), ([13, 14, 18], [13, 14, 18]), ([12, 19], [12, 19]), ([5, 20], [5, 20]), ([0, 1, 0, 1, 2, 3, 4, 5, 6, 7, 8, 9, 10, 11, 12, 13, 14, 15, 16, 17, 18, 19, 20, 21], [0, 1]), ([22, 21, 19, 0, 1, 2, 3, 4, 5, 6, 7, 8, 9, 10, 11, 12, 13, 14, 15, 16, 17, 18, 19, 20, 21], [21, 22])])
def width_town_widths.B9 : List Nat := [0, 0, 0, 0, 12, 28, 0, 0, 0, 256, 896, 1984, 4032, 0, 0, 0, 0, 65536, 229376, 516096, 1048512, 2097148, 4194303, 8388607]
theorem width_town_widths.tab9 : rtab .any (opsOf Tryd.f97 9) = width_town_widths.T9 := by kernel_rfl
theorem width_town_widths.bits9 : waitsOk width_town_widths.T9.2 width_town_widths.B9 = true := by kernel_rfl
set_option maxHeartbeats 8000000 in
set_option maxRecDepth 100000 in
theorem width_town_widths.calls (k : Nat) (A0 : Option Addr) (c0 : Nat) (l0 : List Int) (r : List Int) (w : World) (hGL : GL w) (hr0 : Kd.C (Kd.int .i64) w A0 l0.length l0) (hc0 : l0.length ≤ c0) (h : width_town_widths.f k l0 = some r) :
  Calls Tryd.prog 97 #[.slice A0 l0.length c0] w fun e w' => ∃ v0_ : Value, e = .returned (v0_) ∧ Kd.R (Kd.int .i64) 3 w' w.heap.size (fun _ => True) v0_ r ∧ Below w.heap.size w w' := by
 have HGL := Aside0.mk hGL
 clear hGL
 have HR0 := Aside0.mk hr0
 have HC0 := Aside0.mk hc0
 clear hr0 hc0
 have HB := Aside0.mk (Below.refl w.heap.size w)
 have H : (if 0 ≤ (shl .i64 1 (l0.length : Int)) then (if (shl .i64 1 (l0.length : Int) : Int).toNat ≤ 35184372088832 then (width_town_widths.l0 k l0 (List.replicate (shl .i64 1 (l0.length : Int) : Int).toNat 0) 1) else (none)) else (none)) = some r := h
 clear h
 obtain ⟨ji2, hji2⟩ : ∃ j_ : Int, (shl .i64 1 (l0.length : Int)) = j_ := ⟨_, rfl⟩
 replace H : (if 0 ≤ (ji2) then (if (ji2 : Int).toNat ≤ 35184372088832 then (width_town_widths.l0 k l0 (List.replicate (ji2 : Int).toNat 0) 1) else (none)) else (none)) = some r := by first | (rw [hji2] at H; exact H) | (simp only [hji2] at H ⊢; exact H)
 have hji2_ : (IntKind.i64.wrap (1 * 2 ^ min (l0.length : Int).toNat 64)) = ji2 := hji2
 have hji2z : (l0.length : Int) ≤ 64 → (IntKind.i64.wrap (1 * 2 ^ (l0.length : Int).toNat)) = ji2 := shl_small hji2
 have hji2p : (IntKind.i64.wrap (1 * 2 ^ min l0.length 64)) = ji2 := hji2_
 have hji2q : (l0.length : Int) ≤ 64 → (IntKind.i64.wrap (1 * 2 ^ l0.length)) = ji2 := hji2z
 have hji2r : (IntKind.i64.wrap (2 ^ min l0.length 64)) = ji2 := by have h_ := hji2p; rw [Int.one_mul] at h_; exact h_
 have hji2s : (l0.length : Int) ≤ 64 → (IntKind.i64.wrap (2 ^ l0.length)) = ji2 := fun hle_ => by have h_ := hji2q hle_; rw [Int.one_mul] at h_; exact h_
 have hji2u : (IntKind.i64.wrap (2 ^ min (l0.length : Int).toNat 64)) = ji2 := by have h_ := hji2_; rw [Int.one_mul] at h_; exact h_
 have hji2v : (l0.length : Int) ≤ 64 → (IntKind.i64.wrap (2 ^ (l0.length : Int).toNat)) = ji2 := fun hle_ => by have h_ := hji2z hle_; rw [Int.one_mul] at h_; exact h_
 have hji2y : (wrap64 (1 * 2 ^ min (l0.length : Int).toNat 64)) = ji2 := (i64_w _).symm.trans hji2_
 have hji2x : (l0.length : Int) ≤ 64 → (wrap64 (1 * 2 ^ (l0.length : Int).toNat)) = ji2 := fun h_ => (i64_w _).symm.trans (hji2z h_)
 by_cases c3 : 0 ≤ (ji2)
 ·rw [if_pos c3] at H
  have c3b0 := eq_true c3
  have c3b1 : decide (0 ≤ (ji2)) = true := decide_eq_true c3
  clear c3
  by_cases c4 : (ji2 : Int).toNat ≤ 35184372088832
  ·rw [if_pos c4] at H
   have c4b0 := eq_true c4
   have c4b1 : decide ((ji2 : Int).toNat ≤ 35184372088832) = true := decide_eq_true c4
   clear c4
   obtain ⟨y591, hy591⟩ : ∃ y_ : List Int, y_ = (List.replicate (ji2 : Int).toNat 0) := ⟨_, rfl⟩
   replace H : (width_town_widths.l0 k l0 y591 1) = some r := by first | (rw [hy591]; with_reducible exact H) | (have H2_ := (Option.bind_some _ _).symm.trans H; rw [hy591]; with_reducible exact H2_) | (have H2_ := (Option.bind_some _ _).symm.trans H; with_reducible exact H2_) | with_reducible exact H | (rw [hy591]; exact H) | exact H
   have Ny591 := Aside0.mk hy591
   clear hy591
   have H' := Aside0.mk H
   clear H
   go_enter Tryd.func97, Tryd.ntmps97
   go_wp2_with (first | ((with_reducible refine gate_dst (N := 10) rfl ?_); refine Kd.R_make (Kd.int .i64) _ 3 rfl (N := 10) rfl 22 _ _ rfl ji2 rfl rfl Tryd.underlying22 (.int .i64 0) 8 info3 rfl (by decide) (by omega) 0 (ok := fun _ => True) (okp := fun _ => True) rfl (fun _ hk => hk) trivial (of_decide_eq_true (Qas)) (Nat.le_trans (Nat.mul_le_mul_right _ (of_decide_eq_true (Qas) : ji2.toNat ≤ 35184372088832)) (by omega)) (Below.refl _ _) (Nat.le_refl _) ?_; intro v592 w5 ho6 hb hg_ hnew_; clear hg_ hnew_; (first | rw [← Ny591.out] at ho6 | (simp only [Int.reduceToNat] at ho6; rw [← Ny591.out] at ho6)); have n0_ := Aside0.mk (Kd.R_lower ho6 (below_size (Qaw))); have n1_ := Aside0.mk (below_step (Qaw) hb); clear HB; have HO593 := n0_; have HB := n1_; clear n0_ n1_; clear hb ho6))
   go_loopg [4] k (fun kq v4 w' => ∃ (x3_1 : List Int) (x4_1 : Int), v4 = .int .i64 x4_1 ∧ Aside0 (width_town_widths.l0 kq l0 x3_1 x4_1 = some r) ∧ Aside0 (kq ≤ k) ∧ Aside0 (Kd.R (Kd.int .i64) 3 w' w.heap.size (fun _ => True) v592 x3_1) ∧ Aside0 (Below w.heap.size w w'))
   case atStart => exact ⟨(y591), (1), (Qrs), H', ⟨Nat.le_refl _⟩, ⟨by (with_reducible repeat (first | apply Kd.R_alloc | apply Kd.R_drewN | apply Kd.R_drew)); exact HO593.out⟩, ⟨by repeat (first | (with_reducible first | exact HB.out | apply below_alloc | apply pw_below_drewN | apply below_drew1) | exact HB.out)⟩⟩
   case round =>
    clear H'
    try clear p2
    try clear c3
    try clear c3b0
    try clear c3b1
    try clear c4
    try clear c4b0
    try clear c4b1
    try clear p6
    obtain ⟨x3_1, x4_1, rfl, HA, HK1, HO_3, HB⟩ := hrel
    cases gk with
    | zero => exact absurd HA.out (by simp [width_town_widths.l0])
    | succ k1 =>
     have H := HA.out
     clear HA
     simp only [width_town_widths.l0] at H
     by_cases c7 : x4_1 < (x3_1.length : Int)
     ·rw [if_pos c7] at H
      have c7b0 : decide (x4_1 < (x3_1.length : Int)) = true := decide_eq_true c7
      clear c7
      by_cases c8 : 0 ≤ x4_1
      ·rw [if_pos c8] at H
       have c8b0 : decide (0 ≤ x4_1) = true := decide_eq_true c8
       clear c8
       obtain ⟨y594, hy594⟩ : ∃ y_ : List Int, y_ = (x3_1.set (x4_1 : Int).toNat (l0.length : Int)) := ⟨_, rfl⟩
       replace H : ((width_nodes.f k1 x4_1).bind fun t595 => (width_town_widths.l1 k1 l0 y594 x4_1 t595 (t595.length : Int) 0)) = some r := by first | (rw [hy594]; with_reducible exact H) | (have H2_ := (Option.bind_some _ _).symm.trans H; rw [hy594]; with_reducible exact H2_) | (have H2_ := (Option.bind_some _ _).symm.trans H; with_reducible exact H2_) | with_reducible exact H | (rw [hy594]; exact H) | exact H
       have Ny594 := Aside0.mk hy594
       clear hy594
       replace H := Option.bind_eq_some_iff.mp H
       obtain ⟨t595, A100, H⟩ := H
       replace H : (width_town_widths.l1 k1 l0 y594 x4_1 t595 (t595.length : Int) 0) = some r := H
       have A10 := Aside0.mk A100
       clear A100
       have H' := Aside0.mk H
       clear H
       obtain ⟨Ao11, co11, eo11⟩ := Kd.R_slice HO_3.out
       subst eo11
       have p9 : 0 ≤ (x4_1 : Int) := of_decide_eq_true (Qas)
       have q9 : (x4_1 : Int) < ((x3_1.length : Int) : Int) := of_decide_eq_true (Qas)
       obtain ⟨go9, co9, eo9, gb9, gl9, cl9, HG9⟩ := Kd.R_form HO_3.out (by omega)
       (first | cases eo9 | (injection eo9 with ea_ en_ ec_; (first | subst ea_ | (injection ea_ with ea_; subst ea_)); subst ec_; clear en_))
       have GB9 := Aside0.mk gb9
       have GG9 := Aside0.mk HG9
       clear gb9 gl9 HG9
       obtain ⟨hx9_0, hf9_0⟩ := Kd.R_celln 0 HO_3.out (x4_1 : Int) p9 q9
       replace p9 := eq_true p9
       replace q9 := eq_true q9
       have HP12 := Kd.R_putg HO_3.out (x4_1 : Int) (l0.length : Int)
       go_wp2_with (first | ((with_reducible refine gate_store (t := 3) (p := 21) rfl ?_); refine store_event (t := 3) (p := 21) (v := ?vo_w13) (w1 := (wr.setCell ⟨go9, (x4_1 : Int).toNat, none⟩ (.int .i64 (l0.length : Int)))) ?hg ?ho ?hn ?hr ?_; (case ho => rfl); (case hg => rfl); (case hn => rfl); (case hr => first | (go_simp; done) | (go_simp; rfl)); intro w13 hw; have hg : wr.grownBy w13 (some go9) := (by rw [hw]; exact HP12.2); have hp_ : Kd.R (Kd.int .i64) 3 w13 w.heap.size (fun _ => True) (.slice (some ⟨go9, 0, none⟩) x3_1.length co11) y594 := (by rw [hw, Ny594.out]; exact HP12.1); clear HP12; have n0_ := Aside0.mk (hp_); have n1_ := Aside0.mk ((by rw [hw]; exact below_set (HB.out) GB9.out : Below w.heap.size w w13)); clear HO_3; clear HB; have HO_3 := n0_; have HB := n1_; clear n0_ n1_; clear hg hw hp_) | ((with_reducible refine gate_callee (f := 104) rfl ?_); refine goesL_ (some 23) rfl rfl Tryd.func104 (by kernel_rfl) rfl #[.int .i64 x4_1] rfl (Qls) ?_; (with_reducible refine (width_nodes.calls (hGL := (Qlg)) k1 x4_1 t595 _ A10.out).mono ?_); rintro e w14 ⟨v596, rfl, ho0, hb⟩; refine ⟨_, rfl, ?_⟩; have n0_ := Aside0.mk (Kd.R_elder' (Qro HO_3.out) (Kd.R_base ho0) hb); have n1_ := Aside0.mk (Kd.R_lower (Kd.R_new' ho0 (Kd.R_lt (Qro HO_3.out))) (below_size (Qaw))); have n2_ := Aside0.mk (below_step (Qaw) hb); clear HO_3; clear HB; have HO_3 := n0_; have HO597 := n1_; have HB := n2_; clear n0_ n1_ n2_; (try clear hb); (try clear hb2); (try clear hk); (try clear hi); (try clear ho0); obtain ⟨Ao15, co15, eo15⟩ := Kd.R_slice HO597.out; subst eo15))
       go_loopg [25] k1 (fun kq v25 w' => ∃ (x3_2 : List Int) (x25_2 : Int), v25 = .int .i64 x25_2 ∧ Aside0 (width_town_widths.l1 kq l0 x3_2 x4_1 t595 (t595.length : Int) x25_2 = some r) ∧ Aside0 (kq ≤ k1) ∧ Aside0 (Kd.R (Kd.int .i64) 3 w' w.heap.size (fun k_ => some k_ ≠ ((.slice Ao15 t595.length co15) : Value).ownBlock) (.slice (some ⟨go9, 0, none⟩) x3_1.length co11) x3_2) ∧ Aside0 (Kd.R (Kd.int .i64) 3 w' w.heap.size (fun k_ => some k_ ≠ ((.slice (some ⟨go9, 0, none⟩) x3_1.length co11) : Value).ownBlock) (.slice Ao15 t595.length co15) t595) ∧ Aside0 (Below w.heap.size w w'))
       case atStart => exact ⟨(y594), (0), (Qrs), H', ⟨Nat.le_refl _⟩, ⟨by (with_reducible repeat (first | apply Kd.R_alloc | apply Kd.R_drewN | apply Kd.R_drew)); exact Kd.R_mono HO_3.out (fun _ hk => hk.2)⟩, ⟨by (with_reducible repeat (first | apply Kd.R_alloc | apply Kd.R_drewN | apply Kd.R_drew)); exact Kd.R_mono HO597.out (fun _ hk => hk.2)⟩, ⟨by repeat (first | (with_reducible first | exact HB.out | apply below_alloc | apply pw_below_drewN | apply below_drew1) | exact HB.out)⟩⟩
       case round =>
        clear H'
        try clear c1
        try clear p2
        try clear c3
        try clear c3b0
        try clear c3b1
        try clear c4
        try clear c4b0
        try clear c4b1
        try clear p6
        try clear c7
        try clear c7b0
        try clear c8
        try clear c8b0
        try clear c9
        try clear p9
        try clear q9
        try clear hx9
        try clear hf9
        try clear c10
        try clear hx9_0
        try clear p2
        try clear p6
        try clear p9
        try clear q9
        obtain ⟨x3_2, x25_2, rfl, HA, HK2, HO_3, HO_23, HB⟩ := hrel
        have hl3_2 := (Kd.R_reads' HO_3.out).1
        rw [hl3_2] at HO_3
        (try simp only [hl3_2])
        (try simp only [hl3_2] at HO_23)
        cases gk with
        | zero => exact absurd HA.out (by simp [width_town_widths.l1])
        | succ k2 =>
         have H := HA.out
         clear HA
         simp only [width_town_widths.l1] at H
         by_cases c16 : x25_2 < (t595.length : Int)
         ·rw [if_pos c16] at H
          have c16b0 : decide (x25_2 < (t595.length : Int)) = true := decide_eq_true c16
          clear c16
          by_cases c17 : 0 ≤ x25_2
          ·rw [if_pos c17] at H
           have c17b0 : decide (0 ≤ x25_2) = true := decide_eq_true c17
           clear c17
           by_cases c18 : x25_2 < (t595.length : Int)
           ·rw [if_pos c18] at H
            have c18b0 : decide (x25_2 < (t595.length : Int)) = true := decide_eq_true c18
            clear c18
            by_cases c19 : 0 ≤ x4_1
            ·rw [if_pos c19] at H
             have c19b0 : decide (0 ≤ x4_1) = true := decide_eq_true c19
             clear c19
             by_cases c20 : x4_1 < (x3_2.length : Int)
             ·rw [if_pos c20] at H
              have c20b0 : decide (x4_1 < (x3_2.length : Int)) = true := decide_eq_true c20
              clear c20
              by_cases c21 : 0 ≤ (rd t595 x25_2)
              ·rw [if_pos c21] at H
               have c21b0 := eq_true c21
               have c21b1 : decide (0 ≤ (rd t595 x25_2)) = true := decide_eq_true c21
               clear c21
               obtain ⟨ji22, hji22⟩ : ∃ j_ : Int, (shl .i64 1 (rd t595 x25_2)) = j_ := ⟨_, rfl⟩
               replace H : (if 0 ≤ (Go.bits .andNot .i64 x4_1 (ji22)) then (if (Go.bits .andNot .i64 x4_1 (ji22)) < (x3_2.length : Int) then ((width_town_degree.f k2 l0 (rd t595 x25_2) (Go.bits .andNot .i64 x4_1 (ji22))).bind fun t601 => (width_town_widths.l1 k2 l0 (x3_2.set (x4_1 : Int).toNat (mn (rd x3_2 x4_1) (mx (rd x3_2 (Go.bits .andNot .i64 x4_1 (ji22))) t601))) x4_1 t595 (t595.length : Int) (wrap64 (x25_2 + 1)))) else (none)) else (none)) = some r := by first | (rw [hji22] at H; exact H) | (simp only [hji22] at H ⊢; exact H)
               have hji22_ : (IntKind.i64.wrap (1 * 2 ^ min (rd t595 x25_2).toNat 64)) = ji22 := hji22
               have hji22z : (rd t595 x25_2) ≤ 64 → (IntKind.i64.wrap (1 * 2 ^ (rd t595 x25_2).toNat)) = ji22 := shl_small hji22
               have hji22u : (IntKind.i64.wrap (2 ^ min (rd t595 x25_2).toNat 64)) = ji22 := by have h_ := hji22_; rw [Int.one_mul] at h_; exact h_
               have hji22v : (rd t595 x25_2) ≤ 64 → (IntKind.i64.wrap (2 ^ (rd t595 x25_2).toNat)) = ji22 := fun hle_ => by have h_ := hji22z hle_; rw [Int.one_mul] at h_; exact h_
               have hji22y : (wrap64 (1 * 2 ^ min (rd t595 x25_2).toNat 64)) = ji22 := (i64_w _).symm.trans hji22_
               have hji22x : (rd t595 x25_2) ≤ 64 → (wrap64 (1 * 2 ^ (rd t595 x25_2).toNat)) = ji22 := fun h_ => (i64_w _).symm.trans (hji22z h_)
               by_cases c23 : 0 ≤ (Go.bits .andNot .i64 x4_1 (ji22))
               ·rw [if_pos c23] at H
                have c23b0 : decide (0 ≤ (Go.bits .andNot .i64 x4_1 (ji22))) = true := decide_eq_true c23
                clear c23
                by_cases c24 : (Go.bits .andNot .i64 x4_1 (ji22)) < (x3_2.length : Int)
                ·rw [if_pos c24] at H
                 have c24b0 : decide ((Go.bits .andNot .i64 x4_1 (ji22)) < (x3_2.length : Int)) = true := decide_eq_true c24
                 clear c24
                 have c25b0 := eq_true (of_decide_eq_true (Qas) : 0 ≤ (rd t595 x25_2))
                 replace H := Option.bind_eq_some_iff.mp H
                 obtain ⟨t601, A260, H⟩ := H
                 replace H : (width_town_widths.l1 k2 l0 (x3_2.set (x4_1 : Int).toNat (mn (rd x3_2 x4_1) (mx (rd x3_2 (Go.bits .andNot .i64 x4_1 (ji22))) t601))) x4_1 t595 (t595.length : Int) (wrap64 (x25_2 + 1))) = some r := H
                 have A26 := Aside0.mk A260
                 clear A260
                 obtain ⟨ji27, hji27⟩ : ∃ j_ : Int, (mx (rd x3_2 (Go.bits .andNot .i64 x4_1 (ji22))) t601) = j_ := ⟨_, rfl⟩
                 replace H : (width_town_widths.l1 k2 l0 (x3_2.set (x4_1 : Int).toNat (mn (rd x3_2 x4_1) (ji27))) x4_1 t595 (t595.length : Int) (wrap64 (x25_2 + 1))) = some r := by first | (rw [hji27] at H; exact H) | (simp only [hji27] at H ⊢; exact H)
                 (try rw [hji27] at A26)
                 have hji27_ : (if (rd x3_2 (Go.bits .andNot .i64 x4_1 (ji22))) < t601 then t601 else (rd x3_2 (Go.bits .andNot .i64 x4_1 (ji22)))) = ji27 := hji27
                 obtain ⟨ji28, hji28⟩ : ∃ j_ : Int, (mn (rd x3_2 x4_1) (ji27)) = j_ := ⟨_, rfl⟩
                 replace H : (width_town_widths.l1 k2 l0 (x3_2.set (x4_1 : Int).toNat (ji28)) x4_1 t595 (t595.length : Int) (wrap64 (x25_2 + 1))) = some r := by first | (rw [hji28] at H; exact H) | (simp only [hji28] at H ⊢; exact H)
                 (try rw [hji28] at A26)
                 have hji28_ : (if (ji27) < (rd x3_2 x4_1) then (ji27) else (rd x3_2 x4_1)) = ji28 := hji28
                 obtain ⟨y602, hy602⟩ : ∃ y_ : List Int, y_ = (x3_2.set (x4_1 : Int).toNat (ji28)) := ⟨_, rfl⟩
                 replace H : (width_town_widths.l1 k2 l0 y602 x4_1 t595 (t595.length : Int) (wrap64 (x25_2 + 1))) = some r := by first | (rw [hy602]; with_reducible exact H) | (have H2_ := (Option.bind_some _ _).symm.trans H; rw [hy602]; with_reducible exact H2_) | (have H2_ := (Option.bind_some _ _).symm.trans H; with_reducible exact H2_) | with_reducible exact H | (rw [hy602]; exact H) | exact H
                 have Ny602 := Aside0.mk hy602
                 clear hy602
                 have H' := Aside0.mk H
                 clear H
                 have p598 : 0 ≤ (x25_2 : Int) := of_decide_eq_true (Qas)
                 have q598 : x25_2 < (t595.length : Int) := of_decide_eq_true (Qas)
                 obtain ⟨ad598, e598, hx598_0⟩ := Kd.at_int (Kd.R_reads' HO_23.out).2.2 x25_2 p598 q598
                 cases e598
                 replace p598 := eq_true p598
                 replace q598 := eq_true q598
                 try go_wp2
                 have n0_ := Aside0.mk (Kd.R_drew HO_3.out)
                 have n1_ := Aside0.mk (Kd.R_drew HO_23.out)
                 have n2_ := Aside0.mk (below_drew1 HB.out)
                 clear HO_3
                 clear HO_23
                 clear HB
                 have HO_3 := n0_
                 have HO_23 := n1_
                 have HB := n2_
                 clear n0_ n1_ n2_
                 have p599 : 0 ≤ (x4_1 : Int) := of_decide_eq_true (Qas)
                 have q599 : x4_1 < (x3_2.length : Int) := of_decide_eq_true (Qas)
                 obtain ⟨ad599, e599, hx599_0⟩ := Kd.at_int (Kd.R_reads' HO_3.out).2.2 x4_1 p599 q599
                 obtain rfl : (⟨go9, 0, none⟩ : Addr) = ad599 := (by injection e599)
                 (first | simp only [add_plain] at hx599_0 | simp only [add_at] at hx599_0 | simp only [Addr.add, Nat.zero_add] at hx599_0 | skip)
                 replace p599 := eq_true p599
                 replace q599 := eq_true q599
                 have p600 : 0 ≤ ((Go.bits .andNot .i64 x4_1 (ji22)) : Int) := of_decide_eq_true (Qas)
                 have q600 : (Go.bits .andNot .i64 x4_1 (ji22)) < (x3_2.length : Int) := of_decide_eq_true (Qas)
                 obtain ⟨ad600, e600, hx600_0⟩ := Kd.at_int (Kd.R_reads' HO_3.out).2.2 (Go.bits .andNot .i64 x4_1 (ji22)) p600 q600
                 obtain rfl : (⟨go9, 0, none⟩ : Addr) = ad600 := (by injection e600)
                 (first | simp only [add_plain] at hx600_0 | simp only [add_at] at hx600_0 | simp only [Addr.add, Nat.zero_add] at hx600_0 | skip)
                 replace p600 := eq_true p600
                 replace q600 := eq_true q600
                 refine start_ (n := 24) (S := fun w' => w'.cell? ⟨go9, (x4_1).toNat, none⟩ = some (.int .i64 (rd x3_2 x4_1)) ∧ w'.cell? ⟨go9, ((Go.bits .andNot .i64 x4_1 (ji22))).toNat, none⟩ = some (.int .i64 (rd x3_2 (Go.bits .andNot .i64 x4_1 (ji22))))) (ds := [23]) (Qbz 24 0) (by kernel_rfl) rfl rfl ⟨hx599_0, hx600_0⟩ (fun hHeld => ?_); refine with_tabW width_town_widths.tab9 width_town_widths.bits9 (fun HT_ HW_ => ?_)
                 generalize wr.drew = w30 at HO_3 HO_23 HB hx599_0 hx600_0 hHeld ⊢
                 refine Qpu 0 29 ?_ ?_ (Qbz 24 1) (Qao) ?_
                 refine Qpu 1 30 ?_ ?_ (Qbz 24 3) (Qao) ?_
                 refine Qpu 2 31 ?_ ?_ (Qbz 24 7) (Qao) ?_
                 refine Qpu 3 32 ?_ ?_ (Qbz 24 15) (Qao) ?_
                 refine Qpu 4 33 ?_ ?_ (Qbz 24 31) (Qao) ?_
                 refine Qpu 6 35 ?_ ?_ (Qbz 24 95) (Qao) ?_
                 refine Qpu 7 36 ?_ ?_ (Qbz 24 223) (Qao) ?_
                 refine Qpu 8 37 ?_ ?_ (Qbz 24 479) (Qao) ?_
                 refine Qpu 9 38 ?_ ?_ (Qbz 24 991) (Qao) ?_
                 refine Qpu 10 39 ?_ ?_ (Qbz 24 2015) (Qao) ?_
                 refine Qpu 11 40 ?_ ?_ (Qbz 24 4063) (Qao) ?_
                 refine Qpu 13 42 ?_ ?_ (Qbz 24 12255) (Qao) ?_
                 refine Qpu 14 43 ?_ ?_ (Qbz 24 28639) (Qao) ?_
                 refine Qpu 15 44 ?_ ?_ (Qbz 24 61407) (Qao) ?_
                 refine Qpu 16 45 ?_ ?_ (Qbz 24 126943) (Qao) ?_
                 refine Qpu 17 46 ?_ ?_ (Qbz 24 258015) (Qao) ?_
                 refine Qpu 18 47 ?_ ?_ (Qbz 24 520159) (Qao) ?_
                 refine take_ (i := 5) (N := some 34) (v := ?_) (a' := ?_) (Qbz 24 520191) rfl rfl (take_ofW HT_.out HW_.out (by kernel_rfl)) (fun _ _ _ h => h) (Or.inl ⟨by rfl, ?_⟩) hHeld ?_ ?_;rotate_left;(·rintro w' ⟨s0, s1⟩;go_simp;with_reducible rfl);rotate_left;(·simp only [Act.put, Qp1, Qp2, Qp3, i64_w, i32_w];rfl)
                 refine take_ (i := 12) (N := some 41) (v := ?_) (a' := ?_) (Qbz 24 524287) rfl rfl (take_ofW HT_.out HW_.out (by kernel_rfl)) (fun _ _ _ h => h) (Or.inl ⟨by rfl, ?_⟩) hHeld ?_ ?_;rotate_left;(·rintro w' ⟨s0, s1⟩;go_simp;with_reducible rfl);rotate_left;(·simp only [Act.put, Qp1, Qp2, Qp3, i64_w, i32_w];rfl)
                 refine one_ (i := 19) (N := some 48) (Qbz 24 1048575) rfl rfl (one_of HT_.out (by kernel_rfl)) (by decide) (fun K hK => ?_)
                 refine goes_ Tryd.func113 (by kernel_rfl) rfl #[.slice A0 l0.length c0, .int .i64 (rd t595 x25_2), .int .i64 (Go.bits .andNot .i64 x4_1 (ji22))] (by rfl) rfl rfl (by (try simp only [List.map_toArray, List.map_cons, List.map_nil]); first | done | (simp only [hji22]; rfl) | rfl | (simp only [List.length_drop, List.length_take]; rfl)) ?_
                 with_reducible refine (width_town_degree.calls (hGL := (Qlg)) k2 _ _ l0 (rd t595 x25_2) (Go.bits .andNot .i64 x4_1 (ji22)) t601 _ ?side1 ?side2 A26.out).mono ?_
                 (case side1 => exact Qsc (Kd.C_below HR0.out HB.out))
                 (case side2 => exact HC0.out)
                 rintro e w31 ⟨rfl, hb⟩
                 have HS0_ := (hb.cell (World.block_lt_of_cell? _ _ (hHeld.1))).trans (hHeld.1)
                 have HS1_ := (hb.cell (World.block_lt_of_cell? _ _ (hHeld.2))).trans (hHeld.2)
                 refine ⟨_, rfl, ?_⟩
                 have n0_ := Aside0.mk (Kd.R_below (Qro HO_3.out) hb)
                 have n1_ := Aside0.mk (Kd.R_below (Qro HO_23.out) hb)
                 have n2_ := Aside0.mk (below_step (Qaw) hb)
                 clear HO_3
                 clear HO_23
                 clear HB
                 have HO_3 := n0_
                 have HO_23 := n1_
                 have HB := n2_
                 clear n0_ n1_ n2_
                 (try clear hb)
                 (try clear hb2)
                 (try clear hk)
                 (try clear hi)
                 have p29 : 0 ≤ (x4_1 : Int) := of_decide_eq_true (Qas)
                 have q29 : (x4_1 : Int) < ((x3_2.length : Int) : Int) := of_decide_eq_true (Qas)
                 obtain ⟨hx29_0, hf29_0⟩ := Kd.R_celln 0 HO_3.out (x4_1 : Int) p29 q29
                 replace p29 := eq_true p29
                 replace q29 := eq_true q29
                 have HP32 := Kd.R_putn HO_3.out (x4_1 : Int) ji28
                 rw [← Ny602.out] at HP32
                 have HQ32 := Aside0.mk HP32
                 clear HP32
                 refine hK.out _ _ ⟨HS0_, HS1_⟩ (fun hHeld => ?_)
                 clear hK K
                 refine norm_ (a' := ?_) ?_ ?_
                 rotate_left
                 ·show Act.put _ (some 48) _ = _
                  simp only [Act.put, Qp1, Qp2, Qp3, i64_w, i32_w]
                  rfl
                 refine Qpu 20 49 ?_ ?_ (Qbz 24 2097151) (Qao) ?_
                 refine Qpu 21 50 ?_ ?_ (Qbz 24 4194303) (Qao) ?_
                 refine Qpu 22 51 ?_ ?_ (Qbz 24 8388607) (Qao) ?_
                 refine last_ (i := 23) (N := none) (Qbz 24 16777215) rfl rfl (one_of HT_.out (by kernel_rfl)) (by decide) (fun K hK => ?_)
                 refine skip_ (w1 := ?_) (by rfl) rfl ?_ ?_
                 rotate_left
                 ·go_simp
                  rfl
                 refine hK.out _ _ ?_
                 clear hK K
                 refine done_ (done_of HT_.out (by kernel_rfl)) ?_
                 try go_wp2
                 (try simp only [← hl3_2])
                 go_roundg k2
                 case measure => have := HK1.out; have := HK2.out; omega
                 case rel => exact ⟨(y602), (wrap64 (x25_2 + 1)), (Qrs), H', ⟨by have := HK1.out; have := HK2.out; omega⟩, ⟨by (try simp only [hl3_2]); (with_reducible repeat (first | apply Kd.R_alloc | apply Kd.R_drewN | apply Kd.R_drew)); exact HQ32.out⟩, ⟨by (try simp only [hl3_2]); (with_reducible repeat (first | apply Kd.R_alloc | apply Kd.R_drewN | apply Kd.R_drew)); exact Kd.R_mono (Kd.R_far (p := ⟨go9, (x4_1 : Int).toNat, none⟩) (Kd.R_mono HO_23.out (fun k_ hk => (⟨hk, fun e_ => hk (by rw [e_]; rfl)⟩ : _ ∧ k_ ≠ go9))) (fun _ hk => hk.2) (.int .i64 ji28)) (fun _ hk => hk.1)⟩, ⟨by repeat (first | (with_reducible first | exact HB.out | apply below_alloc | apply pw_below_drewN | apply below_drew1 | refine below_set ?_ GB9.out) | exact HB.out)⟩⟩
                ·rw [if_neg c24] at H
                 exact absurd H (by simp)
               ·rw [if_neg c23] at H
                exact absurd H (by simp)
              ·rw [if_neg c21] at H
               exact absurd H (by simp)
             ·rw [if_neg c20] at H
              exact absurd H (by simp)
            ·rw [if_neg c19] at H
             exact absurd H (by simp)
           ·rw [if_neg c18] at H
            exact absurd H (by simp)
          ·rw [if_neg c17] at H
           exact absurd H (by simp)
         ·rw [if_neg c16] at H
          have c16b0 : decide (x25_2 < (t595.length : Int)) = false := decide_eq_false c16
          clear c16
          have H' := Aside0.mk H
          clear H
          go_wp2
          (try simp only [← hl3_2])
          go_roundg k2
          case measure => have := HK1.out; have := HK2.out; omega
          case rel => exact ⟨(x3_2), (wrap64 (x4_1 + 1)), (Qrs), H', ⟨by have := HK1.out; have := HK2.out; omega⟩, ⟨by (try simp only [hl3_2]); (with_reducible repeat (first | apply Kd.R_alloc | apply Kd.R_drewN | apply Kd.R_drew)); exact Kd.R_mono HO_3.out (fun _ hk => trivial)⟩, ⟨by repeat (first | (with_reducible first | exact HB.out | apply below_alloc | apply pw_below_drewN | apply below_drew1) | exact HB.out)⟩⟩
      ·rw [if_neg c8] at H
       exact absurd H (by simp)
     ·rw [if_neg c7] at H
      have c7b0 : decide (x4_1 < (x3_1.length : Int)) = false := decide_eq_false c7
      clear c7
      obtain rfl := Option.some.inj H
      obtain ⟨Ao33, co33, eo33⟩ := Kd.R_slice HO_3.out
      subst eo33
      go_wp2
      go_ret
      exact ⟨_, by first | rfl | (simp [errW_none, errW_some] <;> rfl) | (simp only [← hji2]; first | rfl | (simp [errW_none, errW_some] <;> rfl)) | (simp [*, errW_none, errW_some] <;> rfl), by (with_reducible repeat (first | apply Kd.R_alloc | apply Kd.R_drewN | apply Kd.R_drew)); exact HO_3.out, by repeat (first | (with_reducible first | exact HB.out | apply below_alloc | apply pw_below_drewN | apply below_drew1) | exact HB.out)⟩
  ·rw [if_neg c4] at H
   exact absurd H (by simp)
 ·rw [if_neg c3] at H
  exact absurd H (by simp)
end
noncomputable section
def width_town_width.f (k : Nat) (l0 : List Int) : Option (Int) := (width_town_widths.f k l0).bind fun t603 => ((width_town_all.f l0).bind fun t606 => (if 0 ≤ t606 then (if t606 < (t603.length : Int) then (some (rd t603 t606)) else (none)) else (none)))
set_option maxHeartbeats 8000000 in
set_option maxRecDepth 100000 in
theorem width_town_width.calls (k : Nat) (A0 : Option Addr) (c0 : Nat) (l0 : List Int) (r : Int) (w : World) (hGL : GL w) (hr0 : Kd.C (Kd.int .i64) w A0 l0.length l0) (hc0 : l0.length ≤ c0) (h : width_town_width.f k l0 = some r) :
  Calls Tryd.prog 87 #[.slice A0 l0.length c0] w fun e w' => e = .returned (.int .i64 r) ∧ Below w.heap.size w w' := by
 have HGL := Aside0.mk hGL
 clear hGL
 have HR0 := Aside0.mk hr0
 have HC0 := Aside0.mk hc0
 clear hr0 hc0
 have HB := Aside0.mk (Below.refl w.heap.size w)
 have H : ((width_town_widths.f k l0).bind fun t603 => ((width_town_all.f l0).bind fun t606 => (if 0 ≤ t606 then (if t606 < (t603.length : Int) then (some (rd t603 t606)) else (none)) else (none)))) = some r := h
 clear h
 replace H := Option.bind_eq_some_iff.mp H
 obtain ⟨t603, A20, H⟩ := H
 replace H : ((width_town_all.f l0).bind fun t606 => (if 0 ≤ t606 then (if t606 < (t603.length : Int) then (some (rd t603 t606)) else (none)) else (none))) = some r := H
 have A2 := Aside0.mk A20
 clear A20
 replace H := Option.bind_eq_some_iff.mp H
 obtain ⟨t606, A30, H⟩ := H
 replace H : (if 0 ≤ t606 then (if t606 < (t603.length : Int) then (some (rd t603 t606)) else (none)) else (none)) = some r := H
 have A3 := Aside0.mk A30
 clear A30
 by_cases c4 : 0 ≤ t606
 ·rw [if_pos c4] at H
  have c4b0 : decide (0 ≤ t606) = true := decide_eq_true c4
  clear c4
  by_cases c5 : t606 < (t603.length : Int)
  ·rw [if_pos c5] at H
   have c5b0 : decide (t606 < (t603.length : Int)) = true := decide_eq_true c5
   clear c5
   obtain rfl := Option.some.inj H
   go_enter Tryd.func87, Tryd.ntmps87
   go_wp2_with (first | ((with_reducible refine gate_callee (f := 97) rfl ?_); refine goesL_ (some 4) rfl rfl Tryd.func97 (by kernel_rfl) rfl #[.slice A0 l0.length c0] rfl (Qls) ?_; (with_reducible refine (width_town_widths.calls (hGL := (Qlg)) k _ _ l0 t603 _ ?side1 ?side2 A2.out).mono ?_); (case side1 => exact Qsc HR0.out); (case side2 => exact HC0.out); rintro e w6 ⟨v604, rfl, ho0, hb⟩; refine ⟨_, rfl, ?_⟩; have n0_ := Aside0.mk (Kd.R_lower ho0 (below_size (Qaw))); have n1_ := Aside0.mk (below_step (Qaw) hb); clear HB; have HO605 := n0_; have HB := n1_; clear n0_ n1_; (try clear hb); (try clear hb2); (try clear hk); (try clear hi); (try clear ho0)) | ((with_reducible refine gate_callee (f := 98) rfl ?_); refine goesL_ (some 6) rfl rfl Tryd.func98 (by kernel_rfl) rfl #[.slice A0 l0.length c0] rfl (Qls) ?_; (with_reducible refine (width_town_all.calls _ _ l0 t606 _ ?side1 ?side2 A3.out).mono ?_); (case side1 => exact Qsc (Kd.C_below HR0.out HB.out)); (case side2 => exact HC0.out); rintro e w' ⟨rfl, ⟨nd, rfl⟩⟩; refine ⟨_, rfl, ?_⟩; obtain ⟨Ao7, co7, eo7⟩ := Kd.R_slice HO605.out; subst eo7; have p607 : 0 ≤ (t606 : Int) := of_decide_eq_true (Qas); have q607 : t606 < (t603.length : Int) := of_decide_eq_true (Qas); obtain ⟨ad607, e607, hx607_0⟩ := Kd.at_int (Kd.R_reads' HO605.out).2.2 t606 p607 q607; cases e607; replace p607 := eq_true p607; replace q607 := eq_true q607))
   go_ret
   exact ⟨by first | rfl | (simp [errW_none, errW_some] <;> rfl) | (simp [*, errW_none, errW_some] <;> rfl), by repeat (first | (with_reducible first | exact HB.out | apply below_alloc | apply pw_below_drewN | apply below_drew1) | exact HB.out)⟩
  ·rw [if_neg c5] at H
   exact absurd H (by simp)
 ·rw [if_neg c4] at H
  exact absurd H (by simp)
end
noncomputable section
end
end Go.Proofs.YtjloppfdagfpmaaDoor.X
end
section
namespace Go.Proofs.YtjloppfdagfpmaaDoor.X
open Go.RowKit YtjloppfdagfpmaaDoorW.PrintWords YtjloppfdagfpmaaDoorW.PrintLast YtjloppfdagfpmaaDoorW.PrintMore YtjloppfdagfpmaaDoor.T
def PSV (G : List Nat) (S x : Nat) : Prop := ∀ k, x ≤ k ↔ ElimG G k S
theorem mx_natV (a b : Nat) : mx (a : Int) (b : Int) = ((max a b : Nat) : Int) := by unfold mx; split <;> omega
theorem mn_natV (a b : Nat) : mn (a : Int) (b : Int) = ((min a b : Nat) : Int) := by unfold mn; split <;> omega
def GoodV (G : List Nat) (r : List Int) : Prop := ∃ W : List Nat, r = gi W ∧ W.length = 2 ^ G.length ∧ ∀ S, S < 2 ^ G.length → PSV G S (W.getD S 0)
theorem getD_setV (W : List Nat) (i j x : Nat) (hi : i < W.length) : (W.set i x).getD j 0 = if j = i then x else W.getD j 0 := by
 simp only [List.getD_eq_getElem?_getD, List.getElem?_set]
 by_cases h : i = j
 ·subst h; simp [hi]
 ·rw [if_neg h, if_neg (fun e => h e.symm)]
theorem widths_l1V (G : List Nat) (hG : Gr 9 G) (S : Nat) (hS : S < 2 ^ G.length) (h0 : S ≠ 0)
  (cont : ∀ W : List Nat, W.length = 2 ^ G.length → (∀ T, T < S + 1 → PSV G T (W.getD T 0)) → ∃ r, Ev (fun k => width_town_widths.l0 k (gi G) (gi W) ((S + 1 : Nat) : Int)) r ∧ GoodV G r) :
  ∀ d i (W : List Nat), i + d = (els S 9).length → W.length = 2 ^ G.length → (∀ T, T < S → PSV G T (W.getD T 0)) →
   (∀ k, W.getD S 0 ≤ k ↔ G.length ≤ k ∨ ∃ v, v ∈ (els S 9).take i ∧ ElimG G k (diff S (2 ^ v)) ∧ pc (nbset G (diff S (2 ^ v)) v) 9 ≤ k) →
   ∃ r, Ev (fun k => width_town_widths.l1 k (gi G) (gi W) (S : Int) (gi (els S 9)) ((els S 9).length : Int) (i : Int)) r ∧ GoodV G r := by
 have hS5 := smallV G hG.most hS
 have h29 : 2 ^ G.length ≤ 2 ^ 9 := Nat.pow_le_pow_right (by omega) hG.most
 have hn := hG.most
 have hlen : (els S 9).length ≤ 9 := by rw [els_length]; exact pc_le _ _
 intro d
 induction d with
 | zero =>
  intro i W hi hW hT hc
  have hPS : PSV G S (W.getD S 0) := by
   intro k
   rw [hc k]
   by_cases hk : G.length ≤ k
   ·exact ⟨fun _ => elimG_big hG hk S hS, fun _ => .inl hk⟩
   ·rw [elimG_step hG hS h0]
    have e : (els S 9).take i = els S 9 := List.take_of_length_le (by omega)
    rw [e]
    constructor
    ·rintro (h | ⟨v, hv, h1, h2⟩)
     ·exact (hk h).elim
     ·exact ⟨v, (mem_els.1 hv).2, h1, by rwa [← pc_nine (nbset_lt hG _ _) hn]⟩
    ·rintro ⟨v, hv, h1, h2⟩
     exact .inr ⟨v, mem_els.2 ⟨Nat.lt_of_lt_of_le (bit_lt hS hv) hn, hv⟩, h1, by rwa [pc_nine (nbset_lt hG _ _) hn]⟩
  obtain ⟨r, h1, h2⟩ := cont W hW (fun T hT' => by
   by_cases e : T = S
   ·subst e; exact hPS
   ·exact hT T (by omega))
  refine ⟨r, Ev.step (fun k => ?_) h1, h2⟩
  rw [width_town_widths.l1, if_neg (by omega), wrap_succ S (by omega)]
 | succ d ih =>
  intro i W hi hW hT hc
  have hi' : i < (els S 9).length := by omega
  have hmem := List.getElem_mem hi'
  have hv := (mem_els.1 hmem).2
  have hvn := bit_lt hS hv
  have hr : rd (gi (els S 9)) (i : Int) = (((els S 9)[i] : Nat) : Int) := by rw [rd_gi, List.getD_eq_getElem?_getD, List.getElem?_eq_getElem hi']; rfl
  generalize hev : (els S 9)[i] = v at hr hv hvn hmem
  have hp : 2 ^ v < 2 ^ G.length := Nat.pow_lt_pow_right (by omega) hvn
  have hd : diff S (2 ^ v) < S := diff_lt hv
  have hdl : diff S (2 ^ v) < 2 ^ G.length := by omega
  have hdeg := degree_evV G hG (diff S (2 ^ v)) v hdl hvn
  obtain ⟨r, h1, h2⟩ := ih (i + 1) (W.set S (min (W.getD S 0) (max (W.getD (diff S (2 ^ v)) 0) (pc (nbset G (diff S (2 ^ v)) v) 9)))) (by omega) (by simpa using hW)
   (fun T hT' => by
    rw [getD_setV W _ _ _ (by omega), if_neg (by omega)]
    exact hT T hT')
   (fun k => by
    rw [getD_setV W _ _ _ (by omega), if_pos rfl]
    have hps := hT _ hd k
    have htake : (els S 9).take (i + 1) = (els S 9).take i ++ [v] := by rw [List.take_succ_eq_append_getElem hi', hev]
    rw [htake]
    constructor
    ·intro h
     by_cases hk : W.getD S 0 ≤ k
     ·rcases (hc k).1 hk with h | ⟨u, hu, h3⟩
      ·exact .inl h
      ·exact .inr ⟨u, List.mem_append_left _ hu, h3⟩
     ·refine .inr ⟨v, List.mem_append_right _ (List.mem_singleton.2 rfl), hps.1 (by omega), by omega⟩
    ·rintro (h | ⟨u, hu, h3, h4⟩)
     ·have := (hc k).2 (.inl h); omega
     ·rcases List.mem_append.1 hu with hu | hu
      ·have := (hc k).2 (.inr ⟨u, hu, h3, h4⟩); omega
      ·obtain rfl := List.mem_singleton.1 hu
       have := hps.2 h3
       omega)
  refine ⟨r, Ev.step (f := fun k => (width_town_degree.f k (gi G) (v : Int) ((diff S (2 ^ v) : Nat) : Int)).bind fun t => width_town_widths.l1 k (gi G) ((gi W).set (S : Int).toNat (mn (rd (gi W) (S : Int)) (mx (rd (gi W) ((diff S (2 ^ v) : Nat) : Int)) t))) (S : Int) (gi (els S 9)) ((els S 9).length : Int) ((i + 1 : Nat) : Int)) (fun k => ?_) (Ev.bind hdeg ?_), h2⟩
  ·rw [width_town_widths.l1, if_pos (by omega), if_pos (by omega), if_pos (by rw [gi_length]; omega), if_pos (by omega), if_pos (by rw [gi_length]; omega), hr, if_pos (by omega), s_one v (by omega),
    b_andNot S (2 ^ v) (bigV hS5) (bigV (smallV G hn hp)), if_pos (by omega), if_pos (by rw [gi_length]; omega), wrap_succ i (by omega)]
  ·simp only [rd_gi, mx_natV, mn_natV, Int.toNat_natCast, gi_set]
   exact h1
theorem widths_l0V (G : List Nat) (hG : Gr 9 G) : ∀ d S (W : List Nat), S + d = 2 ^ G.length → 0 < S → W.length = 2 ^ G.length → (∀ T, T < S → PSV G T (W.getD T 0)) →
  ∃ r, Ev (fun k => width_town_widths.l0 k (gi G) (gi W) (S : Int)) r ∧ GoodV G r := by
 have h29 : 2 ^ G.length ≤ 2 ^ 9 := Nat.pow_le_pow_right (by omega) hG.most
 intro d
 induction d with
 | zero =>
  intro S W hS h0 hW hT
  refine ⟨gi W, Ev.step (f := fun _ => some (gi W)) (fun k => ?_) (Ev.some rfl), W, rfl, hW, fun T h => hT T (by omega)⟩
  rw [width_town_widths.l0, if_neg (by rw [gi_length]; omega)]
 | succ d ih =>
  intro S W hS h0 hW hT
  have hSn : S < 2 ^ G.length := by omega
  have hS5 := smallV G hG.most hSn
  obtain ⟨r, h1, h2⟩ := widths_l1V G hG S hSn (by omega) (fun W' hW' hT' => ih (S + 1) W' (by omega) (by omega) hW' hT') (els S 9).length 0 (W.set S G.length) (by omega) (by simpa using hW)
   (fun T hT' => by
    rw [getD_setV W _ _ _ (by omega), if_neg (by omega)]
    exact hT T hT')
   (fun k => by
    rw [getD_setV W _ _ _ (by omega), if_pos rfl]
    simp)
  refine ⟨r, Ev.step (fun k => by rw [width_town_widths.l0, if_pos (by rw [gi_length]; omega), if_pos (by omega)]) (Ev.bind (nodes_evV S hS5) ?_), h2⟩
  simp only [Int.toNat_natCast, gi_length]
  have e : (gi W).set S (G.length : Int) = gi (W.set S G.length) := gi_set W S G.length
  rw [e]
  exact h1
theorem widths_evV (G : List Nat) (hG : Gr 9 G) : ∃ r, Ev (fun k => width_town_widths.f k (gi G)) r ∧ GoodV G r := by
 have h29 : 2 ^ G.length ≤ 2 ^ 9 := Nat.pow_le_pow_right (by omega) hG.most
 have h2p := Nat.two_pow_pos G.length
 have hn := hG.most
 obtain ⟨r, h1, h2⟩ := widths_l0V G hG (2 ^ G.length - 1) 1 (List.replicate (2 ^ G.length) 0) (by omega) (by omega) (by simp)
  (fun T hT k => by
   have : T = 0 := by omega
   subst this
   have e : (List.replicate (2 ^ G.length) 0).getD 0 0 = 0 := by
    rw [List.getD_eq_getElem?_getD, List.getElem?_replicate]; split <;> rfl
   rw [e]
   exact ⟨fun _ => elimG_zero G k, fun _ => Nat.zero_le k⟩)
 refine ⟨r, Ev.congr (fun k => ?_) h1, h2⟩
 unfold width_town_widths.f
 rw [gi_length, s_one _ (by omega), if_pos (by omega), Int.toNat_natCast, if_pos (by omega)]
 have e : List.replicate (2 ^ G.length) (0 : Int) = gi (List.replicate (2 ^ G.length) 0) := by simp [gi]
 rw [e]
 rfl
theorem width_evV (G : List Nat) (hG : Gr 9 G) : ∃ W : Nat, IsWidth G W ∧ Ev (fun k => width_town_width.f k (gi G)) (W : Int) := by
 have h2p := Nat.two_pow_pos G.length
 obtain ⟨r, h1, W, rfl, hW, hg⟩ := widths_evV G hG
 refine ⟨W.getD (2 ^ G.length - 1) 0, hg _ (by omega), ?_⟩
 unfold width_town_width.f
 refine Ev.bind h1 (Ev.bind1 (all_eqV G hG.most) ?_)
 refine Ev.if_pos (by omega) (Ev.if_pos (by rw [gi_length]; omega) (Ev.some ?_))
 rw [rd_gi]
end Go.Proofs.YtjloppfdagfpmaaDoor.X
end
section
namespace Go.Proofs.YtjloppfdagfpmaaDoor.X
open Go.RowKit YtjloppfdagfpmaaDoorW.PrintWords YtjloppfdagfpmaaDoorW.PrintLast YtjloppfdagfpmaaDoorW.PrintMore
attribute [local go_sem] max2_int min2_int max_two min_two max_three min_three max_four min_four
noncomputable section
def width_colour.f (a0 : Int) (a1 : Int) : Option (Int) := if 0 ≤ (wrap64 (4 * a1)) then (some (Go.bits .and .i64 (shr .i64 a0 (wrap64 (4 * a1))) 15)) else (none)
set_option maxHeartbeats 8000000 in
set_option maxRecDepth 100000 in
theorem width_colour.calls (a0 : Int) (a1 : Int) (r : Int) (w : World) (h : width_colour.f a0 a1 = some r) :
  Calls Tryd.prog 117 #[.int .i64 a0, .int .i64 a1] w fun e w' => e = .returned (.int .i64 r) ∧ Drawn0 w w' := by
 have H : (if 0 ≤ (wrap64 (4 * a1)) then (some (Go.bits .and .i64 (shr .i64 a0 (wrap64 (4 * a1))) 15)) else (none)) = some r := h
 clear h
 obtain ⟨ji3, hji3⟩ : ∃ j_ : Int, (wrap64 (4 * a1)) = j_ := ⟨_, rfl⟩
 replace H : (if 0 ≤ (ji3) then (some (Go.bits .and .i64 (shr .i64 a0 (ji3)) 15)) else (none)) = some r := by first | (rw [hji3] at H; exact H) | (simp only [hji3] at H ⊢; exact H)
 have hji3w : (IntKind.i64.wrap (4 * a1)) = ji3 := (i64_w _).trans hji3
 by_cases c4 : 0 ≤ (ji3)
 ·rw [if_pos c4] at H
  have c4b0 := eq_true c4
  have c4b1 : decide (0 ≤ (ji3)) = true := decide_eq_true c4
  clear c4
  obtain ⟨ji5, hji5⟩ : ∃ j_ : Int, (shr .i64 a0 (ji3)) = j_ := ⟨_, rfl⟩
  replace H : (some (Go.bits .and .i64 (ji5) 15)) = some r := by first | (rw [hji5] at H; exact H) | (simp only [hji5] at H ⊢; exact H)
  have hji5_ : (a0 / 2 ^ min (ji3).toNat 64) = ji5 := hji5
  have hji5z : (ji3) ≤ 64 → (a0 / 2 ^ (ji3).toNat) = ji5 := shr_small hji5
  obtain rfl := Option.some.inj H
  go_enter Tryd.func117, Tryd.ntmps117
  go_wp2
  go_ret
  exact ⟨by first | rfl | (simp; done) | (simp only [← hji3, ← hji5] <;> (first | rfl | simp)) | (simp [*]; done), by repeat (first | exact Drawn0.refl _ | apply Drawn0.step)⟩
 ·rw [if_neg c4] at H
  exact absurd H (by simp)
end
noncomputable section
def width_only.l0 : Nat → Int → Int → List Int → Int → Int → Option (Int)
 | 0, _, _, _, _, _ => none
 | k + 1, x0, x5, x9, x10, x11 => if x11 < x10 then (if 0 ≤ x11 then (if x11 < (x9.length : Int) then ((width_colour.f x0 (rd x9 x11)).bind fun t818 => (if 0 ≤ (wrap64 (4 * (rd x9 x11))) then (width_only.l0 k x0 (Go.bits .or .i64 x5 (shl .i64 t818 (wrap64 (4 * (rd x9 x11))))) x9 x10 (wrap64 (x11 + 1))) else (none))) else (none)) else (none)) else (some x5)
def width_only.f (k : Nat) (a0 : Int) (a1 : Int) : Option (Int) := (width_nodes.f k a1).bind fun t814 => (width_only.l0 k a0 0 t814 (t814.length : Int) 0)
set_option maxHeartbeats 8000000 in
set_option maxRecDepth 100000 in
theorem width_only.calls (k : Nat) (a0 : Int) (a1 : Int) (r : Int) (w : World) (hGL : GL w) (h : width_only.f k a0 a1 = some r) :
  Calls Tryd.prog 108 #[.int .i64 a0, .int .i64 a1] w fun e w' => e = .returned (.int .i64 r) ∧ Below w.heap.size w w' := by
 have HGL := Aside0.mk hGL
 clear hGL
 have HB := Aside0.mk (Below.refl w.heap.size w)
 have H : ((width_nodes.f k a1).bind fun t814 => (width_only.l0 k a0 0 t814 (t814.length : Int) 0)) = some r := h
 clear h
 replace H := Option.bind_eq_some_iff.mp H
 obtain ⟨t814, A30, H⟩ := H
 replace H : (width_only.l0 k a0 0 t814 (t814.length : Int) 0) = some r := H
 have A3 := Aside0.mk A30
 clear A30
 have H' := Aside0.mk H
 clear H
 go_enter Tryd.func108, Tryd.ntmps108
 go_wp2_with (first | ((with_reducible refine gate_callee (f := 104) rfl ?_); refine goesL_ (some 9) rfl rfl Tryd.func104 (by kernel_rfl) rfl #[.int .i64 a1] rfl (Qls) ?_; (with_reducible refine (width_nodes.calls (hGL := (Qlg)) k a1 t814 _ A3.out).mono ?_); rintro e w4 ⟨v815, rfl, ho0, hb⟩; refine ⟨_, rfl, ?_⟩; have n0_ := Aside0.mk (Kd.R_lower ho0 (below_size (Qaw))); have n1_ := Aside0.mk (below_step (Qaw) hb); clear HB; have HO816 := n0_; have HB := n1_; clear n0_ n1_; (try clear hb); (try clear hb2); (try clear hk); (try clear hi); (try clear ho0); obtain ⟨Ao5, co5, eo5⟩ := Kd.R_slice HO816.out; subst eo5))
 go_loopg [5, 11] k (fun kq v5 v11 w' => ∃ (x5_1 : Int) (x11_1 : Int), v5 = .int .i64 x5_1 ∧ v11 = .int .i64 x11_1 ∧ Aside0 (width_only.l0 kq a0 x5_1 t814 (t814.length : Int) x11_1 = some r) ∧ Aside0 (kq ≤ k) ∧ Aside0 (Kd.R (Kd.int .i64) 3 w' w.heap.size (fun _ => True) (.slice Ao5 t814.length co5) t814) ∧ Aside0 (Below w.heap.size w w'))
 case atStart => exact ⟨(0), (0), (Qrs), (Qrs), H', ⟨Nat.le_refl _⟩, ⟨by (with_reducible repeat (first | apply Kd.R_alloc | apply Kd.R_drewN | apply Kd.R_drew)); exact HO816.out⟩, ⟨by repeat (first | (with_reducible first | exact HB.out | apply below_alloc | apply pw_below_drewN | apply below_drew1) | exact HB.out)⟩⟩
 case round =>
  clear H'
  try clear c1
  try clear p2
  obtain ⟨x5_1, x11_1, rfl, rfl, HA, HK1, HO_9, HB⟩ := hrel
  cases gk with
  | zero => exact absurd HA.out (by simp [width_only.l0])
  | succ k1 =>
   have H := HA.out
   clear HA
   simp only [width_only.l0] at H
   by_cases c6 : x11_1 < (t814.length : Int)
   ·rw [if_pos c6] at H
    have c6b0 : decide (x11_1 < (t814.length : Int)) = true := decide_eq_true c6
    clear c6
    by_cases c7 : 0 ≤ x11_1
    ·rw [if_pos c7] at H
     have c7b0 : decide (0 ≤ x11_1) = true := decide_eq_true c7
     clear c7
     by_cases c8 : x11_1 < (t814.length : Int)
     ·rw [if_pos c8] at H
      have c8b0 : decide (x11_1 < (t814.length : Int)) = true := decide_eq_true c8
      clear c8
      replace H := Option.bind_eq_some_iff.mp H
      obtain ⟨t818, A90, H⟩ := H
      replace H : (if 0 ≤ (wrap64 (4 * (rd t814 x11_1))) then (width_only.l0 k1 a0 (Go.bits .or .i64 x5_1 (shl .i64 t818 (wrap64 (4 * (rd t814 x11_1))))) t814 (t814.length : Int) (wrap64 (x11_1 + 1))) else (none)) = some r := H
      have A9 := Aside0.mk A90
      clear A90
      obtain ⟨ji10, hji10⟩ : ∃ j_ : Int, (wrap64 (4 * (rd t814 x11_1))) = j_ := ⟨_, rfl⟩
      replace H : (if 0 ≤ (ji10) then (width_only.l0 k1 a0 (Go.bits .or .i64 x5_1 (shl .i64 t818 (ji10))) t814 (t814.length : Int) (wrap64 (x11_1 + 1))) else (none)) = some r := by first | (rw [hji10] at H; exact H) | (simp only [hji10] at H ⊢; exact H)
      (try rw [hji10] at A9)
      have hji10w : (IntKind.i64.wrap (4 * (rd t814 x11_1))) = ji10 := (i64_w _).trans hji10
      by_cases c11 : 0 ≤ (ji10)
      ·rw [if_pos c11] at H
       have c11b0 := eq_true c11
       have c11b1 : decide (0 ≤ (ji10)) = true := decide_eq_true c11
       clear c11
       obtain ⟨ji12, hji12⟩ : ∃ j_ : Int, (shl .i64 t818 (ji10)) = j_ := ⟨_, rfl⟩
       replace H : (width_only.l0 k1 a0 (Go.bits .or .i64 x5_1 (ji12)) t814 (t814.length : Int) (wrap64 (x11_1 + 1))) = some r := by first | (rw [hji12] at H; exact H) | (simp only [hji12] at H ⊢; exact H)
       (try rw [hji12] at A9)
       have hji12_ : (IntKind.i64.wrap (t818 * 2 ^ min (ji10).toNat 64)) = ji12 := hji12
       have hji12z : (ji10) ≤ 64 → (IntKind.i64.wrap (t818 * 2 ^ (ji10).toNat)) = ji12 := shl_small hji12
       have hji12y : (wrap64 (t818 * 2 ^ min (ji10).toNat 64)) = ji12 := (i64_w _).symm.trans hji12_
       have hji12x : (ji10) ≤ 64 → (wrap64 (t818 * 2 ^ (ji10).toNat)) = ji12 := fun h_ => (i64_w _).symm.trans (hji12z h_)
       have H' := Aside0.mk H
       clear H
       have p817 : 0 ≤ (x11_1 : Int) := of_decide_eq_true (Qas)
       have q817 : x11_1 < (t814.length : Int) := of_decide_eq_true (Qas)
       obtain ⟨ad817, e817, hx817_0⟩ := Kd.at_int (Kd.R_reads' HO_9.out).2.2 x11_1 p817 q817
       cases e817
       replace p817 := eq_true p817
       replace q817 := eq_true q817
       go_wp2_with (first | ((with_reducible refine gate_callee (f := 117) rfl ?_); refine goesL_ (some 18) rfl rfl Tryd.func117 (by kernel_rfl) rfl #[.int .i64 a0, .int .i64 (rd t814 x11_1)] rfl (Qls) ?_; (with_reducible refine (width_colour.calls a0 (rd t814 x11_1) t818 _ A9.out).mono ?_); rintro e w' ⟨rfl, ⟨nd, rfl⟩⟩; refine ⟨_, rfl, ?_⟩))
       go_roundg k1
       case measure => have := HK1.out; omega
       case rel => exact ⟨(Go.bits .or .i64 x5_1 (ji12)), (wrap64 (x11_1 + 1)), (by first | rfl | (simp; done) | (simp only [← hji12] <;> (first | rfl | simp)) | (simp [*]; done)), (Qrs), H', ⟨by have := HK1.out; omega⟩, ⟨by (with_reducible repeat (first | apply Kd.R_alloc | apply Kd.R_drewN | apply Kd.R_drew)); exact HO_9.out⟩, ⟨by repeat (first | (with_reducible first | exact HB.out | apply below_alloc | apply pw_below_drewN | apply below_drew1) | exact HB.out)⟩⟩
      ·rw [if_neg c11] at H
       exact absurd H (by simp)
     ·rw [if_neg c8] at H
      exact absurd H (by simp)
    ·rw [if_neg c7] at H
     exact absurd H (by simp)
   ·rw [if_neg c6] at H
    have c6b0 : decide (x11_1 < (t814.length : Int)) = false := decide_eq_false c6
    clear c6
    obtain rfl := Option.some.inj H
    go_wp2
    go_ret
    exact ⟨by first | rfl | (simp [errW_none, errW_some] <;> rfl) | (simp [*, errW_none, errW_some] <;> rfl), by repeat (first | (with_reducible first | exact HB.out | apply below_alloc | apply pw_below_drewN | apply below_drew1) | exact HB.out)⟩
end
end Go.Proofs.YtjloppfdagfpmaaDoor.X
end
section
namespace Go.Proofs.YtjloppfdagfpmaaDoor.X
open Go.RowKit YtjloppfdagfpmaaDoorW.PrintWords YtjloppfdagfpmaaDoorW.PrintLast YtjloppfdagfpmaaDoorW.PrintMore YtjloppfdagfpmaaDoor.T
attribute [local go_sem] max2_int min2_int max_two min_two max_three min_three max_four min_four
theorem p36 {c : Nat} (h : c < 2 ^ 36) : c < 2 ^ 62 := by omega
theorem col_div (c v : Nat) : col c v = c / 2 ^ (4 * v) &&& 15 := by
 unfold col
 rw [Nat.shiftRight_eq_div_pow, show (15 : Nat) = 2 ^ 4 - 1 from rfl, Nat.and_two_pow_sub_one_eq_mod]
theorem colour_f {c v : Nat} (hc : c < 2 ^ 36) (hv : v < 9) : width_colour.f (c : Int) (v : Int) = some ((col c v : Nat) : Int) := by
 have h1 : wrap64 (4 * (v : Int)) = ((4 * v : Nat) : Int) := by rw [w64_small _ (by omega) (by omega)]; omega
 unfold width_colour.f
 rw [h1, if_pos (by omega), s_shr _ _ (by omega), col_div]
 have h2 : c / 2 ^ (4 * v) ≤ c := Nat.div_le_self _ _
 rw [show (15 : Int) = ((15 : Nat) : Int) from rfl, b_and _ _ (by omega) (by omega)]
theorem colour_callsC {c v : Nat} (hc : c < 2 ^ 36) (hv : v < 9) (w : World) : Calls Tryd.prog 117 #[.int .i64 (c : Int), .int .i64 (v : Int)] w fun e w' => e = .returned (.int .i64 ((col c v : Nat) : Int)) ∧ Below w.heap.size w w' :=
 (width_colour.calls _ _ _ w (colour_f hc hv)).mono fun e w' h => ⟨h.1, h.2.below⟩
theorem shl4 {k v : Nat} (hk : k < 16) (hv : v < 9) : shl .i64 (k : Int) ((4 * v : Nat) : Int) = ((k <<< (4 * v) : Nat) : Int) := by
 have h1 : k * 2 ^ (4 * v) < 2 ^ 62 := by
  have h2 : k * 2 ^ (4 * v) ≤ 16 * 2 ^ 32 := Nat.mul_le_mul (by omega) (Nat.pow_le_pow_right (by omega) (by omega))
  omega
 rw [s_shl _ _ h1 (by omega), Nat.shiftLeft_eq]
theorem putc36 {c v k : Nat} (hc : c < 2 ^ 36) (hv : v < 9) (hk : k < 16) : putc c v k < 2 ^ 36 := putc_lt (n := 9) hc hv hk
theorem or_put {c v k : Nat} (hc : c < 2 ^ 36) (hv : v < 9) (hk : k < 16) : Go.bits .or .i64 (c : Int) ((k <<< (4 * v) : Nat) : Int) = ((putc c v k : Nat) : Int) := by
 have h : k <<< (4 * v) < 2 ^ 36 := by
  have := putc36 (c := 0) (v := v) (k := k) (by omega) hv hk
  unfold putc at this
  simpa using this
 rw [b_or _ _ (by omega) (by omega)]
 rfl
theorem only_l0 {c : Nat} (hc : c < 2 ^ 36) (L : List Nat) (hL : ∀ v ∈ L, v < 9) (hl : L.length ≤ 100) : ∀ (d i o : Nat), i + d = L.length → o < 2 ^ 36 → Ev (fun k => width_only.l0 k (c : Int) (o : Int) (gi L) (L.length : Int) (i : Int)) (((L.drop i).foldl (fun o v => putc o v (col c v)) o : Nat) : Int) := by
 intro d
 induction d with
 | zero =>
  intro i o hi ho
  rw [List.drop_of_length_le (by omega)]
  exact Ev.step (fun k => by rw [width_only.l0, if_neg (by omega)]; rfl) (Ev.some rfl)
 | succ d ih =>
  intro i o hi ho
  have hil : i < L.length := by omega
  have hv := hL L[i] (List.getElem_mem hil)
  have hr : rd (gi L) (i : Int) = ((L[i] : Nat) : Int) := by
   rw [rd_gi, List.getD_eq_getElem?_getD, List.getElem?_eq_getElem hil]; rfl
  have h1 : wrap64 (4 * ((L[i] : Nat) : Int)) = ((4 * L[i] : Nat) : Int) := by rw [w64_small _ (by omega) (by omega)]; omega
  rw [List.drop_eq_getElem_cons hil, List.foldl_cons]
  refine Ev.step (fun k => ?_) (ih (i + 1) _ (by omega) (putc36 ho hv (col_lt c _)))
  rw [width_only.l0, if_pos (by omega), if_pos (by omega), if_pos (by rw [gi_length]; omega), hr, colour_f hc hv]
  simp only [Option.bind_some, h1]
  rw [if_pos (by omega), shl4 (col_lt c _) hv, or_put ho hv (col_lt c _), wrap_succ i (by omega)]
theorem only_callsC {c s : Nat} (hc : c < 2 ^ 36) (hs : s < 512) (w : World) (hGL : GL w) : Calls Tryd.prog 108 #[.int .i64 (c : Int), .int .i64 (s : Int)] w fun e w' => e = .returned (.int .i64 ((res c s : Nat) : Int)) ∧ Below w.heap.size w w' := by
 have hE : Ev (fun k => width_only.f k (c : Int) (s : Int)) ((res c s : Nat) : Int) := by
  unfold width_only.f
  refine Ev.bind (nodes_evV s hs) ?_
  have := only_l0 hc (els s 9) (fun v hv => (mem_els.1 hv).1) (by rw [els_length]; have := pc_le s 9; omega) (els s 9).length 0 0 (by omega) (by omega)
  rw [gi_length]
  rw [← only_res]
  exact this
 obtain ⟨K, hK⟩ := hE
 exact width_only.calls K _ _ _ w hGL (hK K (Nat.le_refl _))
set_option maxHeartbeats 4000000 in
set_option maxRecDepth 100000 in
theorem grown1 (cB kB : Nat) (c k u : Nat) (hc : c < 2 ^ 36) (hu : u < 9) (w : World) (h0 : w.cell? ⟨cB, 0, none⟩ = some (.int .i64 (c : Int))) (h1 : w.cell? ⟨kB, 0, none⟩ = some (.int .i64 (k : Int))) :
  Calls Tryd.prog 116 #[.int .i64 (u : Int), .pointer (some ⟨cB, 0, none⟩), .pointer (some ⟨kB, 0, none⟩)] w fun e w' => e = .returned (.bool (((col c u : Nat) : Int) == (k : Int))) ∧ Below w.heap.size w w' := by
 have c0d : w.drew.cell? ⟨cB, 0, none⟩ = some (.int .i64 (c : Int)) := h0
 have c1d : w.drew.cell? ⟨kB, 0, none⟩ = some (.int .i64 (k : Int)) := h1
 have c2d : Below w.heap.size w w.drew := below_drew (Below.refl _ _)
 have HC : Aside0 (∀ W, (W.cell? ⟨cB, 0, none⟩ = some (.int .i64 (c : Int)) ∧ W.cell? ⟨kB, 0, none⟩ = some (.int .i64 (k : Int)) ∧ Below w.heap.size w W) → Calls Tryd.prog 117 #[.int .i64 (c : Int), .int .i64 (u : Int)] W fun e w' => e = .returned (.int .i64 ((col c u : Nat) : Int)) ∧ w'.cell? ⟨cB, 0, none⟩ = some (.int .i64 (c : Int)) ∧ w'.cell? ⟨kB, 0, none⟩ = some (.int .i64 (k : Int)) ∧ Below w.heap.size w w') := ⟨by
  rintro W ⟨s0, s1, s2⟩
  refine (colour_callsC hc hu W).mono ?_
  rintro e w' ⟨rfl, hb⟩
  exact ⟨rfl, (hb.cell (World.block_lt_of_cell? W _ s0)).trans s0, (hb.cell (World.block_lt_of_cell? W _ s1)).trans s1, below_step s2 hb⟩⟩
 generalize col c u = z at *
 clear h0 h1 hc hu
 go_enter Tryd.func116, Tryd.ntmps116
 go_wp2
 refine start_ (n := 6) (S := fun w' => w'.cell? ⟨cB, 0, none⟩ = some (.int .i64 (c : Int)) ∧ w'.cell? ⟨kB, 0, none⟩ = some (.int .i64 (k : Int)) ∧ Below w.heap.size w w') (ds := []) (Qbz 6 0) (by kernel_rfl) rfl rfl ⟨c0d, c1d, c2d⟩ (fun hHeld => ?_)
 refine Qpu 1 6 ?_ ?_ (Qbz 6 2) (by kernel_rfl) ?_
 refine take_ (i := 0) (N := some 5) (v := ?_) (a' := ?_) (Qbz 6 3) rfl rfl (by kernel_rfl) (fun _ _ _ h => h) (Or.inl ⟨by rfl, ?_⟩) hHeld ?_ ?_;rotate_left;(·rintro w' ⟨s0, s1, s2⟩;go_simp;with_reducible rfl);rotate_left;(·simp only [Act.put, Qp1, Qp2, Qp3, i64_w, i32_w];rfl)
 refine take_ (i := 3) (N := some 8) (v := ?_) (a' := ?_) (Qbz 6 11) rfl rfl (by kernel_rfl) (fun _ _ _ h => h) (Or.inl ⟨by rfl, ?_⟩) hHeld ?_ ?_;rotate_left;(·rintro w' ⟨s0, s1, s2⟩;go_simp;with_reducible rfl);rotate_left;(·simp only [Act.put, Qp1, Qp2, Qp3, i64_w, i32_w];rfl)
 refine one_ (i := 2) (N := some 7) (Qbz 6 15) rfl rfl (by kernel_rfl) (by decide) (fun K hK => ?_)
 refine goes_ Tryd.func117 (by kernel_rfl) rfl #[.int .i64 (c : Int), .int .i64 (u : Int)] (by rfl) rfl rfl (by simp only [List.map_toArray, List.map_cons, List.map_nil]; rfl) ?_
 with_reducible refine (HC.out _ hHeld).mono ?_
 rintro e w9 ⟨rfl, k0, k1, kB9⟩
 refine ⟨_, rfl, ?_⟩
 refine hK.out _ _ ⟨k0, k1, kB9⟩ (fun hHeld => ?_)
 clear hK K
 refine norm_ (a' := ?_) ?_ ?_
 rotate_left
 ·show Act.put _ (some 7) _ = _
  simp only [Act.put, Qp1, Qp2, Qp3, i64_w, i32_w]
  rfl
 refine Qpu 4 9 ?_ ?_ (Qbz 6 31) (by kernel_rfl) ?_
 refine Qpu 5 4 ?_ ?_ (Qbz 6 63) (by kernel_rfl) ?_
 refine done_ (by kernel_rfl) ?_
 go_wp2
 go_ret
 exact ⟨rfl, hHeld.2.2⟩
set_option maxHeartbeats 2000000 in
theorem index_grown (A : Option Addr) (c : Nat) (l : List Int) (p : Int → Bool) (uB vB : Nat) (w : World) (hx : Kd.C (Kd.int .i64) w A l.length l) (hl : l.length ≤ 1000)
  (hp : ∀ W, Below w.heap.size w W → ∀ x ∈ l, Calls Tryd.prog 116 #[.int .i64 x, .pointer (some ⟨uB, 0, none⟩), .pointer (some ⟨vB, 0, none⟩)] W fun e w' => e = .returned (.bool (p x)) ∧ Below W.heap.size W w') :
  Calls Tryd.prog 93 #[.slice A l.length c, .func (.func 116) #[] #[.pointer (some ⟨uB, 0, none⟩), .pointer (some ⟨vB, 0, none⟩)]] w fun e w' => ∃ z, e = .returned (.int .i64 z) ∧ decide (z ≥ 0) = l.any p ∧ Below w.heap.size w w' := by
 have HX := Aside0.mk hx
 have HP := Aside0.mk hp
 clear hx hp
 go_enter Tryd.func93, Tryd.ntmps93
 go_wp2
 go_loopg [8] l.length (fun kq v8 w' => ∃ i : Nat, v8 = .int .i64 (i : Int) ∧ i + kq = l.length ∧ Aside0 ((l.drop i).any p = l.any p) ∧ Aside0 (Below w.heap.size w w'))
 case atStart => exact ⟨0, rfl, by omega, ⟨rfl⟩, ⟨Below.refl _ _⟩⟩
 case round =>
  obtain ⟨i, rfl, hi, HA, HB⟩ := hrel
  by_cases hil : i < l.length
  ·have hi1 : ((i : Int) < (l.length : Int)) = True := eq_true (by omega)
   have hi2 : decide ((i : Int) < (l.length : Int)) = true := decide_eq_true (by omega)
   cases gk with
   | zero => omega
   | succ gi =>
   obtain ⟨ad, e1, hgx⟩ := Kd.at_int (Kd.C_below HX.out HB.out) (i : Int) (by omega) (by omega)
   subst e1
   have hra : rd l (i : Int) = l[i] := by unfold rd; rw [Int.toNat_natCast, List.getD_eq_getElem?_getD, List.getElem?_eq_getElem hil]; rfl
   rw [hra, Int.toNat_natCast] at hgx
   have hm : l[i] ∈ l := List.getElem_mem hil
   have ha := HA.out
   rw [List.drop_eq_getElem_cons hil, List.any_cons] at ha
   have HC := Aside0.mk (HP.out wr HB.out _ hm)
   generalize l[i] = x at *
   clear hra HA
   cases hpx : p x
   ·rw [hpx] at HC ha
    have HA2 : Aside0 ((l.drop (i + 1)).any p = l.any p) := ⟨by simpa using ha⟩
    clear ha hpx hm
    go_wp2_with (go_at_call 116; refine HC.out.mono ?_; rintro e w3 ⟨rfl, hb⟩)
    go_roundg gi
    case measure => omega
    case rel => exact ⟨i + 1, by go_num, by omega, HA2, ⟨below_step HB.out hb⟩⟩
   ·rw [hpx] at HC ha
    have HA2 : Aside0 (true = l.any p) := ⟨by simpa using ha⟩
    clear ha hpx hm
    go_wp2_with (go_at_call 116; refine HC.out.mono ?_; rintro e w3 ⟨rfl, hb⟩)
    go_ret
    exact ⟨_, rfl, by rw [← HA2.out]; exact decide_eq_true (by omega), below_step HB.out hb⟩
  ·have hi1 : ((i : Int) < (l.length : Int)) = False := eq_false (by omega)
   have hi2 : decide ((i : Int) < (l.length : Int)) = false := decide_eq_false (by omega)
   have ha := HA.out
   rw [List.drop_eq_nil_of_le (by omega)] at ha
   have HA2 : Aside0 (false = l.any p) := ⟨ha⟩
   clear ha HA
   go_wp2
   go_ret
   exact ⟨_, rfl, by rw [← HA2.out]; rfl, HB.out⟩
theorem contains_grown (A : Option Addr) (c : Nat) (l : List Int) (p : Int → Bool) (uB vB : Nat) (w : World) (hx : Kd.C (Kd.int .i64) w A l.length l) (hl : l.length ≤ 1000)
  (hp : ∀ W, Below w.heap.size w W → ∀ x ∈ l, Calls Tryd.prog 116 #[.int .i64 x, .pointer (some ⟨uB, 0, none⟩), .pointer (some ⟨vB, 0, none⟩)] W fun e w' => e = .returned (.bool (p x)) ∧ Below W.heap.size W w') :
  Calls Tryd.prog 68 #[.slice A l.length c, .func (.func 116) #[] #[.pointer (some ⟨uB, 0, none⟩), .pointer (some ⟨vB, 0, none⟩)]] w fun e w' => e = .returned (.bool (l.any p)) ∧ Below w.heap.size w w' := by
 have HI := Aside0.mk (index_grown A c l p uB vB w hx hl hp)
 clear hx hl hp
 go_enter Tryd.func68, Tryd.ntmps68
 go_wp2_with (go_at_call 93; refine HI.out.mono ?_; rintro e w3 ⟨z, rfl, hz, hb⟩)
 go_ret
 exact ⟨by rw [← hz]; rfl, hb⟩
end Go.Proofs.YtjloppfdagfpmaaDoor.X
end
section
namespace Go.Proofs.YtjloppfdagfpmaaDoor.T
open Go.RowKit YtjloppfdagfpmaaDoorW.PrintWords YtjloppfdagfpmaaDoorW.PrintLast YtjloppfdagfpmaaDoorW.PrintMore
def IsOrd (n : Nat) (l : List Int) : Prop := ∃ P : List Nat, l = gi P ∧ P.Nodup ∧ (∀ v ∈ P, v < n) ∧ P.length = n
theorem gi_inj {a b : List Nat} (h : gi a = gi b) : a = b := by
 induction a generalizing b with
 | nil => cases b with
  | nil => rfl
  | cons => simp [gi] at h
 | cons x a ih => cases b with
  | nil => simp [gi] at h
  | cons y b =>
   simp only [gi, List.map_cons, List.cons.injEq] at h
   rw [ih (show gi a = gi b from h.2)]
   congr 1
   omega
theorem covers_of_nodup {P : List Nat} {n : Nat} (hl : P.length = n) (hn : P.Nodup) (h : ∀ v ∈ P, v < n) (j : Nat) (hj : j < n) : j ∈ P := by
 apply Classical.byContradiction
 intro hno
 have := nodup_le (List.nodup_cons.2 ⟨hno, hn⟩) (m := List.range n) fun x hx => by
  rcases List.mem_cons.1 hx with e | e
  ·subst e; exact List.mem_range.2 hj
  ·exact List.mem_range.2 (h x e)
 simp at this
 omega
def lset : List Nat → Nat
 | [] => 0
 | v :: P => lset P ||| 2 ^ v
theorem lset_bit (P : List Nat) (j : Nat) : bset (lset P) j ↔ j ∈ P := by
 induction P with
 | nil => simp [lset, bset]
 | cons v P ih => rw [lset, or_bset, ih, two_pow_bit, List.mem_cons]; exact Or.comm
theorem lset_lt {P : List Nat} {n : Nat} (h : ∀ v ∈ P, v < n) : lset P < 2 ^ n := lt_of_bits fun j hj => h j ((lset_bit P j).1 hj)
theorem lset_snoc (P : List Nat) (v : Nat) : lset (P ++ [v]) = lset P ||| 2 ^ v := eq_of_bits fun j => by
 show bset _ _ ↔ bset _ _
 rw [lset_bit, or_bset, lset_bit, two_pow_bit, List.mem_append, List.mem_singleton]
theorem IsOrd.of {n : Nat} {P : List Nat} (h1 : P.Nodup) (h2 : ∀ v ∈ P, v < n) : IsOrd n (gi P) ↔ P.length = n := by
 constructor
 ·rintro ⟨Q, e, _, _, h⟩
  rw [gi_inj e]; exact h
 ·intro h; exact ⟨P, rfl, h1, h2, h⟩
theorem IsOrd.length {n : Nat} {l : List Int} (h : IsOrd n l) : l.length = n := by
 obtain ⟨P, rfl, _, _, h⟩ := h
 rw [gi_length, h]
noncomputable def dg (G : List Nat) (gone v : Nat) : Nat := pc (nbset G gone v) 9
def lft (G : List Nat) (gone : Nat) : Nat := diff (2 ^ G.length - 1) gone
theorem lft_bit (G : List Nat) (gone v : Nat) : bset (lft G gone) v ↔ v < G.length ∧ ¬ bset gone v := by
 unfold lft; rw [diff_bset, all_bit]
theorem lft_lt (G : List Nat) (gone : Nat) : lft G gone < 2 ^ G.length := by
 have := Nat.two_pow_pos G.length
 exact Nat.lt_of_le_of_lt (diff_le _ _) (by omega)
noncomputable def canD (G : List Nat) (k : Nat) : Nat → Nat → Bool
 | 0, _ => true
 | d + 1, gone => (els (lft G gone) 9).any fun v => decide (dg G gone v ≤ k) && canD G k d (gone ||| 2 ^ v)
noncomputable def canB (G : List Nat) (k gone : Nat) : Bool := canD G k (pc (lft G gone) 9) gone
theorem eq_bits {x y : Nat} (h : ∀ j, bset x j ↔ bset y j) : x = y := Nat.eq_of_testBit_eq fun j => by
 have := h j
 unfold bset at this
 exact Bool.eq_iff_iff.2 this
theorem or_bit (x v j : Nat) : bset (x ||| 2 ^ v) j ↔ bset x j ∨ j = v := by
 unfold bset
 rw [Nat.testBit_or, Bool.or_eq_true]
 have := two_pow_bit v j
 unfold bset at this
 rw [this]
theorem lft_or {G : List Nat} {gone v : Nat} : lft G (gone ||| 2 ^ v) = diff (lft G gone) (2 ^ v) := by
 apply eq_bits
 intro j
 rw [lft_bit, or_bit, diff_bset, lft_bit, two_pow_bit, not_or]
 exact and_assoc.symm
theorem pc_drop {X v : Nat} (hX : X < 512) (hv : bset X v) : pc X 9 = pc (diff X (2 ^ v)) 9 + 1 := by
 have hv9 : v < 9 := bit_lt hX hv
 have h1 : (els X 9).length = pc X 9 := els_length X 9
 have h2 : (els (diff X (2 ^ v)) 9).length = pc (diff X (2 ^ v)) 9 := els_length _ 9
 have hm : v ∈ els X 9 := mem_els.2 ⟨hv9, hv⟩
 have h3 : ∀ x, x ∈ els (diff X (2 ^ v)) 9 ↔ x ∈ (els X 9).erase v := fun x => by
  rw [(els_nodup X 9).mem_erase_iff, mem_els, mem_els]
  have := diff_bset X (2 ^ v) x
  unfold bset at this
  rw [this]
  have h4 := two_pow_bit v x
  unfold bset at h4
  rw [h4]
  exact ⟨fun ⟨a, b, c⟩ => ⟨c, a, b⟩, fun ⟨c, a, b⟩ => ⟨a, b, c⟩⟩
 have h4 : (els (diff X (2 ^ v)) 9).length = ((els X 9).erase v).length := Nat.le_antisymm (nodup_le (els_nodup _ _) fun x hx => (h3 x).1 hx) (nodup_le ((els_nodup X 9).erase v) fun x hx => (h3 x).2 hx)
 rw [List.length_erase_of_mem hm] at h4
 have : 0 < (els X 9).length := List.length_pos_of_mem hm
 omega
section
variable {G : List Nat} (hn : G.length ≤ 9)
include hn
theorem lft_small (gone : Nat) : lft G gone < 512 := Nat.lt_of_lt_of_le (lft_lt G gone) (show 2 ^ G.length ≤ 2 ^ 9 from Nat.pow_le_pow_right (by omega) hn)
theorem pc_lft {gone v : Nat} (hv : bset (lft G gone) v) : pc (lft G gone) 9 = pc (lft G (gone ||| 2 ^ v)) 9 + 1 := by
 rw [lft_or]
 exact pc_drop (lft_small hn gone) hv
omit hn in
theorem lft_all : lft G (2 ^ G.length - 1) = 0 := eq_bits fun j => by
 rw [lft_bit, all_bit]
 simp [bset]
omit hn in
theorem canB_all (k : Nat) : canB G k (2 ^ G.length - 1) = true := by
 unfold canB
 rw [lft_all]
 rfl
omit hn in
theorem pc_pos {X : Nat} (hX : X < 512) (h0 : X ≠ 0) : pc X 9 ≠ 0 := by
 obtain ⟨v, hv⟩ := some_bit h0
 have := pc_drop hX hv
 omega
omit hn in
theorem lft_ne {gone : Nat} (hg : gone < 2 ^ G.length) (hne : gone ≠ 2 ^ G.length - 1) : lft G gone ≠ 0 := fun h => hne (eq_bits fun j => by
 rw [all_bit]
 constructor
 ·exact fun hj => bit_lt hg hj
 ·intro hj
  apply Classical.byContradiction
  intro hb
  have := (lft_bit G gone j).2 ⟨hj, hb⟩
  rw [h] at this
  simp [bset] at this)
theorem canB_step {k gone : Nat} (hg : gone < 2 ^ G.length) (hne : gone ≠ 2 ^ G.length - 1) :
  canB G k gone = (els (lft G gone) 9).any fun v => decide (dg G gone v ≤ k) && canB G k (gone ||| 2 ^ v) := by
 have h1 := pc_pos (lft_small hn gone) (lft_ne hg hne)
 unfold canB
 obtain ⟨d, hd⟩ := Nat.exists_eq_succ_of_ne_zero h1
 rw [hd, canD]
 rw [Bool.eq_iff_iff, List.any_eq_true, List.any_eq_true]
 have key : ∀ v, v ∈ els (lft G gone) 9 → pc (lft G (gone ||| 2 ^ v)) 9 = d := fun v hv => by
  have := pc_lft hn (mem_els.1 hv).2
  omega
 constructor
 ·rintro ⟨v, hv, h⟩
  exact ⟨v, hv, by rw [key v hv]; exact h⟩
 ·rintro ⟨v, hv, h⟩
  refine ⟨v, hv, ?_⟩
  rw [key v hv] at h
  exact h
theorem canB_true {k gone : Nat} (hg : gone < 2 ^ G.length) (hne : gone ≠ 2 ^ G.length - 1) : canB G k gone = true ↔ ∃ v, bset (lft G gone) v ∧ dg G gone v ≤ k ∧ canB G k (gone ||| 2 ^ v) = true := by
 rw [canB_step hn hg hne, List.any_eq_true]
 constructor
 ·rintro ⟨v, hv, h⟩
  rw [Bool.and_eq_true, decide_eq_true_eq] at h
  exact ⟨v, (mem_els.1 hv).2, h.1, h.2⟩
 ·rintro ⟨v, hv, h1, h2⟩
  exact ⟨v, mem_els.2 ⟨bit_lt (lft_small hn gone) hv, hv⟩, by rw [Bool.and_eq_true, decide_eq_true_eq]; exact ⟨h1, h2⟩⟩
omit hn in
theorem or_in {gone v : Nat} (hg : gone < 2 ^ G.length) (hv : bset (lft G gone) v) : gone ||| 2 ^ v < 2 ^ G.length :=
 Nat.or_lt_two_pow hg (Nat.pow_lt_pow_right (by omega) ((lft_bit G gone v).1 hv).1)
theorem canB_from {m : Nat} (hG : Gr m G) {k : Nat} : ∀ S, S < 2 ^ G.length → ElimG G k S → canB G k S = true → canB G k 0 = true := by
 intro S
 induction S using Nat.strongRecOn with
 | _ S ih =>
  intro hS hE hc
  by_cases h0 : S = 0
  ·subst h0; exact hc
  ·obtain ⟨v, hv, h1, h2⟩ := (elimG_step hG hS h0).1 hE
   have hd := diff_lt hv
   refine ih _ hd (by omega) h1 ?_
   have hvn : v < G.length := bit_lt hS hv
   have hvb : bset (lft G (diff S (2 ^ v))) v := (lft_bit _ _ _).2 ⟨hvn, fun h => ((diff_bset _ _ _).1 h).2 ((two_pow_bit v v).2 rfl)⟩
   refine (canB_true hn (by omega) (by omega)).2 ⟨v, hvb, ?_, ?_⟩
   ·unfold dg
    rw [pc_nine (nbset_lt hG _ _) hn]
    exact h2
   ·rw [show diff S (2 ^ v) ||| 2 ^ v = S from eq_bits fun j => by
     rw [or_bit, diff_bset, two_pow_bit]
     constructor
     ·rintro (h | rfl)
      ·exact h.1
      ·exact hv
     ·intro h
      by_cases e : j = v
      ·exact .inr e
      ·exact .inl ⟨h, e⟩]
    exact hc
theorem canB_elim {m : Nat} (hG : Gr m G) {k : Nat} : ∀ d gone, pc (lft G gone) 9 = d → gone < 2 ^ G.length → ElimG G k gone → canB G k gone = true → ElimG G k (2 ^ G.length - 1) := by
 intro d
 induction d with
 | zero =>
  intro gone hd hg hE hc
  by_cases hne : gone = 2 ^ G.length - 1
  ·rw [← hne]; exact hE
  ·exact absurd hd (pc_pos (lft_small hn gone) (lft_ne hg hne))
 | succ d ih =>
  intro gone hd hg hE hc
  by_cases hne : gone = 2 ^ G.length - 1
  ·rw [← hne]; exact hE
  ·obtain ⟨v, hv, h1, h2⟩ := (canB_true hn hg hne).1 hc
   have h3 := pc_lft hn hv
   have hor := or_in hg hv
   have hvb := (lft_bit G gone v).1 hv
   refine ih _ (by omega) hor ?_ h2
   refine (elimG_step hG hor (fun h => ?_)).2 ⟨v, (or_bit _ _ _).2 (.inr rfl), ?_, ?_⟩
   ·have : bset (gone ||| 2 ^ v) v := (or_bit _ _ _).2 (.inr rfl)
    rw [h] at this
    simp [bset] at this
   ·rw [show diff (gone ||| 2 ^ v) (2 ^ v) = gone from eq_bits fun j => by
     rw [diff_bset, or_bit, two_pow_bit]
     constructor
     ·rintro ⟨h | h, h'⟩
      ·exact h
      ·exact absurd h h'
     ·intro h
      exact ⟨.inl h, fun e => hvb.2 (e ▸ h)⟩]
    exact hE
   ·rw [show diff (gone ||| 2 ^ v) (2 ^ v) = gone from eq_bits fun j => by
     rw [diff_bset, or_bit, two_pow_bit]
     constructor
     ·rintro ⟨h | h, h'⟩
      ·exact h
      ·exact absurd h h'
     ·intro h
      exact ⟨.inl h, fun e => hvb.2 (e ▸ h)⟩]
    unfold dg at h1
    rw [← pc_nine (nbset_lt hG _ _) hn]
    exact h1
theorem canB_zero {m : Nat} (hG : Gr m G) {k : Nat} : canB G k 0 = true ↔ ElimG G k (2 ^ G.length - 1) := by
 have h0 := Nat.two_pow_pos G.length
 exact ⟨canB_elim hn hG _ 0 rfl h0 (elimG_zero G k), fun h => canB_from hn hG _ (by omega) h (canB_all k)⟩
end
noncomputable def nextP (G : List Nat) (k gone : Nat) (v : Nat) : Bool := decide (dg G gone v ≤ k) && canB G k (gone ||| 2 ^ v)
noncomputable def ordD (G : List Nat) (k : Nat) : Nat → Nat → List Nat
 | 0, _ => []
 | d + 1, gone => match (els (lft G gone) 9).find? (nextP G k gone) with
  | some v => v :: ordD G k d (gone ||| 2 ^ v)
  | none => []
noncomputable def ordL (G : List Nat) (k : Nat) : List Nat := ordD G k G.length 0
end Go.Proofs.YtjloppfdagfpmaaDoor.T
end
section
namespace Go.Proofs.YtjloppfdagfpmaaDoor.X
open Go.RowKit YtjloppfdagfpmaaDoorW.PrintWords YtjloppfdagfpmaaDoorW.PrintLast YtjloppfdagfpmaaDoorW.PrintMore YtjloppfdagfpmaaDoor.T
attribute [local go_sem] max2_int min2_int max_two min_two max_three min_three max_four min_four run_makeMap
theorem smallO {G : List Nat} (h : G.length ≤ 9) {x : Nat} (hx : x < 2 ^ G.length) : x < 512 := Nat.lt_of_lt_of_le hx (show 2 ^ G.length ≤ 2 ^ 9 from Nat.pow_le_pow_right (by omega) h)
theorem degree_callsO {G : List Nat} (hG : Gr 9 G) {gone v : Nat} (hg : gone < 2 ^ G.length) (hv : v < G.length) (Ag : Option Addr) (cg : Nat) (hcg : G.length ≤ cg) (w : World) (hGL : GL w) (h1 : Kd.C (Kd.int .i64) w Ag (gi G).length (gi G)) :
  Calls Tryd.prog 113 #[.slice Ag G.length cg, .int .i64 (v : Int), .int .i64 (gone : Int)] w fun e w' => e = .returned (.int .i64 ((dg G gone v : Nat) : Int)) ∧ Below w.heap.size w w' := by
 obtain ⟨K, hK⟩ := degree_evV G hG gone v hg hv
 have := width_town_degree.calls K Ag cg (gi G) (v : Int) (gone : Int) _ w hGL h1 (by rw [gi_length]; exact hcg) (hK K (Nat.le_refl _))
 rw [gi_length] at this
 exact this
theorem all_callsO {G : List Nat} (hG : Gr 9 G) (Ag : Option Addr) (cg : Nat) (hcg : G.length ≤ cg) (w : World) (h1 : Kd.C (Kd.int .i64) w Ag (gi G).length (gi G)) :
  Calls Tryd.prog 98 #[.slice Ag G.length cg] w fun e w' => e = .returned (.int .i64 ((2 ^ G.length - 1 : Nat) : Int)) ∧ Below w.heap.size w w' := by
 have := width_town_all.calls Ag cg (gi G) _ w h1 (by rw [gi_length]; exact hcg) (all_eqV G hG.most)
 rw [gi_length] at this
 exact this.mono fun e w' h => ⟨h.1, h.2.below⟩
theorem nodes_callsO {x : Nat} (hx : x < 512) (mB : Nat) (w : World) (hmB : mB < w.heap.size) (hGL : GL w) :
  Calls Tryd.prog 104 #[.int .i64 (x : Int)] w fun e w' => ∃ A c, e = .returned (.slice A (els x 9).length c) ∧ (els x 9).length ≤ c ∧ (∀ V, w'.grownBy V (some mB) → Kd.C (Kd.int .i64) V A (els x 9).length (gi (els x 9))) ∧ Below w.heap.size w w' := by
 obtain ⟨K, hK⟩ := nodes_evV x hx
 refine (width_nodes.calls K (x : Int) _ w hGL (hK K (Nat.le_refl _))).mono ?_
 rintro e w' ⟨u, rfl, hu, hb⟩
 obtain ⟨A, c, eu, hc, hC⟩ := Kd.R_reads hu
 subst eu
 rw [gi_length] at hu
 refine ⟨A, c, by rw [gi_length], by rw [gi_length] at hc; exact hc, fun V hV => ?_, hb⟩
 have hs2 := hb.size
 have h3 := Kd.R_step (w1 := V) (Kd.R_bound hu) (fun k hk hk2 => hV.block k hk2 (fun e => by have := hk.2.1; have e2 := Option.some.inj e; omega))
 obtain ⟨A2, c2, e2, _, hC2⟩ := Kd.R_reads h3
 injection e2 with e3 e4 e5
 rw [gi_length] at hC2
 rw [e3]; exact hC2
section
variable (tB kB bB cB mB : Nat)
def canV : Value := .func (.func 114) #[] #[.pointer (some ⟨tB, 0, none⟩), .pointer (some ⟨kB, 0, none⟩), .pointer (some ⟨bB, 0, none⟩), .pointer (some ⟨cB, 0, none⟩)]
end
set_option maxHeartbeats 4000000 in
theorem index_can (tB gB bB cB mB N : Nat) (f : Nat → Bool) (W0 : World) (A : Option Addr) (c : Nat) (l : List Int) (p : Int → Bool) (w : World) (hk : KM W0 w mB N f) (hx : ∀ V, w.grownBy V (some mB) → Kd.C (Kd.int .i64) V A l.length l) (hl : l.length ≤ 1000)
  (hp : ∀ W, KM W0 W mB N f → w.grownBy W (some mB) → ∀ x ∈ l, Calls Tryd.prog 115 #[.int .i64 x, .pointer (some ⟨tB, 0, none⟩), .pointer (some ⟨gB, 0, none⟩), .pointer (some ⟨bB, 0, none⟩), .pointer (some ⟨cB, 0, none⟩)] W fun e w' => e = .returned (.bool (p x)) ∧ KM W0 w' mB N f ∧ W.grownBy w' (some mB)) :
  Calls Tryd.prog 93 #[.slice A l.length c, .func (.func 115) #[] #[.pointer (some ⟨tB, 0, none⟩), .pointer (some ⟨gB, 0, none⟩), .pointer (some ⟨bB, 0, none⟩), .pointer (some ⟨cB, 0, none⟩)]] w fun e w' => ∃ z, e = .returned (.int .i64 z) ∧ decide (z ≥ 0) = l.any p ∧ KM W0 w' mB N f ∧ w.grownBy w' (some mB) := by
 have HX := Aside0.mk hx
 have HP := Aside0.mk hp
 have HK := Aside0.mk hk
 clear hx hp hk
 go_enter Tryd.func93, Tryd.ntmps93
 go_wp2
 go_loopg [8] l.length (fun kq v8 w' => ∃ i : Nat, v8 = .int .i64 (i : Int) ∧ i + kq = l.length ∧ Aside0 ((l.drop i).any p = l.any p) ∧ Aside0 (KM W0 w' mB N f ∧ w.grownBy w' (some mB)))
 case atStart => exact ⟨0, rfl, by omega, ⟨rfl⟩, ⟨HK.out, World.grownBy.refl _ _⟩⟩
 case round =>
  obtain ⟨i, rfl, hi, HA, HB⟩ := hrel
  by_cases hil : i < l.length
  ·have hi1 : ((i : Int) < (l.length : Int)) = True := eq_true (by omega)
   have hi2 : decide ((i : Int) < (l.length : Int)) = true := decide_eq_true (by omega)
   cases gk with
   | zero => omega
   | succ gi' =>
   obtain ⟨ad, e1, hgx⟩ := Kd.at_int (HX.out _ HB.out.2) (i : Int) (by omega) (by omega)
   subst e1
   have hra : rd l (i : Int) = l[i] := by unfold rd; rw [Int.toNat_natCast, List.getD_eq_getElem?_getD, List.getElem?_eq_getElem hil]; rfl
   rw [hra, Int.toNat_natCast] at hgx
   have hm : l[i] ∈ l := List.getElem_mem hil
   have ha := HA.out
   rw [List.drop_eq_getElem_cons hil, List.any_cons] at ha
   have HC := Aside0.mk (HP.out wr HB.out.1 HB.out.2 _ hm)
   generalize l[i] = x at *
   clear hra HA
   cases hpx : p x
   ·rw [hpx] at HC ha
    have HA2 : Aside0 ((l.drop (i + 1)).any p = l.any p) := ⟨by simpa using ha⟩
    clear ha hpx hm
    go_wp2_with (go_at_call 115; refine HC.out.mono ?_; rintro e w3 ⟨rfl, hk3, hb3⟩; have HK3 := Aside0.mk hk3; have HB3 := Aside0.mk hb3; clear hk3 hb3)
    go_roundg gi'
    case measure => omega
    case rel => exact ⟨i + 1, by go_num, by omega, HA2, ⟨HK3.out, grown_then HB.out.2 HB3.out⟩⟩
   ·rw [hpx] at HC ha
    have HA2 : Aside0 (true = l.any p) := ⟨by simpa using ha⟩
    clear ha hpx hm
    go_wp2_with (go_at_call 115; refine HC.out.mono ?_; rintro e w3 ⟨rfl, hk3, hb3⟩; have HK3 := Aside0.mk hk3; have HB3 := Aside0.mk hb3; clear hk3 hb3)
    go_ret
    exact ⟨_, rfl, by rw [← HA2.out]; exact decide_eq_true (by omega), HK3.out, grown_then HB.out.2 HB3.out⟩
  ·have hi1 : ((i : Int) < (l.length : Int)) = False := eq_false (by omega)
   have hi2 : decide ((i : Int) < (l.length : Int)) = false := decide_eq_false (by omega)
   have ha := HA.out
   rw [List.drop_eq_nil_of_le (by omega)] at ha
   have HA2 : Aside0 (false = l.any p) := ⟨ha⟩
   clear ha HA
   go_wp2
   go_ret
   exact ⟨_, rfl, by rw [← HA2.out]; rfl, HB.out.1, HB.out.2⟩
theorem contains_can (tB gB bB cB mB N : Nat) (f : Nat → Bool) (W0 : World) (A : Option Addr) (c : Nat) (l : List Int) (p : Int → Bool) (w : World) (hk : KM W0 w mB N f) (hx : ∀ V, w.grownBy V (some mB) → Kd.C (Kd.int .i64) V A l.length l) (hl : l.length ≤ 1000)
  (hp : ∀ W, KM W0 W mB N f → w.grownBy W (some mB) → ∀ x ∈ l, Calls Tryd.prog 115 #[.int .i64 x, .pointer (some ⟨tB, 0, none⟩), .pointer (some ⟨gB, 0, none⟩), .pointer (some ⟨bB, 0, none⟩), .pointer (some ⟨cB, 0, none⟩)] W fun e w' => e = .returned (.bool (p x)) ∧ KM W0 w' mB N f ∧ W.grownBy w' (some mB)) :
  Calls Tryd.prog 68 #[.slice A l.length c, .func (.func 115) #[] #[.pointer (some ⟨tB, 0, none⟩), .pointer (some ⟨gB, 0, none⟩), .pointer (some ⟨bB, 0, none⟩), .pointer (some ⟨cB, 0, none⟩)]] w fun e w' => e = .returned (.bool (l.any p)) ∧ KM W0 w' mB N f ∧ w.grownBy w' (some mB) := by
 have HI := Aside0.mk (index_can tB gB bB cB mB N f W0 A c l p w hk hx hl hp)
 clear hx hl hp hk
 go_enter Tryd.func68, Tryd.ntmps68
 go_wp2_with (go_at_call 93; refine HI.out.mono ?_; rintro e w3 ⟨z, rfl, hz, hb⟩)
 go_ret
 exact ⟨by rw [← hz]; rfl, hb⟩
set_option maxHeartbeats 4000000 in
set_option maxRecDepth 100000 in
theorem can_inner (tB kB gB bB cB mB : Nat) (W0 : World) (Ag : Option Addr) (cg : Nat) (G : List Nat) (hG : Gr 9 G) (hcg : G.length ≤ cg) (bs : Nat)
  (hlow : ∀ W, W0.grownBy W (some mB) → GL W ∧ Kd.C (Kd.int .i64) W Ag (gi G).length (gi G) ∧ W.cell? ⟨tB, 0, none⟩ = some (.slice Ag G.length cg) ∧ W.cell? ⟨kB, 0, none⟩ = some (.map (some mB)) ∧ W.cell? ⟨bB, 0, none⟩ = some (.int .i64 (bs : Int)) ∧ W.cell? ⟨cB, 0, none⟩ = some (canV tB kB bB cB))
  (gone v : Nat) (hg : gone < 2 ^ G.length) (hv : v < G.length) (w : World) (hk : KM W0 w mB 512 (canB G bs)) (hc : w.cell? ⟨gB, 0, none⟩ = some (.int .i64 (gone : Int)))
  (rec : ∀ V, KM W0 V mB 512 (canB G bs) → Calls Tryd.prog 114 #[.int .i64 ((gone ||| 2 ^ v : Nat) : Int), .pointer (some ⟨tB, 0, none⟩), .pointer (some ⟨kB, 0, none⟩), .pointer (some ⟨bB, 0, none⟩), .pointer (some ⟨cB, 0, none⟩)] V fun e w' => e = .returned (.bool (canB G bs (gone ||| 2 ^ v))) ∧ KM W0 w' mB 512 (canB G bs) ∧ V.grownBy w' (some mB)) :
  Calls Tryd.prog 115 #[.int .i64 (v : Int), .pointer (some ⟨tB, 0, none⟩), .pointer (some ⟨gB, 0, none⟩), .pointer (some ⟨bB, 0, none⟩), .pointer (some ⟨cB, 0, none⟩)] w fun e w' => e = .returned (.bool (decide (dg G gone v ≤ bs) && canB G bs (gone ||| 2 ^ v))) ∧ KM W0 w' mB 512 (canB G bs) ∧ w.grownBy w' (some mB) := by
 have hn := hG.most
 obtain ⟨q1, q2, q3, q4, q5, q6⟩ := hlow w hk.grown
 have c0d : w.drew.cell? ⟨tB, 0, none⟩ = some (.slice Ag G.length cg) := q3
 have c1d : w.drew.cell? ⟨gB, 0, none⟩ = some (.int .i64 (gone : Int)) := hc
 have c2d : w.drew.cell? ⟨bB, 0, none⟩ = some (.int .i64 (bs : Int)) := q5
 have c3d : w.drew.cell? ⟨cB, 0, none⟩ = some (.func (.func 114) #[] #[.pointer (some ⟨tB, 0, none⟩), .pointer (some ⟨kB, 0, none⟩), .pointer (some ⟨bB, 0, none⟩), .pointer (some ⟨cB, 0, none⟩)]) := q6
 have c4d : Below w.heap.size w w.drew := below_drew (Below.refl _ _)
 have HK := Aside0.mk hk
 have hg512 : gone < 512 := smallO hn hg
 obtain ⟨N, ⟨hS1, hS2, hS3⟩, hNv⟩ := shK v (by omega)
 have h2v : 2 ^ v < 2 ^ G.length := Nat.pow_lt_pow_right (by omega) hv
 have hor : Go.bits .or .i64 (gone : Int) N = ((gone ||| 2 ^ v : Nat) : Int) := by
  rw [hNv, b_or _ _ (by omega) (by have := smallO hn h2v; omega)]
 have HDG : Aside0 (∀ W, (W.cell? ⟨tB, 0, none⟩ = some (.slice Ag G.length cg) ∧ W.cell? ⟨gB, 0, none⟩ = some (.int .i64 (gone : Int)) ∧ W.cell? ⟨bB, 0, none⟩ = some (.int .i64 (bs : Int)) ∧ W.cell? ⟨cB, 0, none⟩ = some (.func (.func 114) #[] #[.pointer (some ⟨tB, 0, none⟩), .pointer (some ⟨kB, 0, none⟩), .pointer (some ⟨bB, 0, none⟩), .pointer (some ⟨cB, 0, none⟩)]) ∧ Below w.heap.size w W) → Calls Tryd.prog 113 #[.slice Ag G.length cg, .int .i64 (v : Int), .int .i64 (gone : Int)] W fun e w' => e = .returned (.int .i64 ((dg G gone v : Nat) : Int)) ∧ w'.cell? ⟨tB, 0, none⟩ = some (.slice Ag G.length cg) ∧ w'.cell? ⟨gB, 0, none⟩ = some (.int .i64 (gone : Int)) ∧ w'.cell? ⟨bB, 0, none⟩ = some (.int .i64 (bs : Int)) ∧ w'.cell? ⟨cB, 0, none⟩ = some (.func (.func 114) #[] #[.pointer (some ⟨tB, 0, none⟩), .pointer (some ⟨kB, 0, none⟩), .pointer (some ⟨bB, 0, none⟩), .pointer (some ⟨cB, 0, none⟩)]) ∧ Below w.heap.size w w') := ⟨by
  rintro W ⟨s0, s1, s2, s3, s4⟩
  obtain ⟨p1, p2, _⟩ := hlow W ((hk.low (grown_of_below s4 none)).grown)
  refine (degree_callsO hG hg hv Ag cg hcg W p1 p2).mono ?_
  rintro e w' ⟨rfl, hb⟩
  exact ⟨rfl, (hb.cell (World.block_lt_of_cell? W _ s0)).trans s0, (hb.cell (World.block_lt_of_cell? W _ s1)).trans s1, (hb.cell (World.block_lt_of_cell? W _ s2)).trans s2, (hb.cell (World.block_lt_of_cell? W _ s3)).trans s3, below_step s4 hb⟩⟩
 have HREC := Aside0.mk rec
 generalize gone ||| 2 ^ v = gone' at *
 generalize canB G bs gone' = R at *
 generalize dg G gone v = dv at *
 clear hk q1 q2 q3 q4 q5 q6 rec hNv h2v hlow hg hc hG hn hv hg512
 by_cases hle : dv ≤ bs
 ·have hdec1 : ((dv : Int) ≤ (bs : Int)) = True := eq_true (by omega)
  have hdec2 : decide ((dv : Int) ≤ (bs : Int)) = true := decide_eq_true (by omega)
  rw [decide_eq_true hle, Bool.true_and]
  go_enter Tryd.func115, Tryd.ntmps115
  go_wp2
  refine start_ (n := 15) (S := fun w' => w'.cell? ⟨tB, 0, none⟩ = some (.slice Ag G.length cg) ∧ w'.cell? ⟨gB, 0, none⟩ = some (.int .i64 (gone : Int)) ∧ w'.cell? ⟨bB, 0, none⟩ = some (.int .i64 (bs : Int)) ∧ w'.cell? ⟨cB, 0, none⟩ = some (.func (.func 114) #[] #[.pointer (some ⟨tB, 0, none⟩), .pointer (some ⟨kB, 0, none⟩), .pointer (some ⟨bB, 0, none⟩), .pointer (some ⟨cB, 0, none⟩)]) ∧ Below w.heap.size w w') (ds := [12]) (Qbz 15 0) (by kernel_rfl) rfl rfl ⟨c0d, c1d, c2d, c3d, c4d⟩ (fun hHeld => ?_)
  refine Qpu 1 8 ?_ ?_ (Qbz 15 2) (by kernel_rfl) ?_
  refine take_ (i := 0) (N := some 7) (v := ?_) (a' := ?_) (Qbz 15 3) rfl rfl (by kernel_rfl) (fun _ _ _ h => h) (Or.inl ⟨by rfl, ?_⟩) hHeld ?_ ?_;rotate_left;(·rintro w' ⟨s0, s1, s2, s3, s4⟩;go_simp;with_reducible rfl);rotate_left;(·simp only [Act.put, Qp1, Qp2, Qp3, i64_w, i32_w];rfl)
  refine take_ (i := 2) (N := some 9) (v := ?_) (a' := ?_) (Qbz 15 7) rfl rfl (by kernel_rfl) (fun _ _ _ h => h) (Or.inl ⟨by rfl, ?_⟩) hHeld ?_ ?_;rotate_left;(·rintro w' ⟨s0, s1, s2, s3, s4⟩;go_simp;with_reducible rfl);rotate_left;(·simp only [Act.put, Qp1, Qp2, Qp3, i64_w, i32_w];rfl)
  refine take_ (i := 4) (N := some 11) (v := ?_) (a' := ?_) (Qbz 15 23) rfl rfl (by kernel_rfl) (fun _ _ _ h => h) (Or.inl ⟨by rfl, ?_⟩) hHeld ?_ ?_;rotate_left;(·rintro w' ⟨s0, s1, s2, s3, s4⟩;go_simp;with_reducible rfl);rotate_left;(·simp only [Act.put, Qp1, Qp2, Qp3, i64_w, i32_w];rfl)
  refine one_ (i := 3) (N := some 10) (Qbz 15 31) rfl rfl (by kernel_rfl) (by decide) (fun K hK => ?_)
  refine goes_ Tryd.func113 (by kernel_rfl) rfl #[.slice Ag G.length cg, .int .i64 (v : Int), .int .i64 (gone : Int)] (by rfl) rfl rfl (by simp only [List.map_toArray, List.map_cons, List.map_nil]; rfl) ?_
  with_reducible refine (HDG.out _ hHeld).mono ?_
  rintro e w9 ⟨rfl, k0, k1, k2, k3, kB9⟩
  refine ⟨_, rfl, ?_⟩
  refine hK.out _ _ ⟨k0, k1, k2, k3, kB9⟩ (fun hHeld => ?_)
  clear hK K
  refine norm_ (a' := ?_) ?_ ?_
  rotate_left
  ·show Act.put _ (some 10) _ = _
   simp only [Act.put, Qp1, Qp2, Qp3, i64_w, i32_w]
   rfl
  refine Qpu 5 12 ?_ ?_ (Qbz 15 63) (by kernel_rfl) ?_
  refine Qpu 6 13 ?_ ?_ (Qbz 15 127) (by kernel_rfl) ?_
  refine Qpu 9 16 ?_ ?_ (Qbz 15 639) (by kernel_rfl) ?_
  refine Qpu 10 17 ?_ ?_ (Qbz 15 1663) (by kernel_rfl) ?_
  refine take_ (i := 7) (N := some 14) (v := ?_) (a' := ?_) (Qbz 15 1791) rfl rfl (by kernel_rfl) (fun _ _ _ h => h) (Or.inl ⟨by rfl, ?_⟩) hHeld ?_ ?_;rotate_left;(·rintro w' ⟨s0, s1, s2, s3, s4⟩;go_simp;with_reducible rfl);rotate_left;(·simp only [Act.put, Qp1, Qp2, Qp3, i64_w, i32_w];rfl)
  refine take_ (i := 8) (N := some 15) (v := ?_) (a' := ?_) (Qbz 15 2047) rfl rfl (by kernel_rfl) (fun _ _ _ h => h) (Or.inl ⟨by rfl, ?_⟩) hHeld ?_ ?_;rotate_left;(·rintro w' ⟨s0, s1, s2, s3, s4⟩;go_simp;with_reducible rfl);rotate_left;(·simp only [Act.put, Qp1, Qp2, Qp3, i64_w, i32_w];rfl)
  refine Qpu 11 18 ?_ ?_ (Qbz 15 4095) (by kernel_rfl) ?_
  refine last_ (i := 12) (N := some 19) (Qbz 15 8191) rfl rfl (by kernel_rfl) (by decide) (fun K hK => ?_)
  refine goesK_ Tryd.func114 (by kernel_rfl) rfl #[.int .i64 (gone' : Int)] #[.pointer (some ⟨tB, 0, none⟩), .pointer (some ⟨kB, 0, none⟩), .pointer (some ⟨bB, 0, none⟩), .pointer (some ⟨cB, 0, none⟩)] #[.int .i64 (gone' : Int), .pointer (some ⟨tB, 0, none⟩), .pointer (some ⟨kB, 0, none⟩), .pointer (some ⟨bB, 0, none⟩), .pointer (some ⟨cB, 0, none⟩)] (.tmp 14) (by rfl) rfl rfl (by rfl) (by simp only [List.map_toArray, List.map_cons, List.map_nil]; rfl) rfl ?_
  with_reducible refine (HREC.out _ (HK.out.low (grown_of_below hHeld.2.2.2.2 none))).mono ?_
  rintro e w10 ⟨rfl, hK10, hG10⟩
  have HK10 := Aside0.mk hK10
  have HG10 := Aside0.mk hG10
  have HB9 := Aside0.mk kB9
  clear hK10 hG10 kB9
  refine ⟨_, rfl, ?_⟩
  refine hK.out _ _ ?_
  clear hK K
  refine norm_ (a' := ?_) ?_ ?_
  rotate_left
  ·show Act.put _ (some 19) _ = _
   simp only [Act.put, Qp1, Qp2, Qp3, i64_w, i32_w]
   rfl
  refine Qpu 13 20 ?_ ?_ (Qbz 15 16383) (by kernel_rfl) ?_
  refine Qpu 14 6 ?_ ?_ (Qbz 15 32767) (by kernel_rfl) ?_
  refine done_ (by kernel_rfl) ?_
  go_wp2
  go_ret
  exact ⟨rfl, HK10.out, grown_then (grown_of_below HB9.out (some mB)) HG10.out⟩
 ·have hdec1 : ((dv : Int) ≤ (bs : Int)) = False := eq_false (by omega)
  have hdec2 : decide ((dv : Int) ≤ (bs : Int)) = false := decide_eq_false (by omega)
  rw [decide_eq_false hle, Bool.false_and]
  go_enter Tryd.func115, Tryd.ntmps115
  go_wp2
  refine start_ (n := 15) (S := fun w' => w'.cell? ⟨tB, 0, none⟩ = some (.slice Ag G.length cg) ∧ w'.cell? ⟨gB, 0, none⟩ = some (.int .i64 (gone : Int)) ∧ w'.cell? ⟨bB, 0, none⟩ = some (.int .i64 (bs : Int)) ∧ w'.cell? ⟨cB, 0, none⟩ = some (.func (.func 114) #[] #[.pointer (some ⟨tB, 0, none⟩), .pointer (some ⟨kB, 0, none⟩), .pointer (some ⟨bB, 0, none⟩), .pointer (some ⟨cB, 0, none⟩)]) ∧ Below w.heap.size w w') (ds := []) (Qbz 15 0) (by kernel_rfl) rfl rfl ⟨c0d, c1d, c2d, c3d, c4d⟩ (fun hHeld => ?_)
  refine Qpu 1 8 ?_ ?_ (Qbz 15 2) (by kernel_rfl) ?_
  refine take_ (i := 0) (N := some 7) (v := ?_) (a' := ?_) (Qbz 15 3) rfl rfl (by kernel_rfl) (fun _ _ _ h => h) (Or.inl ⟨by rfl, ?_⟩) hHeld ?_ ?_;rotate_left;(·rintro w' ⟨s0, s1, s2, s3, s4⟩;go_simp;with_reducible rfl);rotate_left;(·simp only [Act.put, Qp1, Qp2, Qp3, i64_w, i32_w];rfl)
  refine take_ (i := 2) (N := some 9) (v := ?_) (a' := ?_) (Qbz 15 7) rfl rfl (by kernel_rfl) (fun _ _ _ h => h) (Or.inl ⟨by rfl, ?_⟩) hHeld ?_ ?_;rotate_left;(·rintro w' ⟨s0, s1, s2, s3, s4⟩;go_simp;with_reducible rfl);rotate_left;(·simp only [Act.put, Qp1, Qp2, Qp3, i64_w, i32_w];rfl)
  refine take_ (i := 4) (N := some 11) (v := ?_) (a' := ?_) (Qbz 15 23) rfl rfl (by kernel_rfl) (fun _ _ _ h => h) (Or.inl ⟨by rfl, ?_⟩) hHeld ?_ ?_;rotate_left;(·rintro w' ⟨s0, s1, s2, s3, s4⟩;go_simp;with_reducible rfl);rotate_left;(·simp only [Act.put, Qp1, Qp2, Qp3, i64_w, i32_w];rfl)
  refine one_ (i := 3) (N := some 10) (Qbz 15 31) rfl rfl (by kernel_rfl) (by decide) (fun K hK => ?_)
  refine goes_ Tryd.func113 (by kernel_rfl) rfl #[.slice Ag G.length cg, .int .i64 (v : Int), .int .i64 (gone : Int)] (by rfl) rfl rfl (by simp only [List.map_toArray, List.map_cons, List.map_nil]; rfl) ?_
  with_reducible refine (HDG.out _ hHeld).mono ?_
  rintro e w9 ⟨rfl, k0, k1, k2, k3, kB9⟩
  refine ⟨_, rfl, ?_⟩
  refine hK.out _ _ ⟨k0, k1, k2, k3, kB9⟩ (fun hHeld => ?_)
  clear hK K
  refine norm_ (a' := ?_) ?_ ?_
  rotate_left
  ·show Act.put _ (some 10) _ = _
   simp only [Act.put, Qp1, Qp2, Qp3, i64_w, i32_w]
   rfl
  refine Qpu 5 12 ?_ ?_ (Qbz 15 63) (by kernel_rfl) ?_
  refine Qpu 6 13 ?_ ?_ (Qbz 15 127) (by kernel_rfl) ?_
  refine Qpn 7 14 ?_ (Qbz 15 255) (by kernel_rfl) ?_
  refine Qpn 8 15 ?_ (Qbz 15 511) (by kernel_rfl) ?_
  refine Qpn 9 16 ?_ (Qbz 15 1023) (by kernel_rfl) ?_
  refine Qpn 10 17 ?_ (Qbz 15 2047) (by kernel_rfl) ?_
  refine Qpn 11 18 ?_ (Qbz 15 4095) (by kernel_rfl) ?_
  refine Qpn 12 19 ?_ (Qbz 15 8191) (by kernel_rfl) ?_
  refine Qpu 13 20 ?_ ?_ (Qbz 15 16383) (by kernel_rfl) ?_
  refine Qpu 14 6 ?_ ?_ (Qbz 15 32767) (by kernel_rfl) ?_
  refine done_ (by kernel_rfl) ?_
  go_wp2
  go_ret
  exact ⟨rfl, HK.out.low (grown_of_below hHeld.2.2.2.2 none), grown_of_below hHeld.2.2.2.2 (some mB)⟩
set_option maxHeartbeats 8000000 in
set_option maxRecDepth 100000 in
theorem can_grow (tB kB bB cB mB : Nat) (W0 : World) (hmB : mB < W0.heap.size) (Ag : Option Addr) (cg : Nat) (G : List Nat) (hG : Gr 9 G) (hcg : G.length ≤ cg) (bs : Nat)
  (hlow : ∀ W, W0.grownBy W (some mB) → GL W ∧ Kd.C (Kd.int .i64) W Ag (gi G).length (gi G) ∧ W.cell? ⟨tB, 0, none⟩ = some (.slice Ag G.length cg) ∧ W.cell? ⟨kB, 0, none⟩ = some (.map (some mB)) ∧ W.cell? ⟨bB, 0, none⟩ = some (.int .i64 (bs : Int)) ∧ W.cell? ⟨cB, 0, none⟩ = some (canV tB kB bB cB)) :
  ∀ (d gone : Nat) (w : World), pc (lft G gone) 9 = d → gone < 2 ^ G.length → KM W0 w mB 512 (canB G bs) →
  Calls Tryd.prog 114 #[.int .i64 (gone : Int), .pointer (some ⟨tB, 0, none⟩), .pointer (some ⟨kB, 0, none⟩), .pointer (some ⟨bB, 0, none⟩), .pointer (some ⟨cB, 0, none⟩)] w fun e w' => e = .returned (.bool (canB G bs gone)) ∧ KM W0 w' mB 512 (canB G bs) ∧ w.grownBy w' (some mB) := by
 have hn := hG.most
 intro d
 induction d with
 | zero =>
  intro gone w hd hg hk
  have hall : gone = 2 ^ G.length - 1 := Classical.byContradiction fun h => pc_pos (smallO hn (lft_lt G gone)) (lft_ne hg h) hd
  have hcb : canB G bs gone = true := by rw [hall]; exact canB_all bs
  rw [hcb]
  obtain ⟨w1, hw1⟩ : ∃ W : World, W = w.alloc (.cells #[.int .i64 (gone : Int)] 3) := ⟨_, rfl⟩
  have hB1 : Below w.heap.size w w1 := by rw [hw1]; exact below_alloc (Below.refl _ _) _
  have hk1 := hk.low (grown_of_below hB1 none)
  obtain ⟨q1, q2, q3, q4, q5, q6⟩ := hlow w1 hk1.grown
  have hgc : w1.cell? ⟨w.heap.size, 0, none⟩ = some (.int .i64 (gone : Int)) := by rw [hw1]; exact (blk_cell (show (w.heap.push _)[w.heap.size]? = _ from Array.getElem?_push_size) 0).trans rfl
  have hsz1 : w1.heap.size = w.heap.size + 1 := by rw [hw1]; simp
  have c0d : w1.drew.cell? ⟨tB, 0, none⟩ = some (.slice Ag G.length cg) := q3
  have c1d : w1.drew.cell? ⟨w.heap.size, 0, none⟩ = some (.int .i64 (gone : Int)) := hgc
  have c2d : Below w1.heap.size w1 w1.drew := below_drew (Below.refl _ _)
  have HAL : Aside0 (∀ W, (W.cell? ⟨tB, 0, none⟩ = some (.slice Ag G.length cg) ∧ W.cell? ⟨w.heap.size, 0, none⟩ = some (.int .i64 (gone : Int)) ∧ Below w1.heap.size w1 W) → Calls Tryd.prog 98 #[.slice Ag G.length cg] W fun e w' => e = .returned (.int .i64 ((2 ^ G.length - 1 : Nat) : Int)) ∧ w'.cell? ⟨tB, 0, none⟩ = some (.slice Ag G.length cg) ∧ w'.cell? ⟨w.heap.size, 0, none⟩ = some (.int .i64 (gone : Int)) ∧ Below w1.heap.size w1 w') := ⟨by
   rintro W ⟨s0, s1, s2⟩
   obtain ⟨p1, p2, _⟩ := hlow W ((hk1.low (grown_of_below s2 none)).grown)
   refine (all_callsO hG Ag cg hcg W p2).mono ?_
   rintro e w' ⟨rfl, hb⟩
   exact ⟨rfl, (hb.cell (World.block_lt_of_cell? W _ s0)).trans s0, (hb.cell (World.block_lt_of_cell? W _ s1)).trans s1, below_step s2 hb⟩⟩
  have HK := Aside0.mk hk
  have HB1 := Aside0.mk hB1
  rw [← hall] at HAL
  clear hk hk1 q1 q2 q3 q4 q5 q6 hlow hg hG hn hall hd hcb hB1 hgc
  go_enter Tryd.func114, Tryd.ntmps114
  go_wp2
  rw [← hw1]
  clear hw1
  refine start_ (n := 4) (S := fun w' => w'.cell? ⟨tB, 0, none⟩ = some (.slice Ag G.length cg) ∧ w'.cell? ⟨w.heap.size, 0, none⟩ = some (.int .i64 (gone : Int)) ∧ Below w1.heap.size w1 w') (ds := []) #[false, false, false, false] (by kernel_rfl) rfl rfl ⟨c0d, c1d, c2d⟩ (fun hHeld => ?_)
  refine take_ (i := 0) (N := some 9) (v := ?_) (a' := ?_) #[true, false, false, false] rfl rfl (by kernel_rfl) (fun _ _ _ h => h) (Or.inl ⟨by rfl, ?_⟩) hHeld ?_ ?_;rotate_left;(·rintro w' ⟨s0, s1, s2⟩;go_simp;with_reducible rfl);rotate_left;(·simp only [Act.put, Qp1, Qp2, Qp3, i64_w, i32_w];rfl)
  refine take_ (i := 1) (N := some 10) (v := ?_) (a' := ?_) #[true, true, false, false] rfl rfl (by kernel_rfl) (fun _ _ _ h => h) (Or.inl ⟨by rfl, ?_⟩) hHeld ?_ ?_;rotate_left;(·rintro w' ⟨s0, s1, s2⟩;go_simp;with_reducible rfl);rotate_left;(·simp only [Act.put, Qp1, Qp2, Qp3, i64_w, i32_w];rfl)
  refine one_ (i := 2) (N := some 11) #[true, true, true, false] rfl rfl (by kernel_rfl) (by decide) (fun K hK => ?_)
  refine goes_ Tryd.func98 (by kernel_rfl) rfl #[.slice Ag G.length cg] (by rfl) rfl rfl (by simp only [List.map_toArray, List.map_cons, List.map_nil]; rfl) ?_
  with_reducible refine (HAL.out _ hHeld).mono ?_
  rintro e w2 ⟨rfl, k0, k1, kB2⟩
  refine ⟨_, rfl, ?_⟩
  refine hK.out _ _ ⟨k0, k1, kB2⟩ (fun hHeld => ?_)
  clear hK K
  refine norm_ (a' := ?_) ?_ ?_
  rotate_left
  ·show Act.put _ (some 11) _ = _
   simp only [Act.put, Qp1, Qp2, Qp3, i64_w, i32_w]
   rfl
  refine Qpu 3 12 ?_ ?_ #[true, true, true, true] (by kernel_rfl) ?_
  refine done_ (by kernel_rfl) ?_
  go_wp2
  go_ret
  exact ⟨rfl, (HK.out.low (grown_of_below HB1.out none)).low (grown_of_below hHeld.2.2 none), grown_then (grown_of_below HB1.out (some mB)) (grown_of_below hHeld.2.2 (some mB))⟩
 | succ d ih =>
  intro gone w hd hg hk
  have hnall : gone ≠ 2 ^ G.length - 1 := fun h => by rw [h, lft_all] at hd; simp [pc] at hd
  have hg512 := smallO hn hg
  have hall512 : 2 ^ G.length - 1 < 512 := by
   have := smallO hn (lft_lt G 0)
   have h2 : 2 ^ G.length ≤ 2 ^ 9 := Nat.pow_le_pow_right (by omega) hn
   have h3 := Nat.two_pow_pos G.length
   omega
  have hand : Go.bits .andNot .i64 ((2 ^ G.length - 1 : Nat) : Int) (gone : Int) = ((lft G gone : Nat) : Int) := b_andNot _ _ (by omega) (by omega)
  have hcb := canB_step (k := bs) hn hg hnall
  obtain ⟨w1, hw1⟩ : ∃ W : World, W = w.alloc (.cells #[.int .i64 (gone : Int)] 3) := ⟨_, rfl⟩
  have hB1 : Below w.heap.size w w1 := by rw [hw1]; exact below_alloc (Below.refl _ _) _
  have hk1 := hk.low (grown_of_below hB1 none)
  obtain ⟨q1, q2, q3, q4, q5, q6⟩ := hlow w1 hk1.grown
  have hgc : w1.cell? ⟨w.heap.size, 0, none⟩ = some (.int .i64 (gone : Int)) := by rw [hw1]; exact (blk_cell (show (w.heap.push _)[w.heap.size]? = _ from Array.getElem?_push_size) 0).trans rfl
  have hsz1 : w1.heap.size = w.heap.size + 1 := by rw [hw1]; simp
  have c0d : w1.drew.cell? ⟨tB, 0, none⟩ = some (.slice Ag G.length cg) := q3
  have c1d : w1.drew.cell? ⟨w.heap.size, 0, none⟩ = some (.int .i64 (gone : Int)) := hgc
  have c2d : Below w1.heap.size w1 w1.drew := below_drew (Below.refl _ _)
  have HAL : Aside0 (∀ W, (W.cell? ⟨tB, 0, none⟩ = some (.slice Ag G.length cg) ∧ W.cell? ⟨w.heap.size, 0, none⟩ = some (.int .i64 (gone : Int)) ∧ Below w1.heap.size w1 W) → Calls Tryd.prog 98 #[.slice Ag G.length cg] W fun e w' => e = .returned (.int .i64 ((2 ^ G.length - 1 : Nat) : Int)) ∧ w'.cell? ⟨tB, 0, none⟩ = some (.slice Ag G.length cg) ∧ w'.cell? ⟨w.heap.size, 0, none⟩ = some (.int .i64 (gone : Int)) ∧ Below w1.heap.size w1 w') := ⟨by
   rintro W ⟨s0, s1, s2⟩
   obtain ⟨p1, p2, _⟩ := hlow W ((hk1.low (grown_of_below s2 none)).grown)
   refine (all_callsO hG Ag cg hcg W p2).mono ?_
   rintro e w' ⟨rfl, hb⟩
   exact ⟨rfl, (hb.cell (World.block_lt_of_cell? W _ s0)).trans s0, (hb.cell (World.block_lt_of_cell? W _ s1)).trans s1, below_step s2 hb⟩⟩
  obtain ⟨L, hL⟩ : ∃ L : List Nat, L = els (lft G gone) 9 := ⟨_, rfl⟩
  obtain ⟨P, hP⟩ : ∃ P : Int → Bool, P = fun x => decide (dg G gone x.toNat ≤ bs) && canB G bs (gone ||| 2 ^ x.toNat) := ⟨_, rfl⟩
  have hany : (gi L).any P = canB G bs gone := by
   rw [hcb, hL, hP]
   unfold gi
   rw [List.any_map]
   rfl
  have hLlen : L.length ≤ 9 := by rw [hL, els_length]; exact pc_le _ 9
  have HREC : Aside0 (∀ W, KM W0 W mB 512 (canB G bs) → W.cell? ⟨w.heap.size, 0, none⟩ = some (.int .i64 (gone : Int)) → ∀ x ∈ gi L, Calls Tryd.prog 115 #[.int .i64 x, .pointer (some ⟨tB, 0, none⟩), .pointer (some ⟨w.heap.size, 0, none⟩), .pointer (some ⟨bB, 0, none⟩), .pointer (some ⟨cB, 0, none⟩)] W fun e w' => e = .returned (.bool (P x)) ∧ KM W0 w' mB 512 (canB G bs) ∧ W.grownBy w' (some mB)) := ⟨fun W hKW hcW x hx => by
   unfold gi at hx
   obtain ⟨v, hv, rfl⟩ := List.mem_map.1 hx
   rw [hL] at hv
   have hvb := (mem_els.1 hv).2
   have hvn := ((lft_bit G gone v).1 hvb).1
   have hpc := pc_lft hn hvb
   rw [hP]
   exact can_inner tB kB w.heap.size bB cB mB W0 Ag cg G hG hcg bs hlow gone v hg hvn W hKW hcW fun V hV => ih (gone ||| 2 ^ v) V (by omega) (or_in hg hvb) hV⟩
  have hmBw : mB < w.heap.size := Nat.lt_of_lt_of_le hmB hk.grown.size
  have HND : Aside0 (∀ W, GL W → mB < W.heap.size → Calls Tryd.prog 104 #[.int .i64 ((lft G gone : Nat) : Int)] W fun e w' => ∃ A c, e = .returned (.slice A L.length c) ∧ L.length ≤ c ∧ (∀ V, w'.grownBy V (some mB) → Kd.C (Kd.int .i64) V A L.length (gi L)) ∧ Below W.heap.size W w') := ⟨fun W hGLW hW => by
   rw [hL]
   exact nodes_callsO (smallO hn (lft_lt G gone)) mB W hW hGLW⟩
  have hne : (((gone : Int)) == ((2 ^ G.length - 1 : Nat) : Int)) = false := beq_eq_false_iff_ne.2 (by omega)
  have HK := Aside0.mk hk
  have HB1 := Aside0.mk hB1
  have HLOW := Aside0.mk hlow
  have HANY := Aside0.mk hany
  have hg62 : gone < 2 ^ 62 := by omega
  generalize lft G gone = lf at *
  generalize canB G bs = F at *
  obtain ⟨z, hz⟩ : ∃ z : Nat, z = 2 ^ G.length - 1 := ⟨_, rfl⟩
  have HALG : Aside0 (∀ W, W0.grownBy W (some mB) → Calls Tryd.prog 98 #[.slice Ag G.length cg] W fun e w' => e = .returned (.int .i64 ((2 ^ G.length - 1 : Nat) : Int)) ∧ Below W.heap.size W w') := ⟨fun W hW => all_callsO hG Ag cg hcg W (HLOW.out W hW).2.1⟩
  have HBLK1 : Aside0 (w1.heap[w.heap.size]? = some (.cells #[.int .i64 (gone : Int)] 3 (0, 0))) := ⟨by rw [hw1]; exact Array.getElem?_push_size⟩
  rw [← hz] at hne hand HAL HALG
  clear hk hk1 q1 q2 q3 q4 q5 q6 hlow hg hG hn hd hcb hB1 hgc hz hP hL hany ih hnall hall512
  go_enter Tryd.func114, Tryd.ntmps114
  go_wp2
  rw [← hw1]
  clear hw1
  refine start_ (n := 4) (S := fun w' => w'.cell? ⟨tB, 0, none⟩ = some (.slice Ag G.length cg) ∧ w'.cell? ⟨w.heap.size, 0, none⟩ = some (.int .i64 (gone : Int)) ∧ Below w1.heap.size w1 w') (ds := []) #[false, false, false, false] (by kernel_rfl) rfl rfl ⟨c0d, c1d, c2d⟩ (fun hHeld => ?_)
  refine take_ (i := 0) (N := some 9) (v := ?_) (a' := ?_) #[true, false, false, false] rfl rfl (by kernel_rfl) (fun _ _ _ h => h) (Or.inl ⟨by rfl, ?_⟩) hHeld ?_ ?_;rotate_left;(·rintro w' ⟨s0, s1, s2⟩;go_simp;with_reducible rfl);rotate_left;(·simp only [Act.put, Qp1, Qp2, Qp3, i64_w, i32_w];rfl)
  refine take_ (i := 1) (N := some 10) (v := ?_) (a' := ?_) #[true, true, false, false] rfl rfl (by kernel_rfl) (fun _ _ _ h => h) (Or.inl ⟨by rfl, ?_⟩) hHeld ?_ ?_;rotate_left;(·rintro w' ⟨s0, s1, s2⟩;go_simp;with_reducible rfl);rotate_left;(·simp only [Act.put, Qp1, Qp2, Qp3, i64_w, i32_w];rfl)
  refine one_ (i := 2) (N := some 11) #[true, true, true, false] rfl rfl (by kernel_rfl) (by decide) (fun K hK => ?_)
  refine goes_ Tryd.func98 (by kernel_rfl) rfl #[.slice Ag G.length cg] (by rfl) rfl rfl (by simp only [List.map_toArray, List.map_cons, List.map_nil]; rfl) ?_
  with_reducible refine (HAL.out _ hHeld).mono ?_
  rintro e w2 ⟨rfl, k0, k1, kB2⟩
  refine ⟨_, rfl, ?_⟩
  refine hK.out _ _ ⟨k0, k1, kB2⟩ (fun hHeld => ?_)
  clear hK K
  refine norm_ (a' := ?_) ?_ ?_
  rotate_left
  ·show Act.put _ (some 11) _ = _
   simp only [Act.put, Qp1, Qp2, Qp3, i64_w, i32_w]
   rfl
  refine Qpu 3 12 ?_ ?_ #[true, true, true, true] (by kernel_rfl) ?_
  refine done_ (by kernel_rfl) ?_
  obtain ⟨s0, s1, s2⟩ := hHeld
  have hk2 := (HK.out.low (grown_of_below HB1.out none)).low (grown_of_below s2 none)
  have HG2 : Aside0 (w.grownBy w2 (some mB)) := ⟨grown_then (grown_of_below HB1.out (some mB)) (grown_of_below s2 (some mB))⟩
  have HK2 := Aside0.mk hk2
  have HBLK2 : Aside0 (w2.heap[w.heap.size]? = some (.cells #[.int .i64 (gone : Int)] 3 (0, 0))) := ⟨blk_grown HBLK1.out (grown_of_below s2 none) (by simp)⟩
  clear HAL HBLK1
  obtain ⟨p1, p2, p3, p4, p5, p6⟩ := HLOW.out w2 hk2.grown
  obtain ⟨⟨D, hown, hkn⟩, hgr⟩ := hk2
  have HOWN := Aside0.mk hown
  have hkey := key3 gone hg62
  have S2 := Aside0.mk s2
  have c0e : w2.drew.cell? ⟨tB, 0, none⟩ = some (.slice Ag G.length cg) := s0
  have c1e : w2.drew.cell? ⟨w.heap.size, 0, none⟩ = some (.int .i64 (gone : Int)) := s1
  have c2e : Below w2.heap.size w2 w2.drew := below_drew (Below.refl _ _)
  cases hh : Maps.has D (.int .i64 (gone : Int))
  ·have hr : D.atKey (.int .i64 (gone : Int)) (.lit (.bool false)) = .lit (.bool false) := Maps.atKey_of_not_has hh _
   clear hkn hgr s2 p5 p6 hown
   go_wp2_with (at_lookup; refine wpList_known rfl _ _ rfl mB 512 D rfl HOWN.out _ _ rfl hkey false false hr hh ?_)
   have HAL2 : Aside0 (∀ W, (W.cell? ⟨tB, 0, none⟩ = some (.slice Ag G.length cg) ∧ W.cell? ⟨w.heap.size, 0, none⟩ = some (.int .i64 (gone : Int)) ∧ Below w2.heap.size w2 W) → Calls Tryd.prog 98 #[.slice Ag G.length cg] W fun e w' => e = .returned (.int .i64 (z : Int)) ∧ w'.cell? ⟨tB, 0, none⟩ = some (.slice Ag G.length cg) ∧ w'.cell? ⟨w.heap.size, 0, none⟩ = some (.int .i64 (gone : Int)) ∧ Below w2.heap.size w2 w') := ⟨by
    rintro W ⟨s0, s1, s2⟩
    refine (HALG.out W ((HK2.out.low (grown_of_below s2 none)).grown)).mono ?_
    rintro e w' ⟨rfl, hb⟩
    exact ⟨rfl, (hb.cell (World.block_lt_of_cell? W _ s0)).trans s0, (hb.cell (World.block_lt_of_cell? W _ s1)).trans s1, below_step s2 hb⟩⟩
   have HND2 : Aside0 (∀ W, (W.cell? ⟨tB, 0, none⟩ = some (.slice Ag G.length cg) ∧ W.cell? ⟨w.heap.size, 0, none⟩ = some (.int .i64 (gone : Int)) ∧ Below w2.heap.size w2 W) → Calls Tryd.prog 104 #[.int .i64 (lf : Int)] W fun e w' => ∃ A c, e = .returned (.slice A L.length c) ∧ (∀ V, w'.grownBy V (some mB) → Kd.C (Kd.int .i64) V A L.length (gi L)) ∧ w'.cell? ⟨tB, 0, none⟩ = some (.slice Ag G.length cg) ∧ w'.cell? ⟨w.heap.size, 0, none⟩ = some (.int .i64 (gone : Int)) ∧ Below w2.heap.size w2 w') := ⟨by
    rintro W ⟨s0, s1, s2⟩
    have hkW := HK2.out.low (grown_of_below s2 none)
    refine (HND.out W (HLOW.out W hkW.grown).1 (Nat.lt_of_lt_of_le hmB hkW.grown.size)).mono ?_
    rintro e w' ⟨A, c, rfl, hc, hC, hb⟩
    exact ⟨A, c, rfl, hC, (hb.cell (World.block_lt_of_cell? W _ s0)).trans s0, (hb.cell (World.block_lt_of_cell? W _ s1)).trans s1, below_step s2 hb⟩⟩
   have HCC : Aside0 (∀ W A c, Below w2.heap.size w2 W → (∀ V, W.grownBy V (some mB) → Kd.C (Kd.int .i64) V A L.length (gi L)) → Calls Tryd.prog 68 #[.slice A L.length c, .func (.func 115) #[] #[.pointer (some ⟨tB, 0, none⟩), .pointer (some ⟨w.heap.size, 0, none⟩), .pointer (some ⟨bB, 0, none⟩), .pointer (some ⟨cB, 0, none⟩)]] W fun e w' => e = .returned (.bool (F gone)) ∧ KM W0 w' mB 512 F ∧ W.grownBy w' (some mB)) := ⟨by
    intro W A c hb hC
    have hkW := HK2.out.low (grown_of_below hb none)
    have hblkW := blk_grown HBLK2.out (grown_of_below hb none) (by simp)
    have := contains_can tB w.heap.size bB cB mB 512 F W0 A c (gi L) P W hkW (fun V hV => by rw [gi_length]; exact hC V hV) (by rw [gi_length]; omega) (fun V hKV hV x hx => HREC.out V hKV ((blk_cell (blk_grown hblkW hV (fun e => by have := Option.some.inj e; omega)) 0).trans rfl) x hx)
    rw [gi_length, HANY.out] at this
    exact this⟩
   clear HND HALG HREC HANY
   refine start_ (n := 8) (S := fun w' => w'.cell? ⟨tB, 0, none⟩ = some (.slice Ag G.length cg) ∧ w'.cell? ⟨w.heap.size, 0, none⟩ = some (.int .i64 (gone : Int)) ∧ Below w2.heap.size w2 w') (ds := [6]) (Qbz 8 0) (by kernel_rfl) rfl rfl ⟨c0e, c1e, c2e⟩ (fun hHeld => ?_)
   refine Qpu 5 26 ?_ ?_ (Qbz 8 32) (by kernel_rfl) ?_
   refine take_ (i := 0) (N := some 21) (v := ?_) (a' := ?_) (Qbz 8 33) rfl rfl (by kernel_rfl) (fun _ _ _ h => h) (Or.inl ⟨by rfl, ?_⟩) hHeld ?_ ?_;rotate_left;(·rintro w' ⟨s0, s1, s2⟩;go_simp;with_reducible rfl);rotate_left;(·simp only [Act.put, Qp1, Qp2, Qp3, i64_w, i32_w];rfl)
   refine take_ (i := 2) (N := some 23) (v := ?_) (a' := ?_) (Qbz 8 37) rfl rfl (by kernel_rfl) (fun _ _ _ h => h) (Or.inl ⟨by rfl, ?_⟩) hHeld ?_ ?_;rotate_left;(·rintro w' ⟨s0, s1, s2⟩;go_simp;with_reducible rfl);rotate_left;(·simp only [Act.put, Qp1, Qp2, Qp3, i64_w, i32_w];rfl)
   refine one_ (i := 1) (N := some 22) (Qbz 8 39) rfl rfl (by kernel_rfl) (by decide) (fun K hK => ?_)
   refine goes_ Tryd.func98 (by kernel_rfl) rfl #[.slice Ag G.length cg] (by rfl) rfl rfl (by simp only [List.map_toArray, List.map_cons, List.map_nil]; rfl) ?_
   with_reducible refine (HAL2.out _ hHeld).mono ?_
   rintro e w5 ⟨rfl, k0, k1, kB5⟩
   refine ⟨_, rfl, ?_⟩
   refine hK.out _ _ ⟨k0, k1, kB5⟩ (fun hHeld => ?_)
   clear hK K
   refine norm_ (a' := ?_) ?_ ?_
   rotate_left
   ·show Act.put _ (some 22) _ = _
    simp only [Act.put, Qp1, Qp2, Qp3, i64_w, i32_w]
    rfl
   refine Qpu 3 24 ?_ ?_ (Qbz 8 47) (by kernel_rfl) ?_
   refine one_ (i := 4) (N := some 25) (Qbz 8 63) rfl rfl (by kernel_rfl) (by decide) (fun K hK => ?_)
   refine goes_ Tryd.func104 (by kernel_rfl) rfl #[.int .i64 (lf : Int)] (by rfl) rfl rfl (by simp only [List.map_toArray, List.map_cons, List.map_nil]; rfl) ?_
   with_reducible refine (HND2.out _ hHeld).mono ?_
   rintro e w6 ⟨A6, c6, rfl, hC6, k0, k1, kB6⟩
   refine ⟨_, rfl, ?_⟩
   have HC6 := Aside0.mk hC6
   clear hC6
   refine hK.out _ _ ⟨k0, k1, kB6⟩ (fun hHeld => ?_)
   clear hK K
   refine norm_ (a' := ?_) ?_ ?_
   rotate_left
   ·show Act.put _ (some 25) _ = _
    simp only [Act.put, Qp1, Qp2, Qp3, i64_w, i32_w]
    rfl
   refine last_ (i := 6) (N := some 27) (Qbz 8 127) rfl rfl (by kernel_rfl) (by decide) (fun K hK => ?_)
   refine goes_ Tryd.func68 (by kernel_rfl) rfl #[.slice A6 L.length c6, .func (.func 115) #[] #[.pointer (some ⟨tB, 0, none⟩), .pointer (some ⟨w.heap.size, 0, none⟩), .pointer (some ⟨bB, 0, none⟩), .pointer (some ⟨cB, 0, none⟩)]] (by rfl) rfl rfl (by simp only [List.map_toArray, List.map_cons, List.map_nil]; rfl) ?_
   with_reducible refine (HCC.out _ _ _ hHeld.2.2 HC6.out).mono ?_
   rintro e w7 ⟨rfl, hK7, hG7⟩
   have HK7 := Aside0.mk hK7
   have HG7 := Aside0.mk hG7
   have HB6 := Aside0.mk kB6
   clear hK7 hG7 kB6
   refine ⟨_, rfl, ?_⟩
   refine hK.out _ _ ?_
   clear hK K
   refine norm_ (a' := ?_) ?_ ?_
   rotate_left
   ·show Act.put _ (some 27) _ = _
    simp only [Act.put, Qp1, Qp2, Qp3, i64_w, i32_w]
    rfl
   refine Qpu 7 7 ?_ ?_ (Qbz 8 255) (by kernel_rfl) ?_
   refine done_ (by kernel_rfl) ?_
   have hG27 := grown_then (grown_of_below HB6.out (some mB)) HG7.out
   obtain ⟨n1, n2, n3, n4, n5, n6⟩ := HLOW.out w7 HK7.out.grown
   have n7 : w7.cell? ⟨w.heap.size, 0, none⟩ = some (.int .i64 (gone : Int)) := (blk_cell (blk_grown HBLK2.out hG27 (fun e => by have := Option.some.inj e; omega)) 0).trans rfl
   obtain ⟨⟨D7, hown7, hkn7⟩, hgr7⟩ := HK7.out
   have HOWN7 := Aside0.mk hown7
   have HKN7 := Aside0.mk hkn7
   have HG27 := Aside0.mk hG27
   clear hown7 hkn7 hgr7 hG27 n1 n2 n3 n5 n6
   go_wp2_with (at_mapUpdate; refine wpList_mapUpdate_own _ rfl _ _ _ _ rfl 3 4 law3 undM (plainElem Tryd.prog 4) mB 512 D7 rfl HOWN7.out (by unfold maxLen; omega) _ _ _ rfl rfl hkey _ [] (plainElem_bool und4 (F gone)) ?_; intro w8 hown8 hgrow8; have HOWN8 := Aside0.mk hown8; have HG8 := Aside0.mk hgrow8; clear hown8 hgrow8)
   go_ret
   exact ⟨rfl, HK7.out.put HKN7.out hg512 (by omega) HOWN8.out HOWN7.out.isMap HG8.out, grown_then (grown_then HG2.out HG27.out) HG8.out⟩
  ·have hr := hkn.2 gone hg512 hh
   clear hkn hgr s2 p5 p6 hown HREC HANY HND HALG c0e c1e c2e
   go_wp2_with (at_lookup; refine wpList_known rfl _ _ rfl mB 512 D rfl HOWN.out _ _ rfl hkey (F gone) true hr hh ?_)
   go_ret
   exact ⟨rfl, HK2.out, HG2.out⟩
theorem undS : Tryd.prog.underlying 22 = some (.slice 3) := by kernel_rfl
theorem width_callsO {G : List Nat} (hG : Gr 9 G) {W : Nat} (hW : IsWidth G W) (Ag : Option Addr) (cg : Nat) (hcg : G.length ≤ cg) (w : World) (hGL : GL w) (h1 : Kd.C (Kd.int .i64) w Ag (gi G).length (gi G)) :
  Calls Tryd.prog 87 #[.slice Ag G.length cg] w fun e w' => e = .returned (.int .i64 (W : Int)) ∧ Below w.heap.size w w' := by
 obtain ⟨W', hW', hE⟩ := width_evV G hG
 rw [hW'.uniq hW] at hE
 obtain ⟨K, hK⟩ := hE
 have := width_town_width.calls K Ag cg (gi G) _ w hGL h1 (by rw [gi_length]; exact hcg) (hK K (Nat.le_refl _))
 rw [gi_length] at this
 exact this
set_option maxHeartbeats 1500000 in
set_option maxRecDepth 100000 in
theorem order_calls (Ag : Option Addr) (cg : Nat) (G : List Nat) (hG : Gr 9 G) (hcg : G.length ≤ cg) (bs : Nat) (hbs : IsWidth G bs) (w : World) (hGL : GL w) (hrg : Kd.C (Kd.int .i64) w Ag (gi G).length (gi G)) :
  Calls Tryd.prog 99 #[.slice Ag G.length cg] w fun e w' => ∃ v, e = .returned v ∧ Kd.R (Kd.int .i64) 3 w' w.heap.size (fun _ => True) v (gi (ordL G bs)) ∧ Below w.heap.size w w' := by
 have hn := hG.most
 obtain ⟨wt, hwt⟩ : ∃ W : World, W = w.alloc (.cells #[.slice Ag G.length cg] 104) := ⟨_, rfl⟩
 have hBt : Below w.heap.size w wt := by rw [hwt]; exact below_alloc (Below.refl _ _) _
 have htb : wt.heap[w.heap.size]? = some (.cells #[.slice Ag G.length cg] 104 (0, 0)) := by rw [hwt]; exact Array.getElem?_push_size
 have htc : wt.cell? ⟨w.heap.size, 0, none⟩ = some (.slice Ag G.length cg) := (blk_cell htb 0).trans rfl
 have hszt : wt.heap.size = w.heap.size + 1 := by rw [hwt]; simp
 have HWD : Aside0 (Calls Tryd.prog 87 #[.slice Ag G.length cg] wt fun e w' => e = .returned (.int .i64 (bs : Int)) ∧ Below wt.heap.size wt w') := ⟨width_callsO hG hbs Ag cg hcg wt (GL_below hGL hBt) (Kd.C_below hrg hBt)⟩
 have HBT := Aside0.mk hBt
 have HTB := Aside0.mk htb
 have HGL := Aside0.mk hGL
 have HRG := Aside0.mk hrg
 rw [hwt] at htc HWD
 clear hGL hrg hBt htb
 go_enter Tryd.func99, Tryd.ntmps99
 go_wp2_with (go_at_call 87; refine HWD.out.mono ?_; rintro e w1 ⟨rfl, hb1⟩; rw [← hwt] at hb1; have HB1 := Aside0.mk hb1; clear hb1)
 obtain ⟨W0, hW0⟩ : ∃ W0 : World, W0 = ((((w1.alloc (Obj.cells #[Value.int IntKind.i64 (bs : Int)] 3)).alloc (Obj.map #[] 0)).alloc (Obj.cells #[Value.map (some (w1.heap.size + 1))] 128)).alloc (Obj.cells #[.func (.func 114) #[] #[.pointer (some ⟨w.heap.size, 0, none⟩), .pointer (some ⟨w1.heap.size + 1 + 1, 0, none⟩), .pointer (some ⟨w1.heap.size, 0, none⟩), .pointer (some ⟨w1.heap.size + 1 + 1 + 1, 0, none⟩)]] 43)) := ⟨_, rfl⟩
 rw [← hW0]
 have hs1 : w.heap.size + 1 ≤ w1.heap.size := by have := HB1.out.size; omega
 have hsz : W0.heap.size = w1.heap.size + 4 := by rw [hW0]; simp
 have hBW : Below w1.heap.size w1 W0 := by rw [hW0]; exact below_alloc (below_alloc (below_alloc (below_alloc (Below.refl _ _) _) _) _) _
 have hbt : W0.heap[w.heap.size]? = some (.cells #[.slice Ag G.length cg] 104 (0, 0)) := blk_grown (blk_grown HTB.out (grown_of_below HB1.out none) (by simp)) (grown_of_below hBW none) (by simp)
 have hbb : W0.heap[w1.heap.size]? = some (.cells #[.int .i64 (bs : Int)] 3 (0, 0)) := by
  rw [hW0]
  exact blk_alloc (blk_alloc (blk_alloc (show (w1.heap.push _)[w1.heap.size]? = _ from Array.getElem?_push_size) _) _) _
 have hbk : W0.heap[w1.heap.size + 1 + 1]? = some (.cells #[.map (some (w1.heap.size + 1))] 128 (0, 0)) := by
  rw [hW0]
  refine blk_alloc ?_ _
  have : ((w1.alloc (Obj.cells #[Value.int IntKind.i64 (bs : Int)] 3)).alloc (Obj.map #[] 0)).heap.size = w1.heap.size + 1 + 1 := by simp
  rw [← this]
  exact (show (Array.push _ _)[_]? = _ from Array.getElem?_push_size)
 have hbc : W0.heap[w1.heap.size + 1 + 1 + 1]? = some (.cells #[.func (.func 114) #[] #[.pointer (some ⟨w.heap.size, 0, none⟩), .pointer (some ⟨w1.heap.size + 1 + 1, 0, none⟩), .pointer (some ⟨w1.heap.size, 0, none⟩), .pointer (some ⟨w1.heap.size + 1 + 1 + 1, 0, none⟩)]] 43 (0, 0)) := by
  rw [hW0]
  have : (((w1.alloc (Obj.cells #[Value.int IntKind.i64 (bs : Int)] 3)).alloc (Obj.map #[] 0)).alloc (Obj.cells #[Value.map (some (w1.heap.size + 1))] 128)).heap.size = w1.heap.size + 1 + 1 + 1 := by simp
  rw [← this]
  exact (show (Array.push _ _)[_]? = _ from Array.getElem?_push_size)
 have hmap : W0.ownsMap Tryd.prog 3 (plainElem Tryd.prog 4) (w1.heap.size + 1) 512 (.map [] : DataW Unit) := by
  rw [hW0]
  have := World.ownsMap_made (H := Unit) (w1.alloc (Obj.cells #[Value.int IntKind.i64 (bs : Int)] 3)) Tryd.prog 3 (plainElem Tryd.prog 4)
  rw [show (w1.alloc (Obj.cells #[Value.int IntKind.i64 (bs : Int)] 3)).heap.size = w1.heap.size + 1 by simp] at this
  exact ((this.alloc _).alloc _).mono (by omega)
 clear hW0
 have hKM0 : KM W0 W0 (w1.heap.size + 1) 512 (canB G bs) := ⟨⟨_, hmap, (by
  refine ⟨?_, ?_⟩
  ·intro kl h; cases h
  ·intro g _ h; cases h)⟩, World.grownBy.refl _ _⟩
 have hlow : ∀ W, W0.grownBy W (some (w1.heap.size + 1)) → GL W ∧ Kd.C (Kd.int .i64) W Ag (gi G).length (gi G) ∧ W.cell? ⟨w.heap.size, 0, none⟩ = some (.slice Ag G.length cg) ∧ W.cell? ⟨w1.heap.size + 1 + 1, 0, none⟩ = some (.map (some (w1.heap.size + 1))) ∧ W.cell? ⟨w1.heap.size, 0, none⟩ = some (.int .i64 (bs : Int)) ∧ W.cell? ⟨w1.heap.size + 1 + 1 + 1, 0, none⟩ = some (canV w.heap.size (w1.heap.size + 1 + 1) w1.heap.size (w1.heap.size + 1 + 1 + 1)) := fun W hW => by
  have hB01 := below_step HBT.out HB1.out
  have hB02 := below_step hB01 hBW
  have hB : Below w.heap.size w W := ⟨hW.os.trans hB02.os, hW.tape.trans hB02.tape, hW.output.trans hB02.output, Nat.le_trans hB02.size hW.size, fun k hk => (hW.block k (by omega) (fun e => by have := Option.some.inj e; omega)).trans (hB02.block k hk)⟩
  exact ⟨GL_below HGL.out hB, Kd.C_below HRG.out hB, (blk_cell (blk_grown hbt hW (fun e => by have := Option.some.inj e; omega)) 0).trans rfl, (blk_cell (blk_grown hbk hW (fun e => by have := Option.some.inj e; omega)) 0).trans rfl, (blk_cell (blk_grown hbb hW (fun e => by have := Option.some.inj e; omega)) 0).trans rfl, (blk_cell (blk_grown hbc hW (fun e => by have := Option.some.inj e; omega)) 0).trans rfl⟩
 have HFIN : Aside0 (∀ W, W0.grownBy W (some (w1.heap.size + 1)) → Below w.heap.size w W) := ⟨fun W hW => by
  have hB02 := below_step (below_step HBT.out HB1.out) hBW
  exact ⟨hW.os.trans hB02.os, hW.tape.trans hB02.tape, hW.output.trans hB02.output, Nat.le_trans hB02.size hW.size, fun k hk => (hW.block k (by omega) (fun e => by have := Option.some.inj e; omega)).trans (hB02.block k hk)⟩⟩
 have HLOW := Aside0.mk hlow
 have HALL : Aside0 (∀ W, W0.grownBy W (some (w1.heap.size + 1)) → Calls Tryd.prog 98 #[.slice Ag G.length cg] W fun e w' => e = .returned (.int .i64 ((2 ^ G.length - 1 : Nat) : Int)) ∧ Below W.heap.size W w') := ⟨fun W hW => all_callsO hG Ag cg hcg W (HLOW.out W hW).2.1⟩
 have HDEG : Aside0 (∀ (W : World) (gone v : Nat), gone < 2 ^ G.length → v < G.length → W0.grownBy W (some (w1.heap.size + 1)) → Calls Tryd.prog 113 #[.slice Ag G.length cg, .int .i64 (v : Int), .int .i64 (gone : Int)] W fun e w' => e = .returned (.int .i64 ((dg G gone v : Nat) : Int)) ∧ Below W.heap.size W w') := ⟨fun W gone v hg hv hW => degree_callsO hG hg hv Ag cg hcg W (HLOW.out W hW).1 (HLOW.out W hW).2.1⟩
 have HCAN : Aside0 (∀ (V : World) (gone : Nat), gone < 2 ^ G.length → KM W0 V (w1.heap.size + 1) 512 (canB G bs) → Calls Tryd.prog 114 #[.int .i64 (gone : Int), .pointer (some ⟨w.heap.size, 0, none⟩), .pointer (some ⟨w1.heap.size + 1 + 1, 0, none⟩), .pointer (some ⟨w1.heap.size, 0, none⟩), .pointer (some ⟨w1.heap.size + 1 + 1 + 1, 0, none⟩)] V fun e w' => e = .returned (.bool (canB G bs gone)) ∧ KM W0 w' (w1.heap.size + 1) 512 (canB G bs) ∧ V.grownBy w' (some (w1.heap.size + 1))) := ⟨fun V gone hg hV => can_grow w.heap.size (w1.heap.size + 1 + 1) w1.heap.size (w1.heap.size + 1 + 1 + 1) (w1.heap.size + 1) W0 (by omega) Ag cg G hG hcg bs hlow _ gone V rfl hg hV⟩
 have HKM0 := Aside0.mk hKM0
 have h2n := Nat.two_pow_pos G.length
 have hpc0 : pc (lft G 0) 9 = G.length := by
  have e : lft G 0 = 2 ^ G.length - 1 := eq_bits fun j => by rw [lft_bit, all_bit]; simp [bset]
  rw [e]
  have : ∀ i : Fin 10, pc (2 ^ i.val - 1) 9 = i.val := by decide
  exact this ⟨G.length, by omega⟩
 have hc0 : canB G bs 0 = true := (canB_zero hn hG).2 ((hbs bs).1 (Nat.le_refl _))
 have HC0 := Aside0.mk hc0
 have HBS := Aside0.mk hbs
 have HGR := Aside0.mk hG
 have H2N := Aside0.mk h2n
 have hmB : w1.heap.size + 1 < W0.heap.size := by omega
 clear hbt hbb hbk hbc hmap hlow hBW hKM0 hwt htc hszt hbs hG hc0 h2n
 go_loopg [6, 7] G.length (fun kq v6 v7 w' => ∃ (gone : Nat) (M : List Nat), v7 = .int .i64 (gone : Int) ∧ pc (lft G gone) 9 = kq ∧ M.length + kq = G.length ∧ Aside0 (gone < 2 ^ G.length) ∧ Aside0 (canB G bs gone = true) ∧ Aside0 (M ++ ordD G bs kq gone = ordL G bs) ∧ Aside0 (KM W0 w' (w1.heap.size + 1) 512 (canB G bs) ∧ w'.ownsRow W0.heap.size 3 1 v6 M.length ((gi M).map (Value.int .i64))))
 case atStart => exact ⟨0, [], rfl, hpc0, by simp, H2N, HC0, ⟨rfl⟩, ⟨HKM0.out, ⟨rfl, .inl ⟨rfl, rfl⟩⟩⟩⟩
 case round =>
  clear HC0 hpc0
  obtain ⟨gone, M, rfl, hpc, hMl, HG1, HC1, HM1, HX1⟩ := hrel
  obtain ⟨A6, c6, e6⟩ := ownsRow_form2 HX1.out.2
  subst e6
  have ht0 : wr.cell? ⟨w.heap.size, 0, none⟩ = some (.slice Ag G.length cg) := (HLOW.out wr HX1.out.1.grown).2.2.1
  have hg512 := smallO hn HG1.out
  have hall512 : 2 ^ G.length - 1 < 512 := by
   have h2 : 2 ^ G.length ≤ 2 ^ 9 := Nat.pow_le_pow_right (by omega) hn
   have h3 := H2N.out
   omega
  by_cases hall : gone = 2 ^ G.length - 1
  ·have hk0 : gk = 0 := by rw [← hpc, hall, lft_all]; rfl
   subst hk0
   have hne : (((gone : Int)) != ((2 ^ G.length - 1 : Nat) : Int)) = false := by rw [hall]; simp
   have HAL := Aside0.mk (HALL.out wr HX1.out.1.grown)
   rw [← hall] at HAL
   have HM2 : Aside0 (M = ordL G bs) := ⟨by have := HM1.out; simpa [ordD] using this⟩
   clear hall hall512 hne
   go_wp2_with (go_at_call 98; refine HAL.out.mono ?_; rintro e w3 ⟨rfl, hb3⟩; have HB3 := Aside0.mk hb3; clear hb3)
   go_ret
   refine ⟨_, rfl, ?_, HFIN.out _ ((HX1.out.1.low (grown_of_below HB3.out none)).grown)⟩
   have ho := own_kept HX1.out.2 (grown_of_below HB3.out none) (fun _ _ e => by cases e)
   rw [← HM2.out]
   rw [← gi_length M] at ho
   have hR := Kd.R_of_own (h1 := fun _ => rfl) (ok := fun _ => True) ho (fun _ _ => trivial)
   rw [gi_length] at hR
   have hR2 := Kd.R_lower hR (show w.heap.size ≤ W0.heap.size by omega)
   exact hR2
  ·have hne : (((gone : Int)) != ((2 ^ G.length - 1 : Nat) : Int)) = true := by
    have : (((gone : Int)) == ((2 ^ G.length - 1 : Nat) : Int)) = false := beq_eq_false_iff_ne.2 (by omega)
    rw [bne, this]; rfl
   have hne2 : (((gone : Int)) == ((2 ^ G.length - 1 : Nat) : Int)) = false := beq_eq_false_iff_ne.2 (by omega)
   cases gk with
   | zero => exact absurd hpc (pc_pos (smallO hn (lft_lt G gone)) (lft_ne HG1.out hall))
   | succ d =>
   have hand : Go.bits .andNot .i64 ((2 ^ G.length - 1 : Nat) : Int) (gone : Int) = ((lft G gone : Nat) : Int) := b_andNot _ _ (by omega) (by omega)
   obtain ⟨L, hL⟩ : ∃ L : List Nat, L = els (lft G gone) 9 := ⟨_, rfl⟩
   have hfind : ∃ x, L.find? (nextP G bs gone) = some x := by
    obtain ⟨v, h1, h2, h3⟩ := (canB_true hn HG1.out hall).1 HC1.out
    have hm : v ∈ L := by rw [hL]; exact mem_els.2 ⟨bit_lt (lft_small hn gone) h1, h1⟩
    cases hf : L.find? (nextP G bs gone) with
    | some x => exact ⟨x, rfl⟩
    | none =>
     have := List.find?_eq_none.1 hf v hm
     unfold nextP at this
     rw [h3, decide_eq_true h2] at this
     simp at this
   obtain ⟨x, hx⟩ := hfind
   have HM2 : Aside0 (M ++ x :: ordD G bs d (gone ||| 2 ^ x) = ordL G bs) := ⟨by
    have := HM1.out
    rw [ordD, ← hL, hx] at this
    exact this⟩
   have hxL : x ∈ L := List.mem_of_find?_eq_some hx
   have hxp : nextP G bs gone x = true := List.find?_some hx
   have hLb : ∀ u ∈ L, bset (lft G gone) u := fun u hu => by rw [hL] at hu; exact (mem_els.1 hu).2
   have hLlen : L.length ≤ 9 := by rw [hL, els_length]; exact pc_le _ 9
   have HND : Aside0 (∀ W, GL W → w1.heap.size + 1 < W.heap.size → Calls Tryd.prog 104 #[.int .i64 ((lft G gone : Nat) : Int)] W fun e w' => ∃ A c, e = .returned (.slice A L.length c) ∧ L.length ≤ c ∧ (∀ V, w'.grownBy V (some (w1.heap.size + 1)) → Kd.C (Kd.int .i64) V A L.length (gi L)) ∧ Below W.heap.size W w') := ⟨fun W hGLW hW => by
    rw [hL]
    exact nodes_callsO (smallO hn (lft_lt G gone)) (w1.heap.size + 1) W hW hGLW⟩
   have HLB := Aside0.mk hLb
   have HXB := Aside0.mk (hLb x hxL)
   have HXP := Aside0.mk hxp
   have HF0 : Aside0 ((L.drop 0).find? (nextP G bs gone) = some x) := ⟨hx⟩
   have HPC : Aside0 (pc (lft G (gone ||| 2 ^ x)) 9 = d) := ⟨by have := pc_lft hn (hLb x hxL); omega⟩
   have HAL := Aside0.mk (fun W hW => HALL.out W hW)
   obtain ⟨z, hz⟩ : ∃ z : Nat, z = 2 ^ G.length - 1 := ⟨_, rfl⟩
   rw [← hz] at hne hne2 hand HAL
   generalize hlf : lft G gone = lf at HND hand
   clear hL hx hxL hxp hLb hpc hall hall512 hz HM1 HALL
   go_wp2_with (first
    | (go_at_call 98; refine (HAL.out _ (by first | exact (HX1.out.1.low (grown_of_below HBA.out none)).grown | exact HX1.out.1.grown)).mono ?_; rintro e w3 ⟨rfl, hb3⟩; have HBA := Aside0.mk (by first | exact below_step HBA.out hb3 | exact hb3); have ht3 := (hb3.cell (World.block_lt_of_cell? _ _ (by assumption))).trans (by assumption); clear hb3)
    | (go_at_call 104; refine (HND.out _ (HLOW.out _ (HX1.out.1.low (grown_of_below HBA.out none)).grown).1 (Nat.lt_of_lt_of_le hmB (HX1.out.1.low (grown_of_below HBA.out none)).grown.size)).mono ?_; rintro e w5 ⟨An, cn, rfl, hcn, hCn, hb5⟩; have HCN := Aside0.mk hCn; have HB5 := Aside0.mk (below_step HBA.out hb5); clear hCn hb5))
   have HX5 : Aside0 (KM W0 w5 (w1.heap.size + 1) 512 (canB G bs) ∧ w5.ownsRow W0.heap.size 3 1 (.slice A6 M.length c6) M.length ((gi M).map (Value.int .i64))) := ⟨HX1.out.1.low (grown_of_below HB5.out none), own_kept HX1.out.2 (grown_of_below HB5.out none) (fun _ _ e => by cases e)⟩
   clear HX1 HND HAL hand hne hne2
   obtain ⟨wo, rfl⟩ : ∃ wo : World, wo = w5 := ⟨_, rfl⟩
   go_loopg [24, 6, 7] L.length (fun iq v24 v6 v7 w' => ∃ i : Nat, v24 = .int .i64 (i : Int) ∧ v6 = .slice A6 M.length c6 ∧ v7 = .int .i64 (gone : Int) ∧ i + iq = L.length ∧ Aside0 ((L.drop i).find? (nextP G bs gone) = some x) ∧ Aside0 (KM W0 w' (w1.heap.size + 1) 512 (canB G bs) ∧ wo.grownBy w' (some (w1.heap.size + 1))))
   case atStart => exact ⟨0, rfl, rfl, rfl, by omega, HF0, ⟨HX5.out.1, World.grownBy.refl _ _⟩⟩
   case round =>
    clear HF0
    obtain ⟨i, rfl, rfl, rfl, hi, HF, HW⟩ := hrel
    have hil : i < L.length := Nat.lt_of_not_le fun h => by
     have := HF.out
     rw [List.drop_eq_nil_of_le h] at this
     cases this
    have hi1 : ((i : Int) < (L.length : Int)) = True := eq_true (by omega)
    have hi2 : decide ((i : Int) < (L.length : Int)) = true := decide_eq_true (by omega)
    cases gk with
    | zero => omega
    | succ gi' =>
    obtain ⟨ad, e1, hgx⟩ := Kd.at_int (HCN.out wr HW.out.2) (i : Int) (by omega) (by omega)
    subst e1
    rw [rd_gi, Int.toNat_natCast] at hgx
    have hf := HF.out
    rw [List.drop_eq_getElem_cons hil, List.find?_cons] at hf
    have hum : L[i] ∈ L := List.getElem_mem hil
    have hue : L.getD i 0 = L[i] := by rw [List.getD_eq_getElem?_getD, List.getElem?_eq_getElem hil]; rfl
    rw [hue] at hgx
    generalize L[i] = u at *
    have hub := HLB.out u hum
    have hun : u < G.length := ((lft_bit G gone u).1 hub).1
    obtain ⟨q1, q2, q3, q4, q5, q6⟩ := HLOW.out wr HW.out.1.grown
    have c0d : wr.drew.cell? ⟨w.heap.size, 0, none⟩ = some (.slice Ag G.length cg) := q3
    have c1d : wr.drew.cell? ⟨w1.heap.size, 0, none⟩ = some (.int .i64 (bs : Int)) := q5
    have c2d : wr.drew.cell? ⟨w1.heap.size + 1 + 1 + 1, 0, none⟩ = some (.func (.func 114) #[] #[.pointer (some ⟨w.heap.size, 0, none⟩), .pointer (some ⟨w1.heap.size + 1 + 1, 0, none⟩), .pointer (some ⟨w1.heap.size, 0, none⟩), .pointer (some ⟨w1.heap.size + 1 + 1 + 1, 0, none⟩)]) := q6
    have c3d : Below wr.heap.size wr wr.drew := below_drew (Below.refl _ _)
    have HKR := Aside0.mk HW.out.1
    have HGR2 := Aside0.mk HW.out.2
    obtain ⟨N, ⟨hS1, hS2, hS3⟩, hNv⟩ := shK u (by omega)
    have h2u : 2 ^ u < 2 ^ G.length := Nat.pow_lt_pow_right (by omega) hun
    have hor : Go.bits .or .i64 (gone : Int) N = ((gone ||| 2 ^ u : Nat) : Int) := by
     rw [hNv, b_or _ _ (Nat.lt_of_lt_of_le hg512 (by decide)) (Nat.lt_of_lt_of_le (smallO hn h2u) (by decide))]
    have HDG : Aside0 (∀ W, (W.cell? ⟨w.heap.size, 0, none⟩ = some (.slice Ag G.length cg) ∧ W.cell? ⟨w1.heap.size, 0, none⟩ = some (.int .i64 (bs : Int)) ∧ W.cell? ⟨w1.heap.size + 1 + 1 + 1, 0, none⟩ = some (.func (.func 114) #[] #[.pointer (some ⟨w.heap.size, 0, none⟩), .pointer (some ⟨w1.heap.size + 1 + 1, 0, none⟩), .pointer (some ⟨w1.heap.size, 0, none⟩), .pointer (some ⟨w1.heap.size + 1 + 1 + 1, 0, none⟩)]) ∧ Below wr.heap.size wr W) → Calls Tryd.prog 113 #[.slice Ag G.length cg, .int .i64 (u : Int), .int .i64 (gone : Int)] W fun e w' => e = .returned (.int .i64 ((dg G gone u : Nat) : Int)) ∧ w'.cell? ⟨w.heap.size, 0, none⟩ = some (.slice Ag G.length cg) ∧ w'.cell? ⟨w1.heap.size, 0, none⟩ = some (.int .i64 (bs : Int)) ∧ w'.cell? ⟨w1.heap.size + 1 + 1 + 1, 0, none⟩ = some (.func (.func 114) #[] #[.pointer (some ⟨w.heap.size, 0, none⟩), .pointer (some ⟨w1.heap.size + 1 + 1, 0, none⟩), .pointer (some ⟨w1.heap.size, 0, none⟩), .pointer (some ⟨w1.heap.size + 1 + 1 + 1, 0, none⟩)]) ∧ Below wr.heap.size wr w') := ⟨by
     rintro W ⟨s0, s1, s2, s3⟩
     refine (HDEG.out W gone u HG1.out hun ((HKR.out.low (grown_of_below s3 none)).grown)).mono ?_
     rintro e w' ⟨rfl, hb⟩
     exact ⟨rfl, (hb.cell (World.block_lt_of_cell? W _ s0)).trans s0, (hb.cell (World.block_lt_of_cell? W _ s1)).trans s1, (hb.cell (World.block_lt_of_cell? W _ s2)).trans s2, below_step s3 hb⟩⟩
    have HREC : Aside0 (∀ V, KM W0 V (w1.heap.size + 1) 512 (canB G bs) → Calls Tryd.prog 114 #[.int .i64 ((gone ||| 2 ^ u : Nat) : Int), .pointer (some ⟨w.heap.size, 0, none⟩), .pointer (some ⟨w1.heap.size + 1 + 1, 0, none⟩), .pointer (some ⟨w1.heap.size, 0, none⟩), .pointer (some ⟨w1.heap.size + 1 + 1 + 1, 0, none⟩)] V fun e w' => e = .returned (.bool (canB G bs (gone ||| 2 ^ u))) ∧ KM W0 w' (w1.heap.size + 1) 512 (canB G bs) ∧ V.grownBy w' (some (w1.heap.size + 1))) := ⟨fun V hV => HCAN.out V _ (or_in HG1.out hub) hV⟩
    have HOR : Aside0 (gone ||| 2 ^ u < 2 ^ G.length) := ⟨or_in HG1.out hub⟩
    clear HF HW q1 q2 q3 q4 q5 q6 hNv h2u hum hue hub
    by_cases hp : nextP G bs gone u = true
    ·rw [hp] at hf
     obtain rfl : u = x := Option.some.inj hf
     have hp2 := hp
     unfold nextP at hp2
     rw [Bool.and_eq_true, decide_eq_true_eq] at hp2
     obtain ⟨hle, hcan⟩ := hp2
     rw [hcan] at HREC
     have HCANT := Aside0.mk hcan
     generalize gone ||| 2 ^ u = gone' at *
     generalize dg G gone u = dv at *
     have hdec1 : ((dv : Int) ≤ (bs : Int)) = True := eq_true (by omega)
     have hdec2 : decide ((dv : Int) ≤ (bs : Int)) = true := decide_eq_true (by omega)
     clear hf hp hcan HXP HXB HLB
     go_wp2
     refine start_ (n := 14) (S := fun w' => w'.cell? ⟨w.heap.size, 0, none⟩ = some (.slice Ag G.length cg) ∧ w'.cell? ⟨w1.heap.size, 0, none⟩ = some (.int .i64 (bs : Int)) ∧ w'.cell? ⟨w1.heap.size + 1 + 1 + 1, 0, none⟩ = some (.func (.func 114) #[] #[.pointer (some ⟨w.heap.size, 0, none⟩), .pointer (some ⟨w1.heap.size + 1 + 1, 0, none⟩), .pointer (some ⟨w1.heap.size, 0, none⟩), .pointer (some ⟨w1.heap.size + 1 + 1 + 1, 0, none⟩)]) ∧ Below wr.heap.size wr w') (ds := [12]) (Qbz 14 0) (by kernel_rfl) rfl rfl ⟨c0d, c1d, c2d, c3d⟩ (fun hHeld => ?_)
     refine Qpu 1 29 ?_ ?_ (Qbz 14 2) (by kernel_rfl) ?_
     refine Qpu 2 30 ?_ ?_ (Qbz 14 6) (by kernel_rfl) ?_
     refine take_ (i := 0) (N := some 28) (v := ?_) (a' := ?_) (Qbz 14 7) rfl rfl (by kernel_rfl) (fun _ _ _ h => h) (Or.inl ⟨by rfl, ?_⟩) hHeld ?_ ?_;rotate_left;(·rintro w' ⟨s0, s1, s2, s3⟩;go_simp;with_reducible rfl);rotate_left;(·simp only [Act.put, Qp1, Qp2, Qp3, i64_w, i32_w];rfl)
     refine take_ (i := 4) (N := some 32) (v := ?_) (a' := ?_) (Qbz 14 23) rfl rfl (by kernel_rfl) (fun _ _ _ h => h) (Or.inl ⟨by rfl, ?_⟩) hHeld ?_ ?_;rotate_left;(·rintro w' ⟨s0, s1, s2, s3⟩;go_simp;with_reducible rfl);rotate_left;(·simp only [Act.put, Qp1, Qp2, Qp3, i64_w, i32_w];rfl)
     refine one_ (i := 3) (N := some 31) (Qbz 14 31) rfl rfl (by kernel_rfl) (by decide) (fun K hK => ?_)
     refine goes_ Tryd.func113 (by kernel_rfl) rfl #[.slice Ag G.length cg, .int .i64 (u : Int), .int .i64 (gone : Int)] (by rfl) rfl rfl (by simp only [List.map_toArray, List.map_cons, List.map_nil]; rfl) ?_
     with_reducible refine (HDG.out _ hHeld).mono ?_
     rintro e w9 ⟨rfl, k0, k1, k2, kB9⟩
     refine ⟨_, rfl, ?_⟩
     refine hK.out _ _ ⟨k0, k1, k2, kB9⟩ (fun hHeld => ?_)
     clear hK K
     refine norm_ (a' := ?_) ?_ ?_
     rotate_left
     ·show Act.put _ (some 31) _ = _
      simp only [Act.put, Qp1, Qp2, Qp3, i64_w, i32_w]
      rfl
     refine Qpu 5 33 ?_ ?_ (Qbz 14 63) (by kernel_rfl) ?_
     refine Qpu 6 34 ?_ ?_ (Qbz 14 127) (by kernel_rfl) ?_
     refine Qpu 8 36 ?_ ?_ (Qbz 14 383) (by kernel_rfl) ?_
     refine Qpu 9 37 ?_ ?_ (Qbz 14 895) (by kernel_rfl) ?_
     refine Qpu 10 38 ?_ ?_ (Qbz 14 1919) (by kernel_rfl) ?_
     refine Qpu 11 39 ?_ ?_ (Qbz 14 3967) (by kernel_rfl) ?_
     refine take_ (i := 7) (N := some 35) (v := ?_) (a' := ?_) (Qbz 14 4095) rfl rfl (by kernel_rfl) (fun _ _ _ h => h) (Or.inl ⟨by rfl, ?_⟩) hHeld ?_ ?_;rotate_left;(·rintro w' ⟨s0, s1, s2, s3⟩;go_simp;with_reducible rfl);rotate_left;(·simp only [Act.put, Qp1, Qp2, Qp3, i64_w, i32_w];rfl)
     refine last_ (i := 12) (N := some 40) (Qbz 14 8191) rfl rfl (by kernel_rfl) (by decide) (fun K hK => ?_)
     refine goesK_ Tryd.func114 (by kernel_rfl) rfl #[.int .i64 (gone' : Int)] #[.pointer (some ⟨w.heap.size, 0, none⟩), .pointer (some ⟨w1.heap.size + 1 + 1, 0, none⟩), .pointer (some ⟨w1.heap.size, 0, none⟩), .pointer (some ⟨w1.heap.size + 1 + 1 + 1, 0, none⟩)] #[.int .i64 (gone' : Int), .pointer (some ⟨w.heap.size, 0, none⟩), .pointer (some ⟨w1.heap.size + 1 + 1, 0, none⟩), .pointer (some ⟨w1.heap.size, 0, none⟩), .pointer (some ⟨w1.heap.size + 1 + 1 + 1, 0, none⟩)] (.tmp 35) (by rfl) rfl rfl (by rfl) (by simp only [List.map_toArray, List.map_cons, List.map_nil]; rfl) rfl ?_
     with_reducible refine (HREC.out _ (HKR.out.low (grown_of_below hHeld.2.2.2 none))).mono ?_
     rintro e w10 ⟨rfl, hK10, hG10⟩
     have HK10 := Aside0.mk hK10
     have HG10 := Aside0.mk hG10
     have HB9 := Aside0.mk kB9
     clear hK10 hG10 kB9
     refine ⟨_, rfl, ?_⟩
     refine hK.out _ _ ?_
     clear hK K
     refine norm_ (a' := ?_) ?_ ?_
     rotate_left
     ·show Act.put _ (some 40) _ = _
      simp only [Act.put, Qp1, Qp2, Qp3, i64_w, i32_w]
      rfl
     refine Qpu 13 41 ?_ ?_ (Qbz 14 16383) (by kernel_rfl) ?_
     refine done_ (by kernel_rfl) ?_
     have hK10 := HK10.out
     have hG510 := grown_then HGR2.out (grown_then (grown_of_below HB9.out (some (w1.heap.size + 1))) HG10.out)
     have hO10 := own_kept HX5.out.2 hG510 (fun b hb e => by have := own_base2 HX5.out.2 b hb; have e2 := Option.some.inj e; omega)
     have HO10 := Aside0.mk hO10
     obtain ⟨i3, hi3, hq0, hq1, hq2⟩ := info_parts info3
     clear hO10 hG510 hK10
     go_wp2_with (at_builtin; refine wpList_append_own_at _ rfl _ _ 22 rfl W0.heap.size 3 i3 (.int .i64 0) 1 8 undS hi3 hq0 hq1 hq2 rfl (by decide) (.slice A6 M.length c6) M.length ((gi M).map (Value.int .i64)) rfl (HO10.out.alloc _) ⟨w10.heap.size, 0, none⟩ 1 1 [.int .i64 (u : Int)] rfl rfl (cell_one_new _ _ _) (by simp [Value.oneCell']) (by unfold maxLen; omega) (by omega) (by have := HK10.out.grown.size; simp; omega) ?_; intro v8 w8 hown8 hg8 _ hfb8; have HOWN8 := Aside0.mk hown8; have HG8 := Aside0.mk hg8; clear hown8 hg8 hfb8)
     go_roundg d
     case measure => omega
     case rel =>
      have hbase := fun j (e : (Value.slice A6 M.length c6).ownBlock = some j) => own_base2 HO10.out j e
      have k1 := HK10.out.low (World.grownBy_alloc w10 (.cells #[.int .i64 (u : Int)] 3) none)
      have k2 := k1.lowR hmB HG8.out (fun j e => hbase j e)
      refine ⟨gone', M ++ [u], rfl, HPC.out, by simp; omega, HOR, HCANT, ⟨by have := HM2.out; simpa using this⟩, ⟨k2, ?_⟩⟩
      have ho := HOWN8.out
      rw [show (M ++ [u]).length = M.length + 1 by simp, show (gi (M ++ [u])).map (Value.int .i64) = (gi M).map (Value.int .i64) ++ [.int .i64 (u : Int)] by simp [gi]]
      exact ho
    ·have hpf : nextP G bs gone u = false := by simpa using hp
     rw [hpf] at hf
     have HF2 : Aside0 ((L.drop (i + 1)).find? (nextP G bs gone) = some x) := ⟨hf⟩
     have hp2 := hpf
     unfold nextP at hp2
     clear hf hp hpf
     by_cases hle : dg G gone u ≤ bs
     ·rw [decide_eq_true hle, Bool.true_and] at hp2
      rw [hp2] at HREC
      generalize gone ||| 2 ^ u = gone' at *
      generalize dg G gone u = dv at *
      have hdec1 : ((dv : Int) ≤ (bs : Int)) = True := eq_true (by omega)
      have hdec2 : decide ((dv : Int) ≤ (bs : Int)) = true := decide_eq_true (by omega)
      clear hp2
      go_wp2
      refine start_ (n := 14) (S := fun w' => w'.cell? ⟨w.heap.size, 0, none⟩ = some (.slice Ag G.length cg) ∧ w'.cell? ⟨w1.heap.size, 0, none⟩ = some (.int .i64 (bs : Int)) ∧ w'.cell? ⟨w1.heap.size + 1 + 1 + 1, 0, none⟩ = some (.func (.func 114) #[] #[.pointer (some ⟨w.heap.size, 0, none⟩), .pointer (some ⟨w1.heap.size + 1 + 1, 0, none⟩), .pointer (some ⟨w1.heap.size, 0, none⟩), .pointer (some ⟨w1.heap.size + 1 + 1 + 1, 0, none⟩)]) ∧ Below wr.heap.size wr w') (ds := [12]) (Qbz 14 0) (by kernel_rfl) rfl rfl ⟨c0d, c1d, c2d, c3d⟩ (fun hHeld => ?_)
      refine Qpu 1 29 ?_ ?_ (Qbz 14 2) (by kernel_rfl) ?_
      refine Qpu 2 30 ?_ ?_ (Qbz 14 6) (by kernel_rfl) ?_
      refine take_ (i := 0) (N := some 28) (v := ?_) (a' := ?_) (Qbz 14 7) rfl rfl (by kernel_rfl) (fun _ _ _ h => h) (Or.inl ⟨by rfl, ?_⟩) hHeld ?_ ?_;rotate_left;(·rintro w' ⟨s0, s1, s2, s3⟩;go_simp;with_reducible rfl);rotate_left;(·simp only [Act.put, Qp1, Qp2, Qp3, i64_w, i32_w];rfl)
      refine take_ (i := 4) (N := some 32) (v := ?_) (a' := ?_) (Qbz 14 23) rfl rfl (by kernel_rfl) (fun _ _ _ h => h) (Or.inl ⟨by rfl, ?_⟩) hHeld ?_ ?_;rotate_left;(·rintro w' ⟨s0, s1, s2, s3⟩;go_simp;with_reducible rfl);rotate_left;(·simp only [Act.put, Qp1, Qp2, Qp3, i64_w, i32_w];rfl)
      refine one_ (i := 3) (N := some 31) (Qbz 14 31) rfl rfl (by kernel_rfl) (by decide) (fun K hK => ?_)
      refine goes_ Tryd.func113 (by kernel_rfl) rfl #[.slice Ag G.length cg, .int .i64 (u : Int), .int .i64 (gone : Int)] (by rfl) rfl rfl (by simp only [List.map_toArray, List.map_cons, List.map_nil]; rfl) ?_
      with_reducible refine (HDG.out _ hHeld).mono ?_
      rintro e w9 ⟨rfl, k0, k1, k2, kB9⟩
      refine ⟨_, rfl, ?_⟩
      refine hK.out _ _ ⟨k0, k1, k2, kB9⟩ (fun hHeld => ?_)
      clear hK K
      refine norm_ (a' := ?_) ?_ ?_
      rotate_left
      ·show Act.put _ (some 31) _ = _
       simp only [Act.put, Qp1, Qp2, Qp3, i64_w, i32_w]
       rfl
      refine Qpu 5 33 ?_ ?_ (Qbz 14 63) (by kernel_rfl) ?_
      refine Qpu 6 34 ?_ ?_ (Qbz 14 127) (by kernel_rfl) ?_
      refine Qpu 8 36 ?_ ?_ (Qbz 14 383) (by kernel_rfl) ?_
      refine Qpu 9 37 ?_ ?_ (Qbz 14 895) (by kernel_rfl) ?_
      refine Qpu 10 38 ?_ ?_ (Qbz 14 1919) (by kernel_rfl) ?_
      refine Qpu 11 39 ?_ ?_ (Qbz 14 3967) (by kernel_rfl) ?_
      refine take_ (i := 7) (N := some 35) (v := ?_) (a' := ?_) (Qbz 14 4095) rfl rfl (by kernel_rfl) (fun _ _ _ h => h) (Or.inl ⟨by rfl, ?_⟩) hHeld ?_ ?_;rotate_left;(·rintro w' ⟨s0, s1, s2, s3⟩;go_simp;with_reducible rfl);rotate_left;(·simp only [Act.put, Qp1, Qp2, Qp3, i64_w, i32_w];rfl)
      refine last_ (i := 12) (N := some 40) (Qbz 14 8191) rfl rfl (by kernel_rfl) (by decide) (fun K hK => ?_)
      refine goesK_ Tryd.func114 (by kernel_rfl) rfl #[.int .i64 (gone' : Int)] #[.pointer (some ⟨w.heap.size, 0, none⟩), .pointer (some ⟨w1.heap.size + 1 + 1, 0, none⟩), .pointer (some ⟨w1.heap.size, 0, none⟩), .pointer (some ⟨w1.heap.size + 1 + 1 + 1, 0, none⟩)] #[.int .i64 (gone' : Int), .pointer (some ⟨w.heap.size, 0, none⟩), .pointer (some ⟨w1.heap.size + 1 + 1, 0, none⟩), .pointer (some ⟨w1.heap.size, 0, none⟩), .pointer (some ⟨w1.heap.size + 1 + 1 + 1, 0, none⟩)] (.tmp 35) (by rfl) rfl rfl (by rfl) (by simp only [List.map_toArray, List.map_cons, List.map_nil]; rfl) rfl ?_
      with_reducible refine (HREC.out _ (HKR.out.low (grown_of_below hHeld.2.2.2 none))).mono ?_
      rintro e w10 ⟨rfl, hK10, hG10⟩
      have HK10 := Aside0.mk hK10
      have HG10 := Aside0.mk hG10
      have HB9 := Aside0.mk kB9
      clear hK10 hG10 kB9
      refine ⟨_, rfl, ?_⟩
      refine hK.out _ _ ?_
      clear hK K
      refine norm_ (a' := ?_) ?_ ?_
      rotate_left
      ·show Act.put _ (some 40) _ = _
       simp only [Act.put, Qp1, Qp2, Qp3, i64_w, i32_w]
       rfl
      refine Qpu 13 41 ?_ ?_ (Qbz 14 16383) (by kernel_rfl) ?_
      refine done_ (by kernel_rfl) ?_
      go_wp2
      go_roundg gi'
      case measure => omega
      case rel => exact ⟨i + 1, by go_num, rfl, rfl, by omega, HF2, ⟨HK10.out, grown_then HGR2.out (grown_then (grown_of_below HB9.out (some (w1.heap.size + 1))) HG10.out)⟩⟩
     ·generalize gone ||| 2 ^ u = gone' at *
      generalize dg G gone u = dv at *
      have hdec1 : ((dv : Int) ≤ (bs : Int)) = False := eq_false (by omega)
      have hdec2 : decide ((dv : Int) ≤ (bs : Int)) = false := decide_eq_false (by omega)
      clear hp2 HREC
      go_wp2
      refine start_ (n := 14) (S := fun w' => w'.cell? ⟨w.heap.size, 0, none⟩ = some (.slice Ag G.length cg) ∧ w'.cell? ⟨w1.heap.size, 0, none⟩ = some (.int .i64 (bs : Int)) ∧ w'.cell? ⟨w1.heap.size + 1 + 1 + 1, 0, none⟩ = some (.func (.func 114) #[] #[.pointer (some ⟨w.heap.size, 0, none⟩), .pointer (some ⟨w1.heap.size + 1 + 1, 0, none⟩), .pointer (some ⟨w1.heap.size, 0, none⟩), .pointer (some ⟨w1.heap.size + 1 + 1 + 1, 0, none⟩)]) ∧ Below wr.heap.size wr w') (ds := []) (Qbz 14 0) (by kernel_rfl) rfl rfl ⟨c0d, c1d, c2d, c3d⟩ (fun hHeld => ?_)
      refine Qpu 1 29 ?_ ?_ (Qbz 14 2) (by kernel_rfl) ?_
      refine Qpu 2 30 ?_ ?_ (Qbz 14 6) (by kernel_rfl) ?_
      refine take_ (i := 0) (N := some 28) (v := ?_) (a' := ?_) (Qbz 14 7) rfl rfl (by kernel_rfl) (fun _ _ _ h => h) (Or.inl ⟨by rfl, ?_⟩) hHeld ?_ ?_;rotate_left;(·rintro w' ⟨s0, s1, s2, s3⟩;go_simp;with_reducible rfl);rotate_left;(·simp only [Act.put, Qp1, Qp2, Qp3, i64_w, i32_w];rfl)
      refine take_ (i := 4) (N := some 32) (v := ?_) (a' := ?_) (Qbz 14 23) rfl rfl (by kernel_rfl) (fun _ _ _ h => h) (Or.inl ⟨by rfl, ?_⟩) hHeld ?_ ?_;rotate_left;(·rintro w' ⟨s0, s1, s2, s3⟩;go_simp;with_reducible rfl);rotate_left;(·simp only [Act.put, Qp1, Qp2, Qp3, i64_w, i32_w];rfl)
      refine one_ (i := 3) (N := some 31) (Qbz 14 31) rfl rfl (by kernel_rfl) (by decide) (fun K hK => ?_)
      refine goes_ Tryd.func113 (by kernel_rfl) rfl #[.slice Ag G.length cg, .int .i64 (u : Int), .int .i64 (gone : Int)] (by rfl) rfl rfl (by simp only [List.map_toArray, List.map_cons, List.map_nil]; rfl) ?_
      with_reducible refine (HDG.out _ hHeld).mono ?_
      rintro e w9 ⟨rfl, k0, k1, k2, kB9⟩
      refine ⟨_, rfl, ?_⟩
      refine hK.out _ _ ⟨k0, k1, k2, kB9⟩ (fun hHeld => ?_)
      clear hK K
      refine norm_ (a' := ?_) ?_ ?_
      rotate_left
      ·show Act.put _ (some 31) _ = _
       simp only [Act.put, Qp1, Qp2, Qp3, i64_w, i32_w]
       rfl
      refine Qpu 5 33 ?_ ?_ (Qbz 14 63) (by kernel_rfl) ?_
      refine Qpu 6 34 ?_ ?_ (Qbz 14 127) (by kernel_rfl) ?_
      refine Qpn 7 35 ?_ (Qbz 14 255) (by kernel_rfl) ?_
      refine Qpn 8 36 ?_ (Qbz 14 511) (by kernel_rfl) ?_
      refine Qpn 9 37 ?_ (Qbz 14 1023) (by kernel_rfl) ?_
      refine Qpn 10 38 ?_ (Qbz 14 2047) (by kernel_rfl) ?_
      refine Qpn 11 39 ?_ (Qbz 14 4095) (by kernel_rfl) ?_
      refine Qpn 12 40 ?_ (Qbz 14 8191) (by kernel_rfl) ?_
      refine Qpu 13 41 ?_ ?_ (Qbz 14 16383) (by kernel_rfl) ?_
      refine done_ (by kernel_rfl) ?_
      go_wp2
      go_roundg gi'
      case measure => omega
      case rel => exact ⟨i + 1, by go_num, rfl, rfl, by omega, HF2, ⟨HKR.out.low (grown_of_below hHeld.2.2.2 none), grown_then HGR2.out (grown_of_below hHeld.2.2.2 (some (w1.heap.size + 1)))⟩⟩
theorem gi_toNatO (G : List Nat) : (gi G).map Int.toNat = G := by
 unfold gi
 rw [List.map_map]
 conv => rhs; rw [← List.map_id G]
 exact List.map_congr_left fun x _ => by simp
open Classical in
noncomputable def widthN (G : List Nat) : Nat := if h : ∃ W, IsWidth G W then Classical.choose h else 0
theorem widthN_is {m : Nat} {G : List Nat} (hG : Gr m G) : IsWidth G (widthN G) := by
 obtain ⟨W, hW, _⟩ := width_exists hG
 have h : ∃ W, IsWidth G W := ⟨W, hW⟩
 unfold widthN
 rw [dif_pos h]
 exact Classical.choose_spec h
noncomputable def width_town_order.f (g : List Int) : Option (List Int) :=
 if chk 9 g = true then some (gi (ordL (g.map Int.toNat) (widthN (g.map Int.toNat)))) else none
theorem width_town_order.calls (A0 : Option Addr) (c0 : Nat) (l0 : List Int) (r1 : List Int) (w : World) (hGL : GL w) (hr0 : Kd.C (Kd.int .i64) w A0 l0.length l0) (hc0 : l0.length ≤ c0) (h : width_town_order.f l0 = some r1) :
  Calls Tryd.prog 99 #[.slice A0 l0.length c0] w fun e w' => ∃ v, e = .returned v ∧ Kd.R (Kd.int .i64) 3 w' w.heap.size (fun _ => True) v r1 ∧ Below w.heap.size w w' := by
 unfold width_town_order.f at h
 by_cases hc : chk 9 l0 = true
 ·rw [if_pos hc] at h
  obtain ⟨G, rfl, hG⟩ := (chk_iff 9 (by omega) _).1 hc
  rw [gi_toNatO] at h
  have h := Option.some.inj h
  subst h
  have := order_calls A0 c0 G hG (by rw [gi_length] at hc0; exact hc0) (widthN G) (widthN_is hG) w hGL hr0
  rw [gi_length]
  exact this
 ·rw [if_neg hc] at h; cases h
noncomputable abbrev pI : Value → Option (DataW Unit × List MemPlace) := plainElem Tryd.prog 3
theorem wf3 (z : Nat) (h : z < 2 ^ 62) : (Lit.int .i64 (z : Int)).wf = true := by
 have h1 : (IntKind.i64.min : Int) = -9223372036854775808 := by decide
 have h2 : (IntKind.i64.max : Int) = 9223372036854775807 := by decide
 simp only [Lit.wf, decide_eq_true_eq, Bool.and_eq_true, h1, h2]
 omega
theorem pI_mk (z : Nat) (h : z < 2 ^ 62) : pI (.int .i64 (z : Int)) = some (.lit (.int .i64 (z : Int)), []) := plainElem_int und3 (wf3 z h)
theorem Tab.step {p : Nat → Prop} {f : Nat → Nat} {D : DataW Unit} (h : Tab p f D) {x c : Int} (hat : ∀ zd, D.atKey (.int .i64 x) zd = .lit (.int .i64 c)) : ∃ g, p g ∧ x = (g : Int) ∧ c = (f g : Int) := by
 obtain ⟨g, hg, e⟩ := (h.keys _).1 (Maps.has_true_of_atKey hat)
 injection e with _ e
 subst e
 have := h.vals g hg
 rw [hat] at this
 injection this with this
 injection this with _ this
 exact ⟨g, hg, rfl, this⟩
def outP (G : List Nat) (K S v : Nat) (cs : List Nat) (left : Lit → Bool) (y : Nat) : Prop := ∃ c, c ∈ cs ∧ left (kI c) = false ∧ ∃ k, k < K ∧ okC G S c v k = true ∧ y = putc c v k
def outQ (G : List Nat) (K S v : Nat) (cs : List Nat) (left : Lit → Bool) (c0 kk : Nat) (y : Nat) : Prop := outP G K S v cs left y ∨ ∃ k, k < kk ∧ okC G S c0 v k = true ∧ y = putc c0 v k
theorem put_inj {c d v k l : Nat} (hk : k < 16) (hl : l < 16) (hc : col c v = 0) (hd : col d v = 0) (h : putc c v k = putc d v l) : c = d ∧ k = l := by
 refine ⟨eq_col fun u => ?_, ?_⟩
 ·by_cases e : u = v
  ·rw [e, hc, hd]
  ·rw [← col_put_other hk e, h, col_put_other hl e]
 ·rw [← col_put hk hc, h, col_put hl hd]
theorem outQ_start {G : List Nat} {K S v : Nat} {cs : List Nat} {left : Lit → Bool} {c0 : Nat} (y : Nat) : outP G K S v cs left y ↔ outQ G K S v cs left c0 0 y := ⟨.inl, fun h => h.elim id fun ⟨k, hk, _⟩ => absurd hk (by omega)⟩
theorem outQ_end {G : List Nat} {K S v : Nat} {cs : List Nat} {left : Lit → Bool} {c0 : Nat} (hm : c0 ∈ cs) (y : Nat) : outQ G K S v cs left c0 K y ↔ outP G K S v cs (fun z => left z && !z.sameKey (kI c0)) y := by
 constructor
 ·rintro (⟨c, h1, h2, h3⟩ | h)
  ·exact ⟨c, h1, show (left (kI c) && !(kI c).sameKey (kI c0)) = false by rw [h2]; rfl, h3⟩
  ·exact ⟨c0, hm, by simp [Lit.sameKey], h⟩
 ·rintro ⟨c, h1, h2, h3⟩
  by_cases e : c = c0
  ·exact .inr (e ▸ h3)
  ·have : (kI c).sameKey (kI c0) = false := Maps.sameKey_ne fun h => e (kI_inj h)
   have h2 : (left (kI c) && !(kI c).sameKey (kI c0)) = false := h2
   rw [this] at h2
   exact .inl ⟨c, h1, by simpa using h2, h3⟩
structure GrS (w0 W : World) (mX mB r N : Nat) (D : DataW Unit) (left : Lit → Bool) (cnt : Nat) (p : Nat → Prop) : Prop where
 rng : W.ranges Tryd.prog 3 pI mX r N D left cnt
 out : ∃ E, W.ownsMap Tryd.prog 3 pI mB N E ∧ Tab p (fun _ => 1) E
 below : Below w0.heap.size w0 W
section
variable {w0 W V : World} {mX mB r N : Nat} {D : DataW Unit} {left : Lit → Bool} {cnt : Nat} {p q : Nat → Prop}
theorem GrS.kept (h : GrS w0 W mX mB r N D left cnt p) (hb : Below W.heap.size W V) : GrS w0 V mX mB r N D left cnt p := by
 obtain ⟨h1, ⟨E, h2, h3⟩, h4⟩ := h
 exact ⟨h1.kept (grown_of_below hb none) (by simp) (by simp), ⟨E, h2.kept (grown_of_below hb none) (by simp), h3⟩, below_step h4 hb⟩
theorem GrS.ext (h : GrS w0 W mX mB r N D left cnt p) (hp : ∀ x, p x ↔ q x) : GrS w0 W mX mB r N D left cnt q := by
 obtain ⟨h1, ⟨E, h2, h3⟩, h4⟩ := h
 exact ⟨h1, ⟨E, h2, h3.ext hp fun _ _ => rfl⟩, h4⟩
end
theorem nodes_callsC {x : Nat} (hx : x < 512) (w : World) (hGL : GL w) :
  Calls Tryd.prog 104 #[.int .i64 (x : Int)] w fun e w' => ∃ A c, e = .returned (.slice A (els x 9).length c) ∧ (els x 9).length ≤ c ∧ Kd.C (Kd.int .i64) w' A (els x 9).length (gi (els x 9)) ∧ Below w.heap.size w w' := by
 obtain ⟨K, hK⟩ := nodes_evV x hx
 refine (width_nodes.calls K (x : Int) _ w hGL (hK K (Nat.le_refl _))).mono ?_
 rintro e w' ⟨u, rfl, hu, hb⟩
 obtain ⟨A, c, eu, hc, hC⟩ := Kd.R_reads hu
 subst eu
 rw [gi_length] at *
 exact ⟨A, c, rfl, hc, hC, hb⟩
theorem outQ_no {G : List Nat} {K S v : Nat} {cs : List Nat} {left : Lit → Bool} {c0 kk : Nat} (h : okC G S c0 v kk = false) (y : Nat) : outQ G K S v cs left c0 kk y ↔ outQ G K S v cs left c0 (kk + 1) y := by
 constructor
 ·rintro (h1 | ⟨k, h1, h2⟩)
  ·exact .inl h1
  ·exact .inr ⟨k, by omega, h2⟩
 ·rintro (h1 | ⟨k, h1, h2, h3⟩)
  ·exact .inl h1
  ·by_cases e : k = kk
   ·rw [e, h] at h2; cases h2
   ·exact .inr ⟨k, by omega, h2, h3⟩
theorem outQ_yes {G : List Nat} {K S v : Nat} {cs : List Nat} {left : Lit → Bool} {c0 kk : Nat} (h : okC G S c0 v kk = true) (y : Nat) : (outQ G K S v cs left c0 kk y ∨ y = putc c0 v kk) ↔ outQ G K S v cs left c0 (kk + 1) y := by
 constructor
 ·rintro ((h1 | ⟨k, h1, h2⟩) | h1)
  ·exact .inl h1
  ·exact .inr ⟨k, by omega, h2⟩
  ·exact .inr ⟨kk, by omega, h, h1⟩
 ·rintro (h1 | ⟨k, h1, h2, h3⟩)
  ·exact .inl (.inl h1)
  ·by_cases e : k = kk
   ·rw [e] at h3; exact .inr h3
   ·exact .inl (.inr ⟨k, by omega, h2, h3⟩)
theorem outQ_new {G : List Nat} {K S v : Nat} {cs : List Nat} {left : Lit → Bool} {c0 kk : Nat} (hK : K ≤ 16) (hcs : ∀ c ∈ cs, c < 2 ^ 36 ∧ col c v = 0) (hc0 : c0 ∈ cs) (hl : left (kI c0) = true) (hkk : kk < K) : ¬ outQ G K S v cs left c0 kk (putc c0 v kk) := by
 rintro (⟨c, h1, h2, k, h3, _, h4⟩ | ⟨k, h1, _, h2⟩)
 ·have := (put_inj (by omega) (by omega) (hcs c0 hc0).2 (hcs c h1).2 h4).1
  rw [this, h2] at hl; cases hl
 ·have := (put_inj (by omega) (by omega) (hcs c0 hc0).2 (hcs c0 hc0).2 h2).2
  omega
theorem any_ok {G : List Nat} {S c v k : Nat} : (gi (els (G.getD v 0 &&& S) 9)).any (fun x => ((col c x.toNat : Nat) : Int) == (k : Int)) = !okC G S c v k := by
 unfold okC gi
 rw [List.any_map]
 generalize els (G.getD v 0 &&& S) 9 = L
 induction L with
 | nil => rfl
 | cons a L ih =>
  rw [List.any_cons, List.all_cons, ih]
  simp only [Function.comp, Int.toNat_natCast]
  by_cases e : col c a = k
  ·simp [e]
  ·have h1 : (((col c a : Nat) : Int) == (k : Int)) = false := by simp; omega
   rw [h1]
   simp [e]
theorem grow_below {w w1 : World} (h : w.grownBy w1 none) : Below w.heap.size w w1 := ⟨h.os, h.tape, h.output, h.size, fun k hk => h.block k hk (by simp)⟩
theorem below_grow {w0 w w1 : World} {b : Nat} (hb : Below w0.heap.size w0 w) (h : w.grownBy w1 (some b)) (hle : w0.heap.size ≤ b) : Below w0.heap.size w0 w1 := ⟨h.os.trans hb.os, h.tape.trans hb.tape, h.output.trans hb.output, Nat.le_trans hb.size h.size, fun k hk => (h.block k (Nat.lt_of_lt_of_le hk hb.size) (fun e => by have := Option.some.inj e; omega)).trans (hb.block k hk)⟩
theorem w1C : wrap64 1 = ((1 : Nat) : Int) := (w64_small 1 (by omega) (by omega)).trans rfl
theorem outP_lt {G : List Nat} {K S v : Nat} {cs : List Nat} {left : Lit → Bool} (hK : K ≤ 16) (hv : v < 9) (hcs : ∀ c ∈ cs, c < 2 ^ 36 ∧ col c v = 0) {y : Nat} (h : outP G K S v cs left y) : y < 2 ^ 36 := by
 obtain ⟨c, h1, _, k, h3, _, rfl⟩ := h
 exact putc36 (hcs c h1).1 hv (by omega)
theorem outQ_lt {G : List Nat} {K S v : Nat} {cs : List Nat} {left : Lit → Bool} {c0 kk : Nat} (hK : K ≤ 16) (hv : v < 9) (hcs : ∀ c ∈ cs, c < 2 ^ 36 ∧ col c v = 0) (hc0 : c0 ∈ cs) (hk : kk ≤ K) {y : Nat} (h : outQ G K S v cs left c0 kk y) : y < 2 ^ 36 := by
 rcases h with h | ⟨k, h3, _, rfl⟩
 ·exact outP_lt hK hv hcs h
 ·exact putc36 (hcs c0 hc0).1 hv (by omega)
theorem cells_ne_map {W : World} {a b n : Nat} {cs : Array Value} {t : TypeId} {D : DataW Unit} (h : W.heap[a]? = some (.cells cs t (0, 0))) (hm : W.ownsMap Tryd.prog 3 pI b n D) : a ≠ b := by
 obtain ⟨es, clock, hb, _⟩ := hm
 intro e
 rw [e, hb] at h
 cases h
theorem shlC {k v : Nat} (hk : k < 16) (hv : v < 9) : ∃ J4 J : Int, (wrap64 (4 * (v : Int)) = J4 ∧ IntKind.i64.wrap (4 * (v : Int)) = J4) ∧ 0 ≤ J4 ∧ shl .i64 (k : Int) J4 = J ∧ (wrap64 ((k : Int) * 2 ^ min J4.toNat 64) = J ∧ IntKind.i64.wrap ((k : Int) * 2 ^ min J4.toNat 64) = J) ∧ (wrap64 ((k : Int) * 2 ^ J4.toNat) = J ∧ IntKind.i64.wrap ((k : Int) * 2 ^ J4.toNat) = J) ∧ J = ((k <<< (4 * v) : Nat) : Int) := by
 have h1 : wrap64 (4 * (v : Int)) = ((4 * v : Nat) : Int) := by rw [w64_small _ (by omega) (by omega)]; omega
 have h2 := shl4 hk hv
 have h3 := h2
 unfold shl at h3
 have h4 := h3
 rw [Nat.min_eq_left (by rw [Int.toNat_natCast]; show 4 * v ≤ 64; omega)] at h4
 exact ⟨_, _, ⟨h1, (i64_w _).trans h1⟩, by omega, h2, ⟨(i64_w _).symm.trans h3, h3⟩, ⟨(i64_w _).symm.trans h4, h4⟩, rfl⟩
set_option maxHeartbeats 8000000 in
set_option maxRecDepth 100000 in
theorem grown_calls {G : List Nat} (hG : Gr 9 G) {K S v : Nat} (hK : K ≤ 6) (hS : S < 512) (hv : v < G.length) (Ag : Option Addr) (cg : Nat) (hcg : G.length ≤ cg) (mX N : Nat) (hN : N < maxLen) (h36 : 2 ^ 36 ≤ N) (cs : List Nat) (hcs : ∀ c ∈ cs, c < 2 ^ 36 ∧ col c v = 0)
  (D : DataW Unit) (w : World) (hGL : GL w) (hrg : Kd.C (Kd.int .i64) w Ag (gi G).length (gi G)) (hown : w.ownsMap Tryd.prog 3 pI mX N D) (hT : Tab (fun g => g ∈ cs) (fun _ => 1) D) :
  Calls Tryd.prog 106 #[.slice Ag G.length cg, .map (some mX), .int .i64 (v : Int), .int .i64 (S : Int), .int .i64 (K : Int)] w fun e w' => ∃ mB E, e = .returned (.map (some mB)) ∧ w.heap.size ≤ mB ∧ w'.ownsMap Tryd.prog 3 pI mB N E ∧ Tab (outP G K S v cs (fun _ => false)) (fun _ => 1) E ∧ Below w.heap.size w w' := by
 have hn := hG.most
 obtain ⟨x, hx⟩ : ∃ x, x = G.getD v 0 &&& S := ⟨_, rfl⟩
 have hx5 : x < 512 := by rw [hx]; exact Nat.lt_of_le_of_lt Nat.and_le_right hS
 have hrow : G.getD v 0 < 512 := smallO hn (hG.row v)
 have hand : Go.bits .and .i64 ((G.getD v 0 : Nat) : Int) (S : Int) = (x : Int) := by rw [hx]; exact b_and _ _ (by omega) (by omega)
 have HND : Aside0 (∀ W, Below w.heap.size w W → Calls Tryd.prog 104 #[.int .i64 (x : Int)] W fun e w' => ∃ A c, e = .returned (.slice A (els x 9).length c) ∧ Kd.C (Kd.int .i64) w' A (els x 9).length (gi (els x 9)) ∧ Below W.heap.size W w') := ⟨fun W hW => (nodes_callsC hx5 W (GL_below hGL hW)).mono fun e w' ⟨A, c, h1, _, h3, h4⟩ => ⟨A, c, h1, h3, h4⟩⟩
 have HCT : Aside0 (∀ (W : World) A c cB kB g k, g < 2 ^ 36 → Kd.C (Kd.int .i64) W A (els x 9).length (gi (els x 9)) → W.cell? ⟨cB, 0, none⟩ = some (.int .i64 ((g : Nat) : Int)) → W.cell? ⟨kB, 0, none⟩ = some (.int .i64 ((k : Nat) : Int)) → Calls Tryd.prog 68 #[.slice A (els x 9).length c, .func (.func 116) #[] #[.pointer (some ⟨cB, 0, none⟩), .pointer (some ⟨kB, 0, none⟩)]] W fun e w' => e = .returned (.bool (!okC G S g v k)) ∧ Below W.heap.size W w') := ⟨by
  intro W A c cB kB g k hg hC h0 h1
  have := contains_grown A c (gi (els x 9)) (fun y => ((col g y.toNat : Nat) : Int) == (k : Int)) cB kB W (by rw [gi_length]; exact hC) (by rw [gi_length, els_length]; have := pc_le x 9; omega) (fun V hV y hy => by
   obtain ⟨u, hu, rfl⟩ := List.mem_map.1 hy
   have := grown1 cB kB g k u hg (mem_els.1 hu).1 V ((hV.cell (World.block_lt_of_cell? W _ h0)).trans h0) ((hV.cell (World.block_lt_of_cell? W _ h1)).trans h1)
   rw [Int.toNat_natCast]
   exact this)
  rw [gi_length, hx, any_ok, ← hx] at this
  exact this⟩
 have HROW : Aside0 (∀ W, Below w.heap.size w W → ∃ ad, Ag = some ad ∧ W.cell? (ad.add v) = some (.int .i64 ((G.getD v 0 : Nat) : Int))) := ⟨fun W hW => by
  obtain ⟨ad, e1, hgx⟩ := Kd.at_int (Kd.C_below hrg hW) (v : Int) (by omega) (by rw [gi_length]; omega)
  rw [rd_gi, Int.toNat_natCast] at hgx
  exact ⟨ad, e1, hgx⟩⟩
 have HNX : Aside0 (mX < w.heap.size) := ⟨hown.lt⟩
 have hst : ∀ y, False ↔ outP G K S v cs (Maps.has D) y := fun y => ⟨fun h => h.elim, fun ⟨c, h1, h2, _⟩ => by
  have := (hT.has c).2 h1
  rw [h2] at this
  cases this⟩
 obtain ⟨ad, e1, _⟩ := HROW.out w (Below.refl _ _)
 subst e1
 obtain ⟨rv, hrv⟩ : ∃ rv : Nat, rv = G.getD v 0 := ⟨_, rfl⟩
 rw [← hrv] at HROW hand hrow
 have hvl : ((v : Int) < (G.length : Int)) = True := eq_true (by omega)
 have hv0 : (0 : Int) ≤ (v : Int) := by omega
 obtain ⟨ln, hln⟩ : ∃ ln : Nat, ln = (els x 9).length := ⟨_, rfl⟩
 rw [← hln] at HND HCT
 have HT := Aside0.mk hT
 have HCS := Aside0.mk hcs
 have HOWN := Aside0.mk hown
 have HGL := Aside0.mk hGL
 have HST := Aside0.mk hst
 have H36 := Aside0.mk h36
 have hlen : G.length = (G.length : Nat) := rfl
 generalize hGl : G.length = n at *
 have HGl := Aside0.mk hGl
 clear hT hcs hown hGL hst hrg hG hx hx5 hS hGl hlen hrv hln h36
 go_enter Tryd.func106, Tryd.ntmps106
 go_wp2_with (at_range; refine wpList_range_own _ rfl _ _ rfl 3 3 law3 undT pI mX N D rfl (HOWN.out.alloc _) ?_; intro w1 hrg1 hg1 hs1)
 go_frame
 have hA1 : (w.alloc (Obj.map #[] 0)).heap.size = w.heap.size + 1 := by simp
 rw [hA1] at hrg1 hs1 ⊢
 have HS0 : Aside0 (GrS w w1 mX w.heap.size (w.heap.size + 1) N D (Maps.has D) (Maps.size D) (outP G K S v cs (Maps.has D))) := ⟨⟨hrg1, ⟨_, ((World.ownsMap_made w Tryd.prog 3 pI).kept hg1 (by simp)).mono (Nat.zero_le _), (Tab.nil (fun _ => 1)).ext HST.out (fun _ h => h.elim)⟩, below_step (below_alloc (Below.refl _ _) _) (grow_below hg1)⟩⟩
 clear hrg1 hg1 hs1 hA1 HST HOWN
 go_loopg [13] (Maps.size D) (fun kq v13 w' => ∃ left, Aside0 (GrS w w' mX w.heap.size (w.heap.size + 1) N D left kq (outP G K S v cs left)))
 case atStart => exact ⟨_, HS0⟩
 case round =>
  clear HS0
  obtain ⟨left, HR⟩ := hrel
  have hrg := HR.out.rng
  go_wp2_with (at_next; refine wpList_next_ranges_ii _ rfl _ rfl 3 3 .i64 .i64 law3 und3 und3 mX (w.heap.size + 1) N D left gk rfl hrg ?_ ?_)
  ·intro hc0 hl0
   clear hrg
   have HR2 := Aside0.mk (HR.out.ext (q := outP G K S v cs (fun _ => false)) fun y => by
    have e : left = fun _ => false := funext hl0
    rw [e])
   clear hl0 HR
   go_wp2
   go_ret
   obtain ⟨E, h1, h2⟩ := HR2.out.out
   exact ⟨_, E, rfl, Nat.le_refl _, h1, h2, HR2.out.below⟩
  ·intro x0 c0 w2 cnt2 hwx hwc hlx hat hrg2 hlt hg2 hs2 hen
   obtain ⟨g, hgc, rfl, rfl⟩ := HT.out.step hat
   have HR2 : Aside0 (GrS w w2 mX w.heap.size (w.heap.size + 1) N D (fun z => left z && !z.sameKey (kI g)) cnt2 (outP G K S v cs left)) := ⟨⟨hrg2, by
    obtain ⟨E, h1, h2⟩ := HR.out.out
    exact ⟨E, h1.kept hg2 (by simp), h2⟩, below_grow HR.out.below hg2 (by omega)⟩⟩
   have HGC := Aside0.mk hgc
   have HLX := Aside0.mk hlx
   clear hrg hrg2 hat hwx hwc hg2 HR hgc hlx
   go_wp2
   obtain ⟨w3, hw3⟩ : ∃ W : World, W = w2.alloc (Obj.cells #[Value.int IntKind.i64 (g : Int)] 3) := ⟨_, rfl⟩
   rw [← hw3]
   have hb3 : Below w2.heap.size w2 w3 := by rw [hw3]; exact below_alloc (Below.refl _ _) _
   have HBLK : Aside0 (w3.heap[wr.heap.size]? = some (.cells #[.int .i64 (g : Int)] 3 (0, 0))) := ⟨by rw [hw3, ← hs2]; exact Array.getElem?_push_size⟩
   have HR3 := Aside0.mk ((HR2.out.kept hb3).ext (outQ_start (c0 := g)))
   have HLE : Aside0 (w.heap.size ≤ wr.heap.size) := ⟨by rw [← hs2]; exact HR2.out.below.size⟩
   clear hb3 hw3 HR2 hs2 hen
   generalize wr.heap.size = cB at *
   obtain ⟨gk0, rfl⟩ : ∃ gk0, gk0 = gk := ⟨_, rfl⟩
   obtain ⟨wo, rfl⟩ : ∃ wo : World, wo = wr := ⟨_, rfl⟩
   go_loopg [24] K (fun kq v24 w' => ∃ kk : Nat, v24 = .int .i64 (kk : Int) ∧ kk + kq = K ∧ Aside0 (GrS w w' mX w.heap.size (w.heap.size + 1) N D (fun z => left z && !z.sameKey (kI g)) cnt2 (outQ G K S v cs left g kk)) ∧ Aside0 (w'.heap[cB]? = some (.cells #[.int .i64 (g : Int)] 3 (0, 0))))
   case atStart => exact ⟨0, rfl, by omega, HR3, HBLK⟩
   case round =>
    clear HR3 HBLK
    obtain ⟨kk, rfl, hkq, HQ, HB4⟩ := hrel
    by_cases hkk : kk < K
    ·have hi1 : ((kk : Int) < (K : Int)) = True := eq_true (by omega)
     have hi2 : decide ((kk : Int) < (K : Int)) = true := decide_eq_true (by omega)
     cases gk with
     | zero => omega
     | succ gi' =>
     have hb5 : Below w.heap.size w (wr.alloc (Obj.cells #[Value.int IntKind.i64 (kk : Int)] 3)) := below_alloc HQ.out.below _
     have hcB : cB < wr.heap.size := (Array.getElem?_eq_some_iff.1 HB4.out).1
     obtain ⟨_, hea, hcell⟩ := HROW.out _ hb5
     obtain rfl := Option.some.inj hea
     have HB5 := Aside0.mk hb5
     have HQ5 := Aside0.mk (HQ.out.kept (below_alloc (Below.refl wr.heap.size wr) (Obj.cells #[Value.int IntKind.i64 (kk : Int)] 3)))
     have HC5 : Aside0 ((wr.alloc (Obj.cells #[Value.int IntKind.i64 (kk : Int)] 3)).heap[cB]? = some (.cells #[.int .i64 (g : Int)] 3 (0, 0))) := ⟨blk_alloc HB4.out _⟩
     have HK5 : Aside0 ((wr.alloc (Obj.cells #[Value.int IntKind.i64 (kk : Int)] 3)).heap[wr.heap.size]? = some (.cells #[.int .i64 (kk : Int)] 3 (0, 0))) := ⟨Array.getElem?_push_size⟩
     clear hb5 hea HQ HB4
     have HND5 : Aside0 (Calls Tryd.prog 104 #[.int .i64 (x : Int)] (wr.alloc (Obj.cells #[Value.int IntKind.i64 (kk : Int)] 3)) fun e w' => ∃ A c, e = .returned (.slice A ln c) ∧ Kd.C (Kd.int .i64) w' A ln (gi (els x 9)) ∧ Below (wr.alloc (Obj.cells #[Value.int IntKind.i64 (kk : Int)] 3)).heap.size (wr.alloc (Obj.cells #[Value.int IntKind.i64 (kk : Int)] 3)) w') := ⟨HND.out _ HB5.out⟩
     by_cases ho : okC G S g v kk = true
     ·have hg36 := (HCS.out g HGC.out).1
      have HCT6 : Aside0 (∀ (W : World) A c, Kd.C (Kd.int .i64) W A ln (gi (els x 9)) → W.heap[cB]? = some (.cells #[.int .i64 (g : Int)] 3 (0, 0)) → W.heap[wr.heap.size]? = some (.cells #[.int .i64 (kk : Int)] 3 (0, 0)) → Calls Tryd.prog 68 #[.slice A ln c, .func (.func 116) #[] #[.pointer (some ⟨cB, 0, none⟩), .pointer (some ⟨wr.heap.size, 0, none⟩)]] W fun e w' => e = .returned (.bool false) ∧ Below W.heap.size W w') := ⟨fun W A c hC h0 h1 => by
       have := HCT.out W A c cB wr.heap.size g kk hg36 hC ((blk_cell h0 0).trans rfl) ((blk_cell h1 0).trans rfl)
       rw [ho] at this
       exact this⟩
      have HO := Aside0.mk ho
      clear ho hg36
      go_wp2_with (first | (go_at_call 104; refine HND5.out.mono ?_; rintro e w6 ⟨A6, c6, rfl, hC6, hb6⟩; have HC6 := Aside0.mk hC6; have HB6 := Aside0.mk hb6; clear hC6 hb6) | (go_at_call 68; refine (HCT6.out _ _ _ HC6.out (blk_below HC5.out HB6.out) (blk_below HK5.out HB6.out)).mono ?_; rintro e w7 ⟨rfl, hb7⟩; have HB7 := Aside0.mk (below_step HB6.out hb7); clear hb7))
      obtain ⟨E, hE1, hE2⟩ := (HQ5.out.kept HB7.out).out
      obtain ⟨J4, J, ⟨hJ1, hJ1'⟩, hJ2, hJ3, ⟨hJ4, hJ4'⟩, ⟨hJ5, hJ5'⟩, hJ6⟩ := shlC (k := kk) (v := v) (by omega) (by omega)
      have hg36 := (HCS.out g HGC.out).1
      have hor : Go.bits .or .i64 (g : Int) J = ((putc g v kk : Nat) : Int) := by rw [hJ6]; exact or_put hg36 (by omega) (by omega)
      have HY36 : Aside0 (putc g v kk < 2 ^ 36) := ⟨putc36 hg36 (by omega) (by omega)⟩
      have HNEW : Aside0 (¬ outQ G K S v cs left g kk (putc g v kk)) := ⟨outQ_new (by omega) HCS.out HGC.out HLX.out hkk⟩
      obtain ⟨y, hy⟩ : ∃ y, y = putc g v kk := ⟨_, rfl⟩
      have HYE := Aside0.mk hy
      rw [← hy] at hor HY36 HNEW
      have hky : keyOf Tryd.prog 3 (.int .i64 (y : Int)) = some (kI y) := key3 y (p36 HY36.out)
      obtain ⟨z, hz1, hz2, _⟩ := hE1.lookup_int law3 undT und3 (zero3 w7) hky
      have hz0 : z = 0 := by
       rcases hE2.look y hz2 with ⟨h, _⟩ | ⟨_, h⟩
       ·exact absurd h HNEW.out
       ·exact h
      subst hz0
      have f0d : w7.drew.cell? ⟨cB, 0, none⟩ = some (.int .i64 (g : Int)) := (blk_cell (blk_below HC5.out HB7.out) 0).trans rfl
      have f1d : w7.drew.cell? ⟨wr.heap.size, 0, none⟩ = some (.int .i64 (kk : Int)) := (blk_cell (blk_below HK5.out HB7.out) 0).trans rfl
      have fEd : w7.drew.ownsMap Tryd.prog 3 pI w.heap.size N E := hE1.drew
      obtain ⟨z, hz1', hz2', _⟩ := fEd.lookup_int law3 undT und3 (zero3 w7.drew) hky
      have hz0 : z = 0 := by
       rcases hE2.look y hz2' with ⟨h, _⟩ | ⟨_, h⟩
       ·exact absurd h HNEW.out
       ·exact h
      subst hz0
      have fbd : Below w7.heap.size w7 w7.drew := below_drew (Below.refl _ _)
      have HE2 := Aside0.mk hE2
      clear hE1 hE2 hz1 hz2 hz2' hJ6 hy hg36
      refine start_ (n := 11) (S := fun w' => w'.cell? ⟨cB, 0, none⟩ = some (.int .i64 (g : Int)) ∧ w'.cell? ⟨wr.heap.size, 0, none⟩ = some (.int .i64 (kk : Int)) ∧ (Instr.lookup 110 (.map (some w.heap.size)) (.int .i64 (y : Int)) false).run Tryd.prog w' = .ok (.int .i64 0) w' ∧ w'.ownsMap Tryd.prog 3 pI w.heap.size N E ∧ Below w7.heap.size w7 w') (ds := [10]) (Qbz 11 0) (by kernel_rfl) rfl rfl ⟨f0d, f1d, hz1', fEd, fbd⟩ (fun hHeld => ?_)
      refine Qpu 0 37 ?_ ?_ (Qbz 11 1) (by kernel_rfl) ?_
      refine Qpu 3 40 ?_ ?_ (Qbz 11 9) (by kernel_rfl) ?_
      refine Qpu 4 41 ?_ ?_ (Qbz 11 25) (by kernel_rfl) ?_
      refine Qpu 8 45 ?_ ?_ (Qbz 11 281) (by kernel_rfl) ?_
      refine take_ (i := 1) (N := some 38) (v := ?_) (a' := ?_) (Qbz 11 283) rfl rfl (by kernel_rfl) (fun _ _ _ h => h) (Or.inl ⟨by rfl, ?_⟩) hHeld ?_ ?_;rotate_left;(·rintro w' ⟨s0, s1, s2, s3, s4⟩;go_simp;with_reducible rfl);rotate_left;(·simp only [Act.put, Qp1, Qp2, Qp3, i64_w, i32_w];rfl)
      refine take_ (i := 2) (N := some 39) (v := ?_) (a' := ?_) (Qbz 11 287) rfl rfl (by kernel_rfl) (fun _ _ _ h => h) (Or.inl ⟨by rfl, ?_⟩) hHeld ?_ ?_;rotate_left;(·rintro w' ⟨s0, s1, s2, s3, s4⟩;go_simp;with_reducible rfl);rotate_left;(·simp only [Act.put, Qp1, Qp2, Qp3, i64_w, i32_w];rfl)
      refine Qpu 5 42 ?_ ?_ (Qbz 11 319) (by kernel_rfl) ?_
      refine Qpu 6 43 ?_ ?_ (Qbz 11 383) (by kernel_rfl) ?_
      refine take_ (i := 7) (N := some 44) (v := ?_) (a' := ?_) (Qbz 11 511) rfl rfl (by kernel_rfl) (fun _ _ _ h => h) (Or.inl ⟨by rfl, ?_⟩) hHeld ?_ ?_;rotate_left;(·rintro w' ⟨s0, s1, s2, s3, s4⟩;go_simp;with_reducible rfl);rotate_left;(·simp only [Act.put, Qp1, Qp2, Qp3, i64_w, i32_w];rfl)
      refine Qpu 9 46 ?_ ?_ (Qbz 11 1023) (by kernel_rfl) ?_
      refine last_ (i := 10) (N := none) (Qbz 11 2047) rfl rfl (by kernel_rfl) (by decide) (fun K hK => ?_)
      obtain ⟨w8, hrun8, hown8, hgrow8⟩ := World.ownsMap.update hHeld.2.2.2.1 law3 undT hN hky (pI_mk 1 (by omega))
      have HW8 := Aside0.mk hown8
      have HG8 := Aside0.mk hgrow8
      clear hown8 hgrow8
      refine skip_ (w1 := w8) (by rfl) rfl ?_ ?_
      ·go_simp
       rw [w1C, hrun8]
       rfl
      refine hK.out _ _ ?_
      clear hK K
      refine done_ (by kernel_rfl) ?_
      go_wp2
      go_roundg gi'
      case measure => omega
      case rel =>
       refine ⟨kk + 1, by go_num, by omega, ?_, ?_⟩
       ·constructor
        have hk7 := (HQ5.out.kept HB7.out).kept hHeld.2.2.2.2
        have hp := HE2.out.put y 1 (p36 HY36.out)
        refine ⟨hk7.rng.kept HG8.out (by intro e; have := Option.some.inj e; have := HNX.out; omega) (by intro e; have := Option.some.inj e; omega), ⟨_, tab_bound HW8.out hp (fun g' hg' => ?_), hp.ext (fun z => ?_) (fun z _ => ?_)⟩, below_grow hk7.below HG8.out (Nat.le_refl _)⟩
        ·rcases hg' with hg' | rfl
         ·have := outQ_lt (by omega) (by omega) HCS.out HGC.out (by omega) hg'; have := H36.out; omega
         ·have := HY36.out; have := H36.out; omega
        ·rw [HYE.out]; exact outQ_yes HO.out z
        ·by_cases e : z = y
         ·rw [if_pos e]
         ·rw [if_neg e]
       ·have hc8 := blk_below (blk_below HC5.out HB7.out) hHeld.2.2.2.2
        have hne := cells_ne_map hc8 hHeld.2.2.2.1
        exact ⟨blk_grown hc8 HG8.out (by intro e; have := Option.some.inj e; omega)⟩
     ·have ho : okC G S g v kk = false := by simpa using ho
      have hg36 := (HCS.out g HGC.out).1
      have HCT6 : Aside0 (∀ (W : World) A c, Kd.C (Kd.int .i64) W A ln (gi (els x 9)) → W.heap[cB]? = some (.cells #[.int .i64 (g : Int)] 3 (0, 0)) → W.heap[wr.heap.size]? = some (.cells #[.int .i64 (kk : Int)] 3 (0, 0)) → Calls Tryd.prog 68 #[.slice A ln c, .func (.func 116) #[] #[.pointer (some ⟨cB, 0, none⟩), .pointer (some ⟨wr.heap.size, 0, none⟩)]] W fun e w' => e = .returned (.bool true) ∧ Below W.heap.size W w') := ⟨fun W A c hC h0 h1 => by
       have := HCT.out W A c cB wr.heap.size g kk hg36 hC ((blk_cell h0 0).trans rfl) ((blk_cell h1 0).trans rfl)
       rw [ho] at this
       exact this⟩
      have HO := Aside0.mk ho
      clear ho hg36
      go_wp2_with (first | (go_at_call 104; refine HND5.out.mono ?_; rintro e w6 ⟨A6, c6, rfl, hC6, hb6⟩; have HC6 := Aside0.mk hC6; have HB6 := Aside0.mk hb6; clear hC6 hb6) | (go_at_call 68; refine (HCT6.out _ _ _ HC6.out (blk_below HC5.out HB6.out) (blk_below HK5.out HB6.out)).mono ?_; rintro e w7 ⟨rfl, hb7⟩; have HB7 := Aside0.mk (below_step HB6.out hb7); clear hb7))
      go_roundg gi'
      case measure => omega
      case rel => exact ⟨kk + 1, by go_num, by omega, ⟨(HQ5.out.kept HB7.out).ext (outQ_no HO.out)⟩, ⟨blk_below HC5.out HB7.out⟩⟩
    ·have hk1 : kk = K := by omega
     subst hk1
     have hi1 : ((kk : Int) < (kk : Int)) = False := eq_false (by omega)
     have hi2 : decide ((kk : Int) < (kk : Int)) = false := decide_eq_false (by omega)
     clear hkk
     go_wp2
     go_roundg cnt2
     case measure => exact hlt
     case rel => exact ⟨_, ⟨HQ.out.ext (outQ_end HGC.out)⟩⟩
def kepP (s : Nat) (cs : List Nat) (left : Lit → Bool) (y : Nat) : Prop := ∃ c, c ∈ cs ∧ left (kI c) = false ∧ res c s = y
def kepF (s : Nat) (cs : List Nat) (f : Nat → Nat) (left : Lit → Bool) (y : Nat) : Nat := sm (cs.filter fun c => !left (kI c)) fun c => if res c s = y then f c else 0
theorem kep_step {s : Nat} {cs : List Nat} {f : Nat → Nat} {left : Lit → Bool} {g : Nat} (hnd : cs.Nodup) (hg : g ∈ cs) (hl : left (kI g) = true) (y : Nat) :
  ((kepP s cs left y ∨ y = res g s) ↔ kepP s cs (fun z => left z && !z.sameKey (kI g)) y) ∧
  (if y = res g s then kepF s cs f left y + f g else kepF s cs f left y) = kepF s cs f (fun z => left z && !z.sameKey (kI g)) y := by
 constructor
 ·constructor
  ·rintro (⟨c, h1, h2, h3⟩ | h)
   ·exact ⟨c, h1, show (left (kI c) && !(kI c).sameKey (kI g)) = false by rw [h2]; rfl, h3⟩
   ·exact ⟨g, hg, by simp [Lit.sameKey], h.symm⟩
  ·rintro ⟨c, h1, h2, h3⟩
   by_cases e : c = g
   ·exact .inr (by rw [← h3, e])
   ·have : (kI c).sameKey (kI g) = false := Maps.sameKey_ne fun h => e (kI_inj h)
    have h2 : (left (kI c) && !(kI c).sameKey (kI g)) = false := h2
    rw [this] at h2
    exact .inl ⟨c, h1, by simpa using h2, h3⟩
 ·have := sm_strike hnd hg hl fun c => if res c s = y then f c else 0
  unfold kepF
  rw [this]
  by_cases e : y = res g s
  ·rw [if_pos e, if_pos e.symm]
  ·rw [if_neg e, if_neg fun h => e h.symm, Nat.add_zero]
theorem kepF_none {s : Nat} {cs : List Nat} {f : Nat → Nat} {left : Lit → Bool} {y : Nat} (h : ¬ kepP s cs left y) : kepF s cs f left y = 0 := sm_zero fun c hc => by
 have h1 := List.mem_filter.1 hc
 rw [if_neg fun e => h ⟨c, h1.1, by simpa using h1.2, e⟩]
theorem kepF_le (s : Nat) (cs : List Nat) (f : Nat → Nat) (left : Lit → Bool) (y : Nat) : kepF s cs f left y ≤ sm cs f := by
 refine Nat.le_trans (sm_filter_le _ _ _) ?_
 unfold sm
 induction cs with
 | nil => exact Nat.le_refl _
 | cons a l ih =>
  simp only [List.map_cons, List.sum_cons]
  have : (if res a s = y then f a else 0) ≤ f a := by by_cases e : res a s = y <;> simp [e]
  omega
theorem kepF_step_le {s : Nat} {cs : List Nat} {f : Nat → Nat} {left : Lit → Bool} {g : Nat} (hnd : cs.Nodup) (hg : g ∈ cs) (hl : left (kI g) = true) : kepF s cs f left (res g s) + f g ≤ sm cs f := by
 have h1 := (kep_step (s := s) (f := f) hnd hg hl (res g s)).2
 rw [if_pos rfl] at h1
 rw [h1]
 exact kepF_le _ _ _ _ _
structure KeS (w0 W : World) (mX mB r N : Nat) (D : DataW Unit) (left : Lit → Bool) (cnt : Nat) (p : Nat → Prop) (F : Nat → Nat) : Prop where
 rng : W.ranges Tryd.prog 3 pI mX r N D left cnt
 out : ∃ E, W.ownsMap Tryd.prog 3 pI mB N E ∧ Tab p F E
 below : Below w0.heap.size w0 W
theorem mask_bits {L : List Nat} (hL : ∀ v ∈ L, v < 9) : ∀ (d i m : Nat), i + d = L.length → m < 2 ^ 36 → ((L.drop i).foldl (fun m v => m ||| (15 <<< (4 * v))) m) < 2 ^ 36 := by
 intro d
 induction d with
 | zero => intro i m hi hm; rw [List.drop_of_length_le (by omega)]; exact hm
 | succ d ih =>
  intro i m hi hm
  have hil : i < L.length := by omega
  rw [List.drop_eq_getElem_cons hil, List.foldl_cons]
  refine ih (i + 1) _ (by omega) ?_
  have := putc36 (c := m) (v := L[i]) (k := 15) hm (hL _ (List.getElem_mem hil)) (by omega)
  exact this
theorem shl15 {v : Nat} (hv : v < 9) : ∃ J4 J : Int, (wrap64 (4 * (v : Int)) = J4 ∧ IntKind.i64.wrap (4 * (v : Int)) = J4) ∧ 0 ≤ J4 ∧ shl .i64 15 J4 = J ∧ (wrap64 (15 * 2 ^ min J4.toNat 64) = J ∧ IntKind.i64.wrap (15 * 2 ^ min J4.toNat 64) = J) ∧ (wrap64 (15 * 2 ^ J4.toNat) = J ∧ IntKind.i64.wrap (15 * 2 ^ J4.toNat) = J) ∧ J = ((15 <<< (4 * v) : Nat) : Int) := shlC (k := 15) (by omega) hv
theorem addC {a b M : Nat} (h : a + b ≤ M) (hM : M < 2 ^ 60) : wrap64 ((a : Int) + (b : Int)) = ((a + b : Nat) : Int) := by rw [w64_small _ (by omega) (by omega)]; omega
theorem ltC {a M : Nat} (h : a ≤ M) (hM : M < 2 ^ 60) : a < 2 ^ 62 := by omega
set_option maxHeartbeats 8000000 in
set_option maxRecDepth 100000 in
theorem kept_calls {s : Nat} (hs : s < 512) (mX N M : Nat) (hN : N < maxLen) (h36 : 2 ^ 36 ≤ N) (cs : List Nat) (hcs : ∀ c ∈ cs, c < 2 ^ 36) (hnd : cs.Nodup) (f : Nat → Nat) (hf : sm cs f ≤ M) (hM : M < 2 ^ 60)
  (D : DataW Unit) (w : World) (hGL : GL w) (hown : w.ownsMap Tryd.prog 3 pI mX N D) (hT : Tab (fun g => g ∈ cs) f D) :
  Calls Tryd.prog 107 #[.map (some mX), .int .i64 (s : Int)] w fun e w' => ∃ mB E, e = .returned (.map (some mB)) ∧ w.heap.size ≤ mB ∧ w'.ownsMap Tryd.prog 3 pI mB N E ∧ Tab (kepP s cs (fun _ => false)) (kepF s cs f (fun _ => false)) E ∧ Below w.heap.size w w' := by
 have HND := Aside0.mk (nodes_callsC hs w hGL)
 have hL9 : ∀ v ∈ els s 9, v < 9 := fun v hv => (mem_els.1 hv).1
 have hll : (els s 9).length ≤ 9 := by rw [els_length]; exact pc_le s 9
 have hmk : (els s 9).foldl (fun m v => m ||| (15 <<< (4 * v))) 0 = mskL (els s 9) := rfl
 have HRES : Aside0 (∀ c, c &&& mskL (els s 9) = res c s) := ⟨fun c => rfl⟩
 have hm36 : mskL (els s 9) < 2 ^ 36 := by have := mask_bits hL9 (els s 9).length 0 0 (by omega) (by omega); exact this
 have hst : ∀ y, False ↔ kepP s cs (Maps.has D) y := fun y => ⟨fun h => h.elim, fun ⟨c, h1, h2, _⟩ => by
  have := (hT.has c).2 h1
  rw [h2] at this
  cases this⟩
 have HNX : Aside0 (mX < w.heap.size) := ⟨hown.lt⟩
 have HL9 := Aside0.mk hL9
 have HMK := Aside0.mk hmk
 have HM36 := Aside0.mk hm36
 have HT := Aside0.mk hT
 have HCS := Aside0.mk hcs
 have HF := Aside0.mk hf
 have HND1 := Aside0.mk hnd
 have HOWN := Aside0.mk hown
 have HST := Aside0.mk hst
 have H36 := Aside0.mk h36
 have HM := Aside0.mk hM
 clear hT hcs hown hGL hst hs h36 hm36 hmk hL9 hf hM hnd
 generalize els s 9 = L at *
 go_enter Tryd.func107, Tryd.ntmps107
 go_wp2_with (go_at_call 104; refine HND.out.mono ?_; rintro e w1 ⟨A1, c1, rfl, hc1, hC1, hb1⟩; have HC1 := Aside0.mk hC1; have HB1 := Aside0.mk hb1; clear hC1 hb1 hc1)
 clear HND
 go_loopg [5, 14] L.length (fun kq v5 v14 w' => ∃ i m : Nat, v14 = .int .i64 (i : Int) ∧ v5 = .int .i64 (m : Int) ∧ i + kq = L.length ∧ Aside0 (m < 2 ^ 36) ∧ Aside0 ((L.drop i).foldl (fun m v => m ||| (15 <<< (4 * v))) m = mskL L) ∧ w' = w1)
 case atStart => exact ⟨0, 0, rfl, rfl, by omega, ⟨by omega⟩, ⟨HMK.out⟩, rfl⟩
 case round =>
  obtain ⟨i, m, rfl, rfl, hi, HM1, HM2, rfl⟩ := hrel
  by_cases hil : i < L.length
  ·have hi1 : ((i : Int) < (L.length : Int)) = True := eq_true (by omega)
   have hi2 : decide ((i : Int) < (L.length : Int)) = true := decide_eq_true (by omega)
   cases gk with
   | zero => omega
   | succ gi' =>
   obtain ⟨ad, e1, hgx⟩ := Kd.at_int HC1.out (i : Int) (by omega) (by omega)
   obtain rfl := e1
   rw [rd_gi, List.getD_eq_getElem?_getD, List.getElem?_eq_getElem hil, Int.toNat_natCast] at hgx
   have hv9 := HL9.out L[i] (List.getElem_mem hil)
   have HM3 := HM2.out
   rw [List.drop_eq_getElem_cons hil, List.foldl_cons] at HM3
   have HM3 := Aside0.mk HM3
   simp only [Option.getD_some] at hgx
   generalize L[i] = v at *
   obtain ⟨J4, J, ⟨hJ1, hJ1'⟩, hJ2, hJ3, ⟨hJ4, hJ4'⟩, ⟨hJ5, hJ5'⟩, hJ6⟩ := shl15 hv9
   have hor : Go.bits .or .i64 (m : Int) J = ((m ||| 15 <<< (4 * v) : Nat) : Int) := by rw [hJ6]; exact or_put (k := 15) HM1.out hv9 (by omega)
   have HM4 : Aside0 (m ||| 15 <<< (4 * v) < 2 ^ 36) := ⟨putc36 (k := 15) HM1.out hv9 (by omega)⟩
   clear hJ6 HM2 HM1
   generalize m ||| 15 <<< (4 * v) = m2 at *
   go_wp2
   go_roundg gi'
   case measure => omega
   case rel => exact ⟨i + 1, m2, by go_num, rfl, by omega, HM4, HM3, rfl⟩
  ·have hi1 : ((i : Int) < (L.length : Int)) = False := eq_false (by omega)
   have hi2 : decide ((i : Int) < (L.length : Int)) = false := decide_eq_false (by omega)
   have hm := HM2.out
   rw [List.drop_of_length_le (by omega), List.foldl_nil] at hm
   subst hm
   have HOW1 := Aside0.mk (HOWN.out.kept (grown_of_below HB1.out none) (by simp))
   clear HM2 HM1 hil
   generalize mskL L = m at *
   go_wp2_with (at_range; refine wpList_range_own _ rfl _ _ rfl 3 3 law3 undT pI mX N D rfl (HOW1.out.alloc _) ?_; intro w2 hrg2 hg2 hs2)
   have hA1 : (wr.alloc (Obj.map #[] 0)).heap.size = wr.heap.size + 1 := by simp
   rw [hA1] at hrg2 hs2
   try go_frame
   try rw [hA1]
   have HS0 : Aside0 (KeS w w2 mX wr.heap.size (wr.heap.size + 1) N D (Maps.has D) (Maps.size D) (kepP s cs (Maps.has D)) (kepF s cs f (Maps.has D))) := ⟨⟨hrg2, ⟨_, ((World.ownsMap_made wr Tryd.prog 3 pI).kept hg2 (by simp)).mono (Nat.zero_le _), (Tab.nil (kepF s cs f (Maps.has D))).ext HST.out (fun _ h => h.elim)⟩, below_step (below_alloc HB1.out _) (grow_below hg2)⟩⟩
   have HLE : Aside0 (w.heap.size ≤ wr.heap.size) := ⟨HB1.out.size⟩
   clear hrg2 hg2 hs2 hA1 HST HOWN HOW1 HC1 HB1 HMK
   generalize wr.heap.size = mB at *
   go_loopg [9] (Maps.size D) (fun kq v9 w' => ∃ left, Aside0 (KeS w w' mX mB (mB + 1) N D left kq (kepP s cs left) (kepF s cs f left)))
   case atStart => exact ⟨_, HS0⟩
   case round =>
    clear HS0
    obtain ⟨left, HR⟩ := hrel
    have hrg := HR.out.rng
    go_wp2_with (at_next; refine wpList_next_ranges_ii _ rfl _ rfl 3 3 .i64 .i64 law3 und3 und3 mX (mB + 1) N D left gk rfl hrg ?_ ?_)
    ·intro hc0 hl0
     clear hrg
     have e : left = fun _ => false := funext hl0
     subst e
     clear hl0
     go_wp2
     go_ret
     obtain ⟨E, h1, h2⟩ := HR.out.out
     exact ⟨_, E, rfl, HLE.out, h1, h2, HR.out.below⟩
    ·intro x0 c0 w3 cnt2 hwx hwc hlx hat hrg3 hlt hg3 hs3 hen
     obtain ⟨g, hgc, rfl, rfl⟩ := HT.out.step hat
     obtain ⟨E, hE1, hE2⟩ := HR.out.out
     have hEw := hE1.kept hg3 (by simp)
     have hb3 := below_grow HR.out.below hg3 (by have := HLE.out; omega)
     have hand : Go.bits .and .i64 (g : Int) (m : Int) = ((res g s : Nat) : Int) := by
      rw [b_and _ _ (p36 (HCS.out g hgc)) (p36 HM36.out), HRES.out]
     have HYL : Aside0 (res g s < 2 ^ 36) := ⟨by rw [← HRES.out]; exact Nat.lt_of_le_of_lt Nat.and_le_left (HCS.out g hgc)⟩
     have HST2 := Aside0.mk (fun y => kep_step (s := s) (f := f) HND1.out hgc hlx y)
     have HLE2 := Aside0.mk (kepF_step_le (s := s) (f := f) HND1.out hgc hlx)
     obtain ⟨y, hy⟩ : ∃ y, y = res g s := ⟨_, rfl⟩
     rw [← hy] at hand HYL HST2 HLE2
     have hky : keyOf Tryd.prog 3 (.int .i64 (y : Int)) = some (kI y) := key3 y (p36 HYL.out)
     obtain ⟨z, hz1, hz2, _⟩ := hEw.lookup_int law3 undT und3 (zero3 w3) hky
     have hz0 : z = (kepF s cs f left y : Int) := by
      rcases hE2.look y hz2 with ⟨_, h⟩ | ⟨h1, h⟩
      ·exact h
      ·rw [h, kepF_none h1]; rfl
     subst hz0
     have HLK : Aside0 (∀ c9, E.atKey (kI y) (.lit (.int .i64 0)) = .lit (.int .i64 c9) → c9 = (kepF s cs f left y : Int)) := ⟨fun c9 h9 => by
      rw [hz2] at h9
      injection h9 with h9
      injection h9 with _ h9
      exact h9.symm⟩
     have hfl := HLE2.out
     have hFM := HF.out
     have hMM := HM.out
     have HRS := Aside0.mk hrg3
     have HEW := Aside0.mk hEw
     have HE2 := Aside0.mk hE2
     have HB3 := Aside0.mk hb3
     obtain ⟨fy, hfy⟩ : ∃ fy, fy = kepF s cs f left y := ⟨_, rfl⟩
     obtain ⟨fg, hfg⟩ : ∃ fg, fg = f g := ⟨_, rfl⟩
     rw [← hfy, ← hfg] at hfl
     rw [← hfy] at HLK
     have hadd := addC (Nat.le_trans hfl hFM) hMM
     have HFY := Aside0.mk hfy
     have HFG := Aside0.mk hfg
     have hval : pI (.int .i64 (wrap64 ((fy : Int) + (fg : Int)))) = some (.lit (.int .i64 ((fy + fg : Nat) : Int)), []) := by rw [hadd]; exact pI_mk (fy + fg) (ltC (Nat.le_trans hfl hFM) hMM)
     rw [← hfg] at hen ⊢
     have HFZ : Aside0 ((fun u => if u = y then fy + fg else kepF s cs f left u) = kepF s cs f (fun z => left z && !z.sameKey (kI g))) := ⟨funext fun u => by
      have h1 := (HST2.out u).2
      rw [← h1]
      by_cases e : u = y
      ·rw [if_pos e, if_pos e, e, hfy, hfg]
      ·rw [if_neg e, if_neg e]⟩
     clear hrg hrg3 hat hwx hwc hE1 hE2 hEw hb3 hz2 hfl hFM hMM hg3 hy hgc hlx HLE2 hfy hfg
     generalize fy + fg = fz at *
     go_wp2_with (first | (at_lookup; refine wpList_lookup_own_int _ rfl _ _ _ rfl 3 3 .i64 law3 undT und3 (zero3 _) mB N E rfl HEW.out _ _ rfl hky ?_; intro c9 hat9 hwc9; have e9 : c9 = (fy : Int) := HLK.out c9 hat9; clear hat9 hwc9; subst e9) | (at_mapUpdate; refine wpList_mapUpdate_own _ rfl _ _ _ _ rfl 3 3 law3 undT pI mB N E rfl HEW.out hN _ _ _ rfl rfl hky _ [] hval ?_; intro w8 hown8 hgrow8; have HW8 := Aside0.mk hown8; have HG8 := Aside0.mk hgrow8; clear hown8 hgrow8))
     go_roundg cnt2
     case measure => exact hlt
     case rel =>
      have hp := HE2.out.put y fz (p36 HYL.out)
      refine ⟨_, ⟨⟨HRS.out.kept HG8.out (by intro e; have := Option.some.inj e; have := HNX.out; have := HLE.out; omega) (by intro e; have := Option.some.inj e; omega), ⟨_, tab_bound HW8.out hp (fun g' hg' => ?_), hp.ext (fun z => (HST2.out z).1) (fun z _ => congrFun HFZ.out z)⟩, below_grow HB3.out HG8.out HLE.out⟩⟩⟩
      rcases hg' with ⟨c, h1, _, rfl⟩ | rfl
      ·have h2 := HCS.out c h1
       have h3 : res c s < 2 ^ 36 := by rw [← HRES.out]; exact Nat.lt_of_le_of_lt Nat.and_le_left h2
       exact Nat.lt_of_lt_of_le h3 H36.out
      ·exact Nat.lt_of_lt_of_le HYL.out H36.out
end Go.Proofs.YtjloppfdagfpmaaDoor.X
end
section
namespace Go.Proofs.YtjloppfdagfpmaaDoor.T
open Go.RowKit YtjloppfdagfpmaaDoorW.PrintWords YtjloppfdagfpmaaDoorW.PrintLast YtjloppfdagfpmaaDoorW.PrintMore
theorem con_trans {adj : Nat → Nat → Prop} {w : Nat → Prop} {c d e : Nat} (hcd : Con adj w (fun x => x = c) d) (hde : Con adj w (fun x => x = d) e) : Con adj w (fun x => x = c) e := by
 induction hde with
 | base h => rw [h]; exact hcd
 | step _ a h ih => exact .step ih a h
theorem con_symm {m : Nat} {G : List Nat} (hG : Gr m G) {w : Nat → Prop} {a b : Nat} (ha : w a) (h : Con (Adj G) w (fun x => x = a) b) : Con (Adj G) w (fun x => x = b) a := by
 induction h with
 | base h => exact .base h.symm
 | @step y z hy adj hz ih =>
  have hwy : w y := by
   rcases hy.inside with h | h
   ·rw [h]; exact ha
   ·exact h
  exact con_trans (.step (.base rfl) (hG.adj_symm adj) hwy) ih
def Conn (adj : Nat → Nat → Prop) (S : Nat → Prop) : Prop := (∃ s, S s) ∧ ∀ a b, S a → S b → Con adj S (fun x => x = a) b
def Mnr (V : Nat → Prop) (adj : Nat → Nat → Prop) (k : Nat) (pe : Nat → Nat → Prop) : Prop :=
 ∃ M : Nat → Nat → Prop, (∀ i, i < k → Conn adj (M i) ∧ ∀ x, M i x → V x) ∧ (∀ i j x, i < k → j < k → M i x → M j x → i = j) ∧ ∀ i j, i < k → j < k → pe i j → ∃ x y, M i x ∧ M j y ∧ adj x y
theorem conn_one (adj : Nat → Nat → Prop) (v : Nat) : Conn adj (fun x => x = v) := ⟨⟨v, rfl⟩, fun a b ha hb => .base (by rw [ha, hb])⟩
theorem mnr_map {V V' : Nat → Prop} {adj adj' : Nat → Nat → Prop} {k : Nat} {pe : Nat → Nat → Prop} (D : Nat → Nat → Prop) (hD : ∀ x, V' x → Conn adj (D x) ∧ ∀ u, D x u → V u)
  (hd : ∀ x y u, V' x → V' y → D x u → D y u → x = y) (he : ∀ x y, V' x → V' y → adj' x y → ∃ u w, D x u ∧ D y w ∧ adj u w) (h : Mnr V' adj' k pe) : Mnr V adj k pe := by
 obtain ⟨M, h1, h2, h3⟩ := h
 refine ⟨fun i u => ∃ x, M i x ∧ D x u, fun i hi => ⟨⟨?_, ?_⟩, ?_⟩, ?_, ?_⟩
 ·obtain ⟨s, hs⟩ := (h1 i hi).1.1
  obtain ⟨u, hu⟩ := (hD s ((h1 i hi).2 s hs)).1.1
  exact ⟨u, s, hs, hu⟩
 ·rintro a b ⟨x, hx, hxa⟩ ⟨y, hy, hyb⟩
  have hc := (h1 i hi).1.2 x y hx hy
  have key : ∀ y, Con adj' (M i) (fun z => z = x) y → ∀ b, D y b → Con adj (fun u => ∃ x, M i x ∧ D x u) (fun z => z = a) b := by
   intro y hc
   induction hc with
   | base h =>
    intro b hb
    subst h
    exact ((hD _ ((h1 i hi).2 _ hx)).1.2 a b hxa hb).mono (fun u hu => ⟨_, hx, hu⟩) fun u hu => hu
   | @step y z hy0 hadj hz ih =>
    intro b hb
    have hyM : M i y := by
     rcases hy0.inside with h | h
     ·rw [h]; exact hx
     ·exact h
    obtain ⟨u, w, hu, hw, huw⟩ := he y z ((h1 i hi).2 _ hyM) ((h1 i hi).2 _ hz) hadj
    have hw1 : Con adj (fun u => ∃ x, M i x ∧ D x u) (fun z => z = a) w := .step (ih u hu) huw ⟨z, hz, hw⟩
    exact con_trans hw1 (((hD _ ((h1 i hi).2 _ hz)).1.2 w b hw hb).mono (fun u hu => ⟨_, hz, hu⟩) fun u hu => hu)
  exact key y hc b hyb
 ·rintro u ⟨x, hx, hu⟩
  exact (hD x ((h1 i hi).2 x hx)).2 u hu
 ·rintro i j u hi hj ⟨x, hx, hxu⟩ ⟨y, hy, hyu⟩
  have := hd x y u ((h1 i hi).2 x hx) ((h1 j hj).2 y hy) hxu hyu
  subst this
  exact h2 i j x hi hj hx hy
 ·intro i j hi hj hp
  obtain ⟨x, y, hx, hy, hxy⟩ := h3 i j hi hj hp
  obtain ⟨u, w, hu, hw, huw⟩ := he x y ((h1 i hi).2 x hx) ((h1 j hj).2 y hy) hxy
  exact ⟨u, w, ⟨x, hx, hu⟩, ⟨y, hy, hw⟩, huw⟩
def Ctr (adj : Nat → Nat → Prop) (u v x y : Nat) : Prop := x ≠ y ∧ x ≠ v ∧ y ≠ v ∧ (adj x y ∨ (x = u ∧ adj v y) ∨ (y = u ∧ adj v x))
theorem ctr_mnr {V : Nat → Prop} {adj : Nat → Nat → Prop} {k : Nat} {pe : Nat → Nat → Prop} {u v : Nat} (hs : ∀ x y, adj x y → adj y x) (huv : adj u v) (hv : V v) (hne : u ≠ v)
  (h : Mnr (fun x => V x ∧ x ≠ v) (Ctr adj u v) k pe) : Mnr V adj k pe := by
 refine mnr_map (fun x w => w = x ∨ (x = u ∧ w = v)) (fun x hx => ⟨⟨⟨x, .inl rfl⟩, ?_⟩, ?_⟩) ?_ ?_ h
 ·rintro a b (rfl | ⟨rfl, rfl⟩) (hb | ⟨hb, hb'⟩)
  ·exact .base hb
  ·subst hb; subst hb'
   exact .step (.base rfl) huv (.inr ⟨rfl, rfl⟩)
  ·subst hb
   exact .step (.base rfl) (hs _ _ huv) (.inl rfl)
  ·exact .base hb'
 ·rintro w (rfl | ⟨_, rfl⟩)
  ·exact hx.1
  ·exact hv
 ·rintro x y w hx hy (rfl | ⟨rfl, rfl⟩) (h | ⟨h, h'⟩)
  ·exact h
  ·exact (hx.2 h').elim
  ·exact (hy.2 h.symm).elim
  ·exact h.symm
 ·rintro x y hx hy ⟨_, _, _, q | ⟨rfl, q⟩ | ⟨rfl, q⟩⟩
  ·exact ⟨x, y, .inl rfl, .inl rfl, q⟩
  ·exact ⟨v, y, .inr ⟨rfl, rfl⟩, .inl rfl, q⟩
  ·exact ⟨x, v, .inl rfl, .inr ⟨rfl, rfl⟩, hs _ _ q⟩
theorem AtMost.drop {k : Nat} {P Q : Nat → Prop} (c : Nat) (h : AtMost (k + 1) Q) (hc : Q c) (hq : ∀ u, P u → Q u ∧ u ≠ c) : AtMost k P := by
 obtain ⟨l, h1, h2⟩ := h
 refine ⟨l.erase c, ?_, fun u hu => (List.mem_erase_of_ne (hq u hu).2).2 (h2 u (hq u hu).1)⟩
 rw [List.length_erase_of_mem (h2 c hc)]
 omega
theorem not_atMost {k : Nat} {P : Nat → Prop} (h : ¬ AtMost k P) (l : List Nat) (hl : l.length ≤ k) : ∃ u, P u ∧ u ∉ l := by
 apply Classical.byContradiction
 intro hn
 exact h ⟨l, hl, fun u hu => Classical.byContradiction fun hc => hn ⟨u, hu, hc⟩⟩
theorem exact3 {P : Nat → Prop} (h : AtMost 3 P) (h' : ¬ AtMost 2 P) : ∃ a b c, a ≠ b ∧ a ≠ c ∧ b ≠ c ∧ ∀ y, P y ↔ y = a ∨ y = b ∨ y = c := by
 obtain ⟨a, ha, _⟩ := not_atMost h' [] (by simp)
 obtain ⟨b, hb, hb'⟩ := not_atMost h' [a] (by simp)
 obtain ⟨c, hc, hc'⟩ := not_atMost h' [a, b] (by simp)
 simp at hb' hc'
 refine ⟨a, b, c, fun e => hb' e.symm, fun e => hc'.1 e.symm, fun e => hc'.2 e.symm, fun y => ⟨fun hy => ?_, ?_⟩⟩
 ·obtain ⟨l, h1, h2⟩ := h
  apply Classical.byContradiction
  intro hn
  rw [not_or, not_or] at hn
  have := nodup_le (l := [y, a, b, c]) (m := l) (by simp; exact ⟨hn, ⟨fun e => hb' e.symm, fun e => hc'.1 e.symm⟩, fun e => hc'.2 e.symm⟩) (by
   intro z hz
   simp at hz
   rcases hz with rfl | rfl | rfl | rfl
   ·exact h2 _ hy
   ·exact h2 _ ha
   ·exact h2 _ hb
   ·exact h2 _ hc)
  simp at this
  omega
 ·rintro (rfl | rfl | rfl)
  ·exact ha
  ·exact hb
  ·exact hc
theorem tri {adj : Nat → Nat → Prop} (hs : ∀ x y, adj x y → adj y x) (hi : ∀ x, ¬ adj x x) {u v z : Nat} (huv : adj u v) (hu : ¬ AtMost 2 (adj u)) (hv : ¬ AtMost 2 (adj v)) (hz : ¬ AtMost 2 (adj z)) (hzv : z ≠ v) (h : AtMost 2 (Ctr adj u v z)) :
  ∃ w, adj u w ∧ adj v w ∧ (AtMost 3 (adj u) ∨ AtMost 3 (adj w)) := by
 have hne : u ≠ v := fun e => hi u (by rw [← e] at huv; exact huv)
 by_cases hzu : z = u
 ·subst hzu
  have h3 : AtMost 3 (adj z) := h.succ v fun y hy => by
   by_cases e : y = v
   ·exact .inr e
   ·exact .inl ⟨fun e' => hi z (e' ▸ hy), hzv, e, .inl hy⟩
  obtain ⟨l, hl, hm⟩ := h
  obtain ⟨c1, h1, h1'⟩ := not_atMost hu [v] (by simp)
  obtain ⟨c2, h2, h2'⟩ := not_atMost hu [v, c1] (by simp)
  obtain ⟨d, hd, hd'⟩ := not_atMost hv [z] (by simp)
  simp at h1' h2' hd'
  have m1 := hm c1 ⟨fun e => hi z (e ▸ h1), hzv, h1', .inl h1⟩
  have m2 := hm c2 ⟨fun e => hi z (e ▸ h2), hzv, h2'.1, .inl h2⟩
  have m3 := hm d ⟨fun e => hd' e.symm, hzv, fun e => hi v (e ▸ hd), .inr (.inl ⟨rfl, hd⟩)⟩
  have hdd : d = c1 ∨ d = c2 := by
   apply Classical.byContradiction
   intro hn
   rw [not_or] at hn
   have := nodup_le (l := [d, c1, c2]) (m := l) (by simp; exact ⟨hn, fun e => h2'.2 e.symm⟩) (by
    intro y hy
    simp at hy
    rcases hy with rfl | rfl | rfl
    ·exact m3
    ·exact m1
    ·exact m2)
   simp at this
   omega
  refine ⟨d, ?_, hd, .inl h3⟩
  rcases hdd with rfl | rfl
  ·exact h1
  ·exact h2
 ·by_cases azv : adj z v
  ·by_cases azu : adj z u
   ·refine ⟨z, hs _ _ azu, hs _ _ azv, .inr (h.succ v fun y hy => ?_)⟩
    by_cases e : y = v
    ·exact .inr e
    ·exact .inl ⟨fun e' => hi z (e' ▸ hy), hzv, e, .inl hy⟩
   ·have h1 : AtMost 1 (fun y => adj z y ∧ y ≠ v) := AtMost.drop u h ⟨hzu, hzv, hne, .inr (.inr ⟨rfl, hs _ _ azv⟩)⟩ fun y hy => ⟨⟨fun e' => hi z (e' ▸ hy.1), hzv, hy.2, .inl hy.1⟩, fun e => azu (e ▸ hy.1)⟩
    exact (hz (h1.succ v fun y hy => by
     by_cases e : y = v
     ·exact .inr e
     ·exact .inl ⟨hy, e⟩)).elim
  ·exact (hz (h.mono (Nat.le_refl _) fun y hy => ⟨fun e' => hi z (e' ▸ hy), hzv, fun e => azv (e ▸ hy), .inl hy⟩)).elim
structure Low (V : Nat → Prop) (adj : Nat → Nat → Prop) : Prop where
 symm : ∀ x y, adj x y → adj y x
 irr : ∀ x, ¬ adj x x
 ins : ∀ x y, adj x y → V x
 deg : ∀ x, V x → ¬ AtMost 2 (adj x)
 one : ∀ u v, adj u v → ∃ z, V z ∧ z ≠ v ∧ AtMost 2 (Ctr adj u v z)
 two : ∀ u v w, adj u v → w ≠ u → w ≠ v → (adj u w ∨ adj v w) → ∃ z, V z ∧ z ≠ v ∧ z ≠ w ∧ AtMost 2 (Ctr (Ctr adj u v) u w z)
theorem Low.tri {V : Nat → Prop} {adj : Nat → Nat → Prop} (h : Low V adj) {u v : Nat} (huv : adj u v) : ∃ w, adj u w ∧ adj v w ∧ (AtMost 3 (adj u) ∨ AtMost 3 (adj w)) := by
 obtain ⟨z, hz, hzv, hm⟩ := h.one u v huv
 exact T.tri h.symm h.irr huv (h.deg u (h.ins _ _ huv)) (h.deg v (h.ins _ _ (h.symm _ _ huv))) (h.deg z hz) hzv hm
theorem Low.path {V : Nat → Prop} {adj : Nat → Nat → Prop} (h : Low V adj) {x a b c : Nat} (hab : a ≠ b) (hac : a ≠ c) (hbc : b ≠ c) (hN : ∀ y, adj x y ↔ y = a ∨ y = b ∨ y = c) (eab : adj a b) (ebc : adj b c) (nac : ¬ adj a c) : False := by
 have exa : adj x a := (hN a).2 (.inl rfl)
 have exb : adj x b := (hN b).2 (.inr (.inl rfl))
 have exc : adj x c := (hN c).2 (.inr (.inr rfl))
 have ne : ∀ {p q}, adj p q → p ≠ q := fun {p q} hpq e => h.irr p (by rw [← e] at hpq; exact hpq)
 have sy := h.symm
 have nca : ¬ adj c a := fun e => nac (sy _ _ e)
 have hb3 : AtMost 3 (adj b) := by
  obtain ⟨z, hz, hzx, hm⟩ := h.one a x (sy _ _ exa)
  by_cases za : z = a
  ·subst za
   have h1 : AtMost 1 (fun y => adj z y ∧ y ≠ x) := AtMost.drop c hm ⟨hac, hzx, (ne exc).symm, .inr (.inl ⟨rfl, exc⟩)⟩ fun y hy => ⟨⟨ne hy.1, hzx, hy.2, .inl hy.1⟩, fun e => nac (e ▸ hy.1)⟩
   exact (h.deg z hz (h1.succ x fun y hy => by
    by_cases e : y = x
    ·exact .inr e
    ·exact .inl ⟨hy, e⟩)).elim
  ·by_cases zc : z = c
   ·subst zc
    have h1 : AtMost 1 (fun y => adj z y ∧ y ≠ x) := AtMost.drop a hm ⟨hac.symm, hzx, (ne exa).symm, .inr (.inr ⟨rfl, exc⟩)⟩ fun y hy => ⟨⟨ne hy.1, hzx, hy.2, .inl hy.1⟩, fun e => nca (e ▸ hy.1)⟩
    exact (h.deg z hz (h1.succ x fun y hy => by
     by_cases e : y = x
     ·exact .inr e
     ·exact .inl ⟨hy, e⟩)).elim
   ·by_cases zb : z = b
    ·subst zb
     exact hm.succ x fun y hy => by
      by_cases e : y = x
      ·exact .inr e
      ·exact .inl ⟨ne hy, hzx, e, .inl hy⟩
    ·have hxz : ¬ adj x z := fun e => by
      rcases (hN z).1 e with e | e | e
      ·exact za e
      ·exact zb e
      ·exact zc e
     exact (h.deg z hz (hm.mono (Nat.le_refl _) fun y hy => ⟨ne hy, hzx, fun e => hxz (sy _ _ (e ▸ hy)), .inl hy⟩)).elim
 have hbN : ∀ y, adj b y → y = a ∨ y = c ∨ y = x := by
  intro y hy
  obtain ⟨l, hl, hm⟩ := hb3
  apply Classical.byContradiction
  intro hn
  rw [not_or, not_or] at hn
  have := nodup_le (l := [y, a, c, x]) (m := l) (by simp; exact ⟨hn, ⟨hac, (ne exa).symm⟩, (ne exc).symm⟩) (by
   intro z hz
   simp at hz
   rcases hz with rfl | rfl | rfl | rfl
   ·exact hm _ hy
   ·exact hm _ (sy _ _ eab)
   ·exact hm _ ebc
   ·exact hm _ (sy _ _ exb))
  simp at this
  omega
 have end_ : ∀ p q, adj x p → adj b p → (∀ y, adj x y → y = p ∨ y = b ∨ y = q) → (∀ y, adj b y → y = p ∨ y = q ∨ y = x) → ¬ adj p q → p ≠ b → AtMost 3 (adj p) → False := by
  intro p q hxp hbp hx hb hpq hpb h3
  obtain ⟨d, hd, hd'⟩ := not_atMost (h.deg p (h.ins _ _ (sy _ _ hxp))) [x, b] (by simp)
  simp at hd'
  obtain ⟨l, hl, hm⟩ := h3
  have only : ∀ y, adj p y → y = x ∨ y = b ∨ y = d := by
   intro y hy
   apply Classical.byContradiction
   intro hn
   rw [not_or, not_or] at hn
   have := nodup_le (l := [y, x, b, d]) (m := l) (by simp; exact ⟨hn, ⟨ne exb, fun e => hd'.1 e.symm⟩, fun e => hd'.2 e.symm⟩) (by
    intro z hz
    simp at hz
    rcases hz with rfl | rfl | rfl | rfl
    ·exact hm _ hy
    ·exact hm _ (sy _ _ hxp)
    ·exact hm _ (sy _ _ hbp)
    ·exact hm _ hd)
   simp at this
   omega
  obtain ⟨w, hw1, hw2, _⟩ := h.tri hd
  rcases only w hw1 with rfl | rfl | rfl
  ·rcases hx d (sy _ _ hw2) with e | e | e
   ·exact ne hd e.symm
   ·exact hd'.2 e
   ·exact hpq (e ▸ hd)
  ·rcases hb d (sy _ _ hw2) with e | e | e
   ·exact ne hd e.symm
   ·exact hpq (e ▸ hd)
   ·exact hd'.1 e
  ·exact h.irr _ hw2
 have hx1 : ∀ y, adj x y → y = a ∨ y = b ∨ y = c := fun y hy => (hN y).1 hy
 have hx2 : ∀ y, adj x y → y = c ∨ y = b ∨ y = a := fun y hy => by
  rcases (hN y).1 hy with e | e | e
  ·exact .inr (.inr e)
  ·exact .inr (.inl e)
  ·exact .inl e
 have hb2 : ∀ y, adj b y → y = c ∨ y = a ∨ y = x := fun y hy => by
  rcases hbN y hy with e | e | e
  ·exact .inr (.inl e)
  ·exact .inl e
  ·exact .inr (.inr e)
 obtain ⟨z, hz, hzx, hzb, hm⟩ := h.two a x b (sy _ _ exa) hab.symm (ne exb).symm (.inl eab)
 have nxa := ne exa
 have nxb := ne exb
 have nxc := ne exc
 by_cases za : z = a
 ·subst za
  refine end_ z c exa (sy _ _ eab) hx1 hbN nac hab ?_
  have h1 : AtMost 1 (fun y => adj z y ∧ y ≠ x ∧ y ≠ b) := AtMost.drop c hm ⟨hac, hzb, hbc.symm, .inl ⟨hac, hzx, nxc.symm, .inr (.inl ⟨rfl, exc⟩)⟩⟩ fun y hy => ⟨⟨ne hy.1, hzb, hy.2.2, .inl ⟨ne hy.1, hzx, hy.2.1, .inl hy.1⟩⟩, fun e => nac (e ▸ hy.1)⟩
  have h2 : AtMost 2 (fun y => adj z y ∧ y ≠ x) := h1.succ b fun y hy => by
   by_cases e : y = b
   ·exact .inr e
   ·exact .inl ⟨hy.1, hy.2, e⟩
  exact h2.succ x fun y hy => by
   by_cases e : y = x
   ·exact .inr e
   ·exact .inl ⟨hy, e⟩
 ·by_cases zc : z = c
  ·subst zc
   refine end_ z a exc ebc hx2 hb2 nca hbc.symm ?_
   have h1 : AtMost 1 (fun y => adj z y ∧ y ≠ x ∧ y ≠ b) := AtMost.drop a hm ⟨hac.symm, hzb, hab, .inl ⟨hac.symm, hzx, nxa.symm, .inr (.inr ⟨rfl, exc⟩)⟩⟩ fun y hy => ⟨⟨ne hy.1, hzb, hy.2.2, .inl ⟨ne hy.1, hzx, hy.2.1, .inl hy.1⟩⟩, fun e => nca (e ▸ hy.1)⟩
   have h2 : AtMost 2 (fun y => adj z y ∧ y ≠ x) := h1.succ b fun y hy => by
    by_cases e : y = b
    ·exact .inr e
    ·exact .inl ⟨hy.1, hy.2, e⟩
   exact h2.succ x fun y hy => by
    by_cases e : y = x
    ·exact .inr e
    ·exact .inl ⟨hy, e⟩
  ·have hxz : ¬ adj x z := fun e => by
    rcases (hN z).1 e with e | e | e
    ·exact za e
    ·exact hzb e
    ·exact zc e
   have hbz : ¬ adj b z := fun e => by
    rcases hbN z e with e | e | e
    ·exact za e
    ·exact zc e
    ·exact hzx e
   exact h.deg z hz (hm.mono (Nat.le_refl _) fun y hy => ⟨ne hy, hzb, fun e => hbz (sy _ _ (e ▸ hy)), .inl ⟨ne hy, hzx, fun e => hxz (sy _ _ (e ▸ hy)), .inl hy⟩⟩)
theorem k4_of {V : Nat → Prop} {adj : Nat → Nat → Prop} (hs : ∀ x y, adj x y → adj y x) (hi : ∀ x, ¬ adj x x) (hV : ∀ x y, adj x y → V x) {x a b c : Nat} (h1 : adj x a) (h2 : adj x b) (h3 : adj x c) (h4 : adj a b) (h5 : adj a c) (h6 : adj b c) :
  Mnr V adj 4 (fun i j => i ≠ j) := by
 have ne : ∀ {p q}, adj p q → p ≠ q := fun {p q} hpq e => hi p (by rw [← e] at hpq; exact hpq)
 have key : ∀ i j, i < 4 → j < 4 → i ≠ j → adj ([x, a, b, c].getD i 0) ([x, a, b, c].getD j 0) := by
  intro i j hi4 hj4 hij
  match i, j, hi4, hj4 with
  | 0, 0, _, _ => exact (hij rfl).elim
  | 0, 1, _, _ => exact h1
  | 0, 2, _, _ => exact h2
  | 0, 3, _, _ => exact h3
  | 1, 0, _, _ => exact hs _ _ h1
  | 1, 1, _, _ => exact (hij rfl).elim
  | 1, 2, _, _ => exact h4
  | 1, 3, _, _ => exact h5
  | 2, 0, _, _ => exact hs _ _ h2
  | 2, 1, _, _ => exact hs _ _ h4
  | 2, 2, _, _ => exact (hij rfl).elim
  | 2, 3, _, _ => exact h6
  | 3, 0, _, _ => exact hs _ _ h3
  | 3, 1, _, _ => exact hs _ _ h5
  | 3, 2, _, _ => exact hs _ _ h6
  | 3, 3, _, _ => exact (hij rfl).elim
 refine ⟨fun i y => y = [x, a, b, c].getD i 0, fun i hi4 => ⟨conn_one adj _, ?_⟩, ?_, ?_⟩
 ·rintro y rfl
  by_cases e : i = 0
  ·exact hV _ _ (key i 1 hi4 (by omega) (by omega))
  ·exact hV _ _ (key i 0 hi4 (by omega) e)
 ·rintro i j y hi4 hj4 rfl hy
  apply Classical.byContradiction
  intro e
  exact ne (key i j hi4 hj4 e) hy
 ·intro i j hi4 hj4 hij
  exact ⟨_, _, rfl, rfl, key i j hi4 hj4 hij⟩
theorem Low.no {V : Nat → Prop} {adj : Nat → Nat → Prop} (h : Low V adj) (hk : ¬ Mnr V adj 4 (fun i j => i ≠ j)) (hV : ∃ v, V v) : False := by
 have sy := h.symm
 have ne : ∀ {p q}, adj p q → p ≠ q := fun {p q} hpq e => h.irr p (by rw [← e] at hpq; exact hpq)
 obtain ⟨u, hu⟩ := hV
 obtain ⟨v, huv, _⟩ := not_atMost (h.deg u hu) [] (by simp)
 obtain ⟨w, hw1, hw2, hx⟩ := h.tri huv
 have : ∃ x, V x ∧ AtMost 3 (adj x) := by
  rcases hx with hx | hx
  ·exact ⟨u, hu, hx⟩
  ·exact ⟨w, h.ins _ _ (sy _ _ hw1), hx⟩
 obtain ⟨x, hxV, hx3⟩ := this
 obtain ⟨a, b, c, hab, hac, hbc, hN⟩ := exact3 hx3 (h.deg x hxV)
 have exa : adj x a := (hN a).2 (.inl rfl)
 have exb : adj x b := (hN b).2 (.inr (.inl rfl))
 have exc : adj x c := (hN c).2 (.inr (.inr rfl))
 have ta : adj a b ∨ adj a c := by
  obtain ⟨w, h1, h2, _⟩ := h.tri exa
  rcases (hN w).1 h1 with rfl | rfl | rfl
  ·exact (h.irr _ h2).elim
  ·exact .inl h2
  ·exact .inr h2
 have tb : adj a b ∨ adj b c := by
  obtain ⟨w, h1, h2, _⟩ := h.tri exb
  rcases (hN w).1 h1 with rfl | rfl | rfl
  ·exact .inl (sy _ _ h2)
  ·exact (h.irr _ h2).elim
  ·exact .inr h2
 have tc : adj a c ∨ adj b c := by
  obtain ⟨w, h1, h2, _⟩ := h.tri exc
  rcases (hN w).1 h1 with rfl | rfl | rfl
  ·exact .inl (sy _ _ h2)
  ·exact .inr (sy _ _ h2)
  ·exact (h.irr _ h2).elim
 by_cases e1 : adj a b
 ·by_cases e2 : adj b c
  ·by_cases e3 : adj a c
   ·exact hk (k4_of sy h.irr h.ins exa exb exc e1 e3 e2)
   ·exact h.path hab hac hbc hN e1 e2 e3
  ·exact h.path (x := x) (a := b) (b := a) (c := c) hab.symm hbc hac (fun y => by rw [hN y]; constructor <;> (rintro (e | e | e) <;> simp [e])) (sy _ _ e1) (tc.resolve_right e2) e2
 ·exact h.path (x := x) (a := a) (b := c) (c := b) hac hab hbc.symm (fun y => by rw [hN y]; constructor <;> (rintro (e | e | e) <;> simp [e])) (ta.resolve_left e1) (sy _ _ (tb.resolve_left e1)) e1
theorem ctr_symm {adj : Nat → Nat → Prop} (hs : ∀ x y, adj x y → adj y x) {u v : Nat} : ∀ x y, Ctr adj u v x y → Ctr adj u v y x := by
 rintro x y ⟨h1, h2, h3, h | h | h⟩
 ·exact ⟨h1.symm, h3, h2, .inl (hs _ _ h)⟩
 ·exact ⟨h1.symm, h3, h2, .inr (.inr h)⟩
 ·exact ⟨h1.symm, h3, h2, .inr (.inl h)⟩
theorem deg3_k4 : ∀ (n : Nat) (V : List Nat) (adj : Nat → Nat → Prop), V.length = n → V ≠ [] → (∀ x y, adj x y → adj y x) → (∀ x, ¬ adj x x) → (∀ x y, adj x y → x ∈ V) → (∀ x, x ∈ V → ¬ AtMost 2 (adj x)) → Mnr (fun x => x ∈ V) adj 4 (fun i j => i ≠ j) := by
 intro n
 induction n using Nat.strongRecOn with
 | _ n ih =>
  intro V adj hl hne hs hi hV hd
  apply Classical.byContradiction
  intro hk
  have ne : ∀ {p q}, adj p q → p ≠ q := fun {p q} hpq e => hi p (by rw [← e] at hpq; exact hpq)
  have less : ∀ (W : List Nat) (v : Nat), v ∈ W → (W.filter (fun x => decide (x ≠ v))).length < W.length := fun W v hv => by
   apply List.length_filter_lt_length_iff_exists.2
   exact ⟨v, hv, by simp⟩
  refine Low.no (V := fun x => x ∈ V) ⟨hs, hi, hV, hd, ?_, ?_⟩ hk (List.exists_mem_of_ne_nil V hne)
  ·intro u v huv
   apply Classical.byContradiction
   intro hn
   apply hk
   have hv : v ∈ V := hV _ _ (hs _ _ huv)
   refine ctr_mnr hs huv hv (ne huv) ?_
   have e : (fun x => x ∈ V ∧ x ≠ v) = fun x => x ∈ V.filter (fun x => decide (x ≠ v)) := funext fun x => propext (by simp)
   rw [e]
   refine ih _ (by rw [← hl]; exact less V v hv) (V.filter fun x => decide (x ≠ v)) (Ctr adj u v) rfl (List.ne_nil_of_mem (a := u) (by simp; exact ⟨hV _ _ huv, ne huv⟩)) (ctr_symm hs) (fun x h => h.1 rfl) ?_ ?_
   ·rintro x y ⟨h1, h2, h3, h | h | h⟩ <;> simp
    ·exact ⟨hV _ _ h, h2⟩
    ·rw [h.1]; exact ⟨hV _ _ huv, ne huv⟩
    ·exact ⟨hV _ _ (hs _ _ h.2), h2⟩
   ·intro x hx h2
    simp at hx
    exact hn ⟨x, hx.1, hx.2, h2⟩
  ·intro u v w huv hwu hwv hw
   apply Classical.byContradiction
   intro hn
   apply hk
   have hv : v ∈ V := hV _ _ (hs _ _ huv)
   have hwV : w ∈ V := by
    rcases hw with hw | hw
    ·exact hV _ _ (hs _ _ hw)
    ·exact hV _ _ (hs _ _ hw)
   have hc : Ctr adj u v u w := ⟨hwu.symm, ne huv, hwv, hw.elim .inl fun h => .inr (.inl ⟨rfl, h⟩)⟩
   refine ctr_mnr hs huv hv (ne huv) (ctr_mnr (ctr_symm hs) hc ⟨hwV, hwv⟩ hwu.symm ?_)
   have e : (fun x => (x ∈ V ∧ x ≠ v) ∧ x ≠ w) = fun x => x ∈ (V.filter (fun x => decide (x ≠ v))).filter (fun x => decide (x ≠ w)) := funext fun x => propext ⟨fun h => List.mem_filter.2 ⟨List.mem_filter.2 ⟨h.1.1, decide_eq_true h.1.2⟩, decide_eq_true h.2⟩, fun h => ⟨⟨(List.mem_filter.1 (List.mem_filter.1 h).1).1, of_decide_eq_true (List.mem_filter.1 (List.mem_filter.1 h).1).2⟩, of_decide_eq_true (List.mem_filter.1 h).2⟩⟩
   rw [e]
   have l1 := less V v hv
   have l2 := less (V.filter fun x => decide (x ≠ v)) w (by simp; exact ⟨hwV, hwv⟩)
   refine ih _ (by omega) ((V.filter fun x => decide (x ≠ v)).filter fun x => decide (x ≠ w)) (Ctr (Ctr adj u v) u w) rfl (List.ne_nil_of_mem (a := u) (by simp [hV _ _ huv, ne huv, hwu.symm])) (ctr_symm (ctr_symm hs)) (fun x h => h.1 rfl) ?_ ?_
   ·have hu : u ∈ V := hV _ _ huv
    have c1 : ∀ x y, Ctr adj u v x y → x ∈ V := by
     rintro x y ⟨h1, h2, h3, h | h | h⟩
     ·exact hV _ _ h
     ·rw [h.1]; exact hu
     ·exact hV _ _ (hs _ _ h.2)
    rintro x y ⟨h1, h2, h3, h | h | h⟩
    ·exact List.mem_filter.2 ⟨List.mem_filter.2 ⟨c1 _ _ h, decide_eq_true h.2.1⟩, decide_eq_true h2⟩
    ·rw [h.1]; exact List.mem_filter.2 ⟨List.mem_filter.2 ⟨hu, decide_eq_true (ne huv)⟩, decide_eq_true hwu.symm⟩
    ·have h' := ctr_symm hs _ _ h.2
     exact List.mem_filter.2 ⟨List.mem_filter.2 ⟨c1 _ _ h', decide_eq_true h'.2.1⟩, decide_eq_true h2⟩
   ·intro x hx h2
    simp at hx
    exact hn ⟨x, by simp [hx], by simp [hx], by simp [hx], h2⟩
theorem zero_bset (v : Nat) : ¬ bset 0 v := by simp [bset]
section
variable {V : Nat → Prop} {adj : Nat → Nat → Prop}
end
def TopOf (par : Nat → Option Nat) (β : Nat → Nat → Prop) (v k : Nat) : Prop := β k v ∧ ∀ p, par k = some p → ¬ β p v
structure ATD (I : Nat → Prop) (par : Nat → Option Nat) (β : Nat → Nat → Prop) (V : Nat → Prop) (adj : Nat → Nat → Prop) (ρ : Nat → Nat) : Prop where
 inn : ∀ k p, I k → par k = some p → I p
 rank : ∀ k p, I k → par k = some p → ρ p < ρ k
 root : ∃ r, I r ∧ par r = none ∧ ∀ k, I k → par k = none → k = r
 sub : ∀ k v, I k → β k v → V v
 top : ∀ v, V v → ∃ t, I t ∧ TopOf par β v t ∧ ∀ k, I k → TopOf par β v k → k = t
 edge : ∀ u v, adj u v → ∃ k, I k ∧ β k u ∧ β k v
inductive Anc (par : Nat → Option Nat) : Nat → Nat → Prop
 | refl (k : Nat) : Anc par k k
 | step {k q t : Nat} : par k = some q → Anc par q t → Anc par k t
section
variable {I : Nat → Prop} {par : Nat → Option Nat} {β : Nat → Nat → Prop} {V : Nat → Prop} {adj : Nat → Nat → Prop} {ρ : Nat → Nat} (h : ATD I par β V adj ρ)
include h
theorem anc_rank {k t : Nat} (hk : I k) (ha : Anc par k t) : ρ t ≤ ρ k ∧ (t ≠ k → ρ t < ρ k) := by
 induction ha with
 | refl k => exact ⟨Nat.le_refl _, fun e => absurd rfl e⟩
 | @step k q t e _ ih =>
  have h1 := h.rank k q hk e
  have h2 := (ih (h.inn k q hk e)).1
  exact ⟨by omega, fun _ => by omega⟩
theorem anc_in {k t : Nat} (hk : I k) (ha : Anc par k t) : I t := by
 induction ha with
 | refl k => exact hk
 | @step k q t e _ ih => exact ih (h.inn k q hk e)
theorem up_top {v t : Nat} (ht : ∀ k, I k → TopOf par β v k → k = t) : ∀ (d k : Nat), ρ k ≤ d → I k → β k v → Anc par k t := by
 intro d
 induction d with
 | zero =>
  intro k hd hk hb
  have : TopOf par β v k := ⟨hb, fun p e => by have := h.rank k p hk e; omega⟩
  rw [← ht k hk this]
  exact .refl k
 | succ d ih =>
  intro k hd hk hb
  by_cases hx : ∃ p, par k = some p ∧ β p v
  ·obtain ⟨p, e, hp⟩ := hx
   have := h.rank k p hk e
   exact .step e (ih p (by omega) (h.inn k p hk e) hp)
  ·have : TopOf par β v k := ⟨hb, fun p e hp => hx ⟨p, e, hp⟩⟩
   rw [← ht k hk this]
   exact .refl k
theorem up_has {v t : Nat} (ht : ∀ k, I k → TopOf par β v k → k = t) {m a : Nat} (hm : I m) (ha : Anc par m a) (hb : β m v) (hr : ρ t ≤ ρ a) : β a v := by
 induction ha with
 | refl k => exact hb
 | @step k q a e hqa ih =>
  have hq := h.inn k q hm e
  refine ih hq ?_ hr
  apply Classical.byContradiction
  intro hn
  have : TopOf par β v k := ⟨hb, fun p e2 hp => by
   rw [e] at e2
   obtain rfl := Option.some.inj e2
   exact hn hp⟩
  have ek := ht k hm this
  have h1 := h.rank k q hm e
  have h2 := (anc_rank h hq hqa).1
  rw [← ek] at hr
  omega
theorem anc_root {r : Nat} (hr : ∀ k, I k → par k = none → k = r) : ∀ (d k : Nat), ρ k ≤ d → I k → Anc par k r := by
 intro d
 induction d with
 | zero =>
  intro k hd hk
  cases e : par k with
  | none => rw [hr k hk e]; exact .refl r
  | some p => have := h.rank k p hk e; omega
 | succ d ih =>
  intro k hd hk
  cases e : par k with
  | none => rw [hr k hk e]; exact .refl r
  | some p =>
   have := h.rank k p hk e
   exact .step e (ih p (by omega) (h.inn k p hk e))
end
theorem anc_trans {par : Nat → Option Nat} {a b c : Nat} (h : Anc par a b) (h' : Anc par b c) : Anc par a c := by
 induction h with
 | refl k => exact h'
 | step e _ ih => exact .step e (ih h')
section
variable {I : Nat → Prop} {par : Nat → Option Nat} {β : Nat → Nat → Prop} {V : Nat → Prop} {adj : Nat → Nat → Prop} {ρ : Nat → Nat} (h : ATD I par β V adj ρ)
include h
theorem anc_cmp {m a b : Nat} (hm : I m) (ha : Anc par m a) (hb : Anc par m b) (hr : ρ b ≤ ρ a) : Anc par a b := by
 induction ha with
 | refl k => exact hb
 | @step k q t e hqt ih =>
  cases hb with
  | refl =>
   have h1 := h.rank _ q hm e
   have h2 := (anc_rank h (h.inn _ q hm e) hqt).1
   omega
  | @step _ q' _ e' hb' =>
   rw [e] at e'
   obtain rfl := Option.some.inj e'
   exact ih (h.inn k q hm e) hb' hr
end
end Go.Proofs.YtjloppfdagfpmaaDoor.T
end
