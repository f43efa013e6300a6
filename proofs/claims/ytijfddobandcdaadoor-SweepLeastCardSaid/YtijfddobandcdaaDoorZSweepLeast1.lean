/- Part 1 of what SweepLeast rests on: contracts of the functions that it reaches, and what they compute, in plain words. -/
import Derived.Test.YtijfddobandcdaaDoorZSweepLeast0
import Derived.ArgAppend
import Derived.OwnWalk
import Derived.Maps.AppendAt
section
/- lampblackref03.layouts, by hand: all orders that begin in some way. -/
namespace Go.Proofs.YtijfddobandcdaaDoor.X
open Go.RowKit Go.Proofs.YtijfddobandcdaaDoorW.PrintWords Go.Proofs.YtijfddobandcdaaDoorW.PrintLast Go.Proofs.YtijfddobandcdaaDoorW.PrintMore Go.Proofs.YtijfddobandcdaaDoor.T
attribute [local go_sem] max2_int min2_int max_two min_two max_three min_three max_four min_four
set_option linter.unusedVariables false
set_option linter.unusedSimpArgs false

/-- All orders of the numbers below n that begin with l; d are still to come. -/
def layF (n : Nat) : Nat → List Int → List (List Int)
  | 0, l => [l]
  | d + 1, l => (List.range n).flatMap fun (v : Nat) => if (v : Int) ∈ l then [] else layF n d (l ++ [(v : Int)])
/-- .. those whose next one is below i. -/
def outTo (n d : Nat) (l : List Int) (i : Nat) : List (List Int) := (List.range i).flatMap fun (v : Nat) => if (v : Int) ∈ l then [] else layF n d (l ++ [(v : Int)])
theorem outTo_succ (n d : Nat) (l : List Int) (i : Nat) : outTo n d l (i + 1) = outTo n d l i ++ (if (i : Int) ∈ l then [] else layF n d (l ++ [(i : Int)])) := by
  unfold outTo
  rw [List.range_succ, List.flatMap_append]
  simp
theorem layF_length (n : Nat) : ∀ d l, (layF n d l).length ≤ n ^ d
  | 0, l => by simp [layF]
  | d + 1, l => by
    have h : ∀ i, (outTo n d l i).length ≤ i * n ^ d := by
      intro i
      induction i with
      | zero => simp [outTo]
      | succ i ih =>
        rw [outTo_succ, List.length_append, Nat.succ_mul]
        split
        · simp; omega
        · have := layF_length n d (l ++ [(i : Int)]); omega
    have := h n
    rw [Nat.pow_succ, Nat.mul_comm]
    exact this
theorem outTo_length (n d : Nat) (l : List Int) (i : Nat) (hi : i ≤ n) : (outTo n d l i).length ≤ n ^ (d + 1) := by
  have h : ∀ i, (outTo n d l i).length ≤ i * n ^ d := by
    intro i
    induction i with
    | zero => simp [outTo]
    | succ i ih =>
      rw [outTo_succ, List.length_append, Nat.succ_mul]
      split
      · simp; omega
      · have := layF_length n d (l ++ [(i : Int)]); omega
  refine Nat.le_trans (h i) ?_
  rw [Nat.pow_succ, Nat.mul_comm]
  exact Nat.mul_le_mul_left _ hi
/-- The rows of a slice of slices: each is a row of its own, in a block from B on. -/
def Rows (B : Nat) (W : World) (rows : List Value) (Ls : List (List Int)) : Prop := rows.length = Ls.length ∧ ∀ (i : Nat) (L : List Int), Ls[i]? = some L → ∃ v, rows[i]? = some v ∧ W.ownsRow B 3 1 v L.length (L.map (Value.int .i64))
theorem Rows.append {B : Nat} {W : World} {r1 r2 : List Value} {L1 L2 : List (List Int)} (h1 : Rows B W r1 L1) (h2 : Rows B W r2 L2) : Rows B W (r1 ++ r2) (L1 ++ L2) := by
  refine ⟨by simp [h1.1, h2.1], fun i L hL => ?_⟩
  by_cases hi : i < L1.length
  · rw [List.getElem?_append_left hi] at hL
    rw [List.getElem?_append_left (by rw [h1.1]; exact hi)]
    exact h1.2 i L hL
  · rw [List.getElem?_append_right (by omega)] at hL
    rw [List.getElem?_append_right (by rw [h1.1]; omega), h1.1]
    exact h2.2 _ L hL
theorem Rows.imp {B : Nat} {W V : World} {rows : List Value} {Ls : List (List Int)} (h : Rows B W rows Ls) (hk : ∀ (v : Value) (L : List Int), W.ownsRow B 3 1 v L.length (L.map (Value.int .i64)) → V.ownsRow B 3 1 v L.length (L.map (Value.int .i64))) : Rows B V rows Ls :=
  ⟨h.1, fun i L hL => by obtain ⟨v, h1, h2⟩ := h.2 i L hL; exact ⟨v, h1, hk v L h2⟩⟩
theorem ownsRow_below {W V : World} {base : Nat} {e : TypeId} {size : Nat} {v : Value} {k : Nat} {xs : List Value} (h : W.ownsRow base e size v k xs) (hb : Below W.heap.size W V) : V.ownsRow base e size v k xs := by
  obtain ⟨h1, h2⟩ := h
  refine ⟨h1, ?_⟩
  rcases h2 with h2 | ⟨g, cap, cur, e1, hb1, hg, r⟩
  · exact .inl h2
  · exact .inr ⟨g, cap, cur, e1, hb1, (hb.block g (Array.getElem?_eq_some_iff.1 hg).1).trans hg, r⟩
/-- A turn of a row of another type leaves a row as it is. -/
theorem ownsRow_other {W V : World} {base base2 : Nat} {e e2 : TypeId} {size size2 : Nat} {v v2 : Value} {k k2 : Nat} {xs ys : List Value} (h : W.ownsRow base e size v k xs) (h2 : W.ownsRow base2 e2 size2 v2 k2 ys) (hne : e ≠ e2) (hg : W.grownBy V v2.ownBlock) : V.ownsRow base e size v k xs := by
  refine h.kept hg ?_
  rcases h.2 with ⟨rfl, _⟩ | ⟨g, cap, cur, rfl, _, hgb, _⟩
  · exact .inl rfl
  · refine .inr fun e' => ?_
    rcases h2.2 with ⟨rfl, _⟩ | ⟨g2, cap2, cur2, rfl, _, hgb2, _⟩
    · simp [Value.ownBlock] at e'
    · obtain rfl : g = g2 := by simpa [Value.ownBlock] using e'
      rw [hgb] at hgb2
      cases hgb2
      exact hne rfl
theorem ownsRow_reads {W : World} {base : Nat} {A : Option Addr} {cap : Nat} {l : List Int} (h : W.ownsRow base 3 1 (.slice A l.length cap) l.length (l.map (Value.int .i64))) : l.length ≤ cap ∧ (A = none → l.length = 0 ∧ cap = 0) ∧ ∀ (i : Nat), i < l.length → ∃ ad, A = some ad ∧ W.cell? (ad.add i) = some (.int .i64 (rd l (i : Int))) := by
  rcases h.2 with ⟨e, h0⟩ | ⟨g, cap', cur, e, _, hg, h1, _, h3, h4⟩
  · injection e with e1 e2 e3
    subst e1 e3
    exact ⟨by omega, fun _ => ⟨h0, rfl⟩, fun i hi => by omega⟩
  · injection e with e1 e2 e3
    subst e1 e3
    refine ⟨h1, (fun e => by cases e), fun i hi => ⟨_, rfl, ?_⟩⟩
    have h5 : (l.map (Value.int .i64))[i]? = some (.int .i64 (rd l (i : Int))) := by
      unfold rd
      rw [Int.toNat_natCast, List.getD_eq_getElem?_getD, List.getElem?_map, List.getElem?_eq_getElem hi]
      rfl
    rw [← h4, List.getElem?_take, if_pos (by omega)] at h5
    rw [Addr.add_lit, Nat.zero_add]
    unfold World.cell?
    rw [show W.heap[(⟨g, i, none⟩ : Addr).block]? = _ from hg]
    simpa using h5
theorem ownsRow_cells {W : World} {base : Nat} {e : TypeId} {g k cap : Nat} {xs : List Value} (h : W.ownsRow base e 1 (.slice (some ⟨g, 0, none⟩) k cap) k xs) (j : Nat) (u : Value) (hu : xs[j]? = some u) : W.cell? ((⟨g, 0, none⟩ : Addr).add j) = some u := by
  have hl := h.1
  have hj := (List.getElem?_eq_some_iff.1 hu).1
  rcases h.2 with ⟨e, h0⟩ | ⟨g', cap', cur, e, _, hg, h1, _, h3, h4⟩
  · cases e
  · injection e with e1 e2 e3
    injection e1 with e1
    injection e1 with e1
    subst e1
    rw [← h4, List.getElem?_take, if_pos (by omega)] at hu
    rw [Addr.add_lit, Nat.zero_add]
    unfold World.cell?
    rw [show W.heap[(⟨g, j, none⟩ : Addr).block]? = _ from hg]
    simpa using hu
theorem ownsRow_mono {W : World} {base base' : Nat} {e : TypeId} {size : Nat} {v : Value} {k : Nat} {xs : List Value} (h : W.ownsRow base e size v k xs) (hb : base' ≤ base) : W.ownsRow base' e size v k xs := by
  obtain ⟨h1, h2⟩ := h
  refine ⟨h1, ?_⟩
  rcases h2 with h2 | ⟨g, cap, cur, e1, hb1, r⟩
  · exact .inl h2
  · exact .inr ⟨g, cap, cur, e1, by omega, r⟩
theorem ownsRow_one {W : World} {base : Nat} {e : TypeId} {size : Nat} {v : Value} {k : Nat} {xs : List Value} (h : W.ownsRow base e size v k xs) : v.oneCell' = true := by
  rcases h.2 with ⟨rfl, _⟩ | ⟨g, cap, cur, rfl, _⟩ <;> rfl
theorem fresh_node (n : Nat) (l : List Int) (h : l.length < n) : ∃ v, v < n ∧ (v : Int) ∉ l := by
  apply Classical.byContradiction
  intro hno
  have := nodup_le (List.nodup_range (n := n)) (m := l.map Int.toNat) fun j hj => List.mem_map.2 ⟨(j : Int), Classical.byContradiction fun h => hno ⟨j, List.mem_range.1 hj, h⟩, rfl⟩
  simp at this
  omega
theorem layF_mem (n : Nat) : ∀ (d : Nat) (l : List Int), l.length + d = n → ∃ x, x ∈ layF n d l
  | 0, l, _ => ⟨l, by simp [layF]⟩
  | d + 1, l, h => by
    obtain ⟨v, hv, hn⟩ := fresh_node n l (by omega)
    obtain ⟨x, hx⟩ := layF_mem n d (l ++ [(v : Int)]) (by simp; omega)
    refine ⟨x, ?_⟩
    simp only [layF]
    exact List.mem_flatMap.2 ⟨v, List.mem_range.2 hv, by rw [if_neg hn]; exact hx⟩
theorem layF_small (n d : Nat) (hn : n ≤ 7) (hd : d ≤ 7) : n ^ d ≤ 7 ^ 7 := Nat.le_trans (Nat.pow_le_pow_left hn d) (Nat.pow_le_pow_right (by omega) hd)
theorem info22 : (Tryd.prog.info? 22).map (fun i => (i.zero, i.size, i.bytes)) = some (some (.slice none 0 0), 1, 24) := by kernel_rfl

theorem mem_take_succ (l : List Int) (x : Int) (j : Nat) (hj : j < l.length) : decide (x ∈ l.take (j + 1)) = (decide (x ∈ l.take j) || (rd l (j : Int) == x)) := by
  have e : rd l (j : Int) = l[j] := by unfold rd; rw [Int.toNat_natCast, List.getD_eq_getElem?_getD, List.getElem?_eq_getElem hj]; rfl
  rw [e]
  apply Bool.eq_iff_iff.2
  rw [decide_eq_true_eq, Bool.or_eq_true, decide_eq_true_eq, beq_iff_eq, List.take_add_one, List.getElem?_eq_getElem hj, List.mem_append]
  simp
  exact or_congr_right eq_comm
set_option maxHeartbeats 2000000 in
set_option maxRecDepth 100000 in
theorem layouts_calls (n : Nat) (hn : n ≤ 7) : ∀ (d : Nat) (l : List Int) (A : Option Addr) (cap B : Nat) (w : World), l.length + d = n → B ≤ w.heap.size → w.ownsRow B 3 1 (.slice A l.length cap) l.length (l.map (Value.int .i64)) →
    Calls Tryd.prog 58 #[.int .i64 n, .slice A l.length cap] w fun e w' => ∃ v rows, e = .returned v ∧ w'.ownsRow w.heap.size 22 1 v (layF n d l).length rows ∧ Rows B w' rows (layF n d l) ∧ Below w.heap.size w w' := by
  intro d
  induction d with
  | zero =>
    intro l A cap B w hl hB hown
    have hln : ((l.length : Int) == (n : Int)) = true := by simp; omega
    go_enter Tryd.func58, Tryd.ntmps58
    go_wp2
    go_ret
    refine ⟨_, [.slice A l.length cap], rfl, ⟨rfl, .inr ⟨w.heap.size, 1, #[.slice A l.length cap], rfl, Nat.le_refl _, World.alloc_heap_new w _, Nat.le_refl _, by unfold maxLen; omega, rfl, rfl⟩⟩, ⟨rfl, fun i L hL => ?_⟩, below_alloc (Below.refl _ _) _⟩
    cases i with
    | zero =>
      obtain rfl : l = L := by simpa [layF] using hL
      exact ⟨_, rfl, hown.alloc _⟩
    | succ i => simp [layF] at hL
  | succ d ih =>
    intro l A cap B w hl hB hown
    have hln : ((l.length : Int) == (n : Int)) = false := by simp; omega
    obtain ⟨hcap, hnone, hread⟩ := ownsRow_reads hown
    go_enter Tryd.func58, Tryd.ntmps58
    go_wp2
    go_loopg [5, 17] n (fun kq v5 v17 w' => ∃ (i : Nat) (rows : List Value), v17 = .int .i64 (i : Int) ∧ i + kq = n ∧ w'.ownsRow w.heap.size 22 1 v5 (outTo n d l i).length rows ∧ Rows B w' rows (outTo n d l i) ∧ Below w.heap.size w w')
    case atStart => exact ⟨0, [], rfl, by omega, World.ownsRow_nil _ _ _ _, ⟨rfl, fun i L h => by simp [outTo] at h⟩, Below.refl _ _⟩
    case round =>
      obtain ⟨i, rows, rfl, hi, ho, hR, hBw⟩ := hrel
      by_cases hin : i < n
      · have hi1 : ((i : Int) < (n : Int)) = True := eq_true (by omega)
        have hi2 : decide ((i : Int) < (n : Int)) = true := decide_eq_true (by omega)
        go_wp2
        go_loopg [7, 22] l.length (fun kq v7 v22 w'' => ∃ (j : Nat), v22 = .int .i64 (j : Int) ∧ j + kq = l.length ∧ v7 = .bool (decide ((i : Int) ∈ l.take j)) ∧ w'' = wr)
        case atStart => exact ⟨0, rfl, by omega, by simp, rfl⟩
        case round =>
          obtain ⟨j, rfl, hj, rfl, rfl⟩ := hrel
          by_cases hjl : j < l.length
          · obtain ⟨ad, e, hx⟩ := hread j hjl
            subst e
            have hx2 := (hBw.cell (World.block_lt_of_cell? w _ hx)).trans hx
            have hj1 : ((j : Int) < (l.length : Int)) = True := eq_true (by omega)
            have hj2 : decide ((j : Int) < (l.length : Int)) = true := decide_eq_true (by omega)
            have HWJ := Aside0.mk (wrap_succ j (by omega))
            by_cases hm : (i : Int) ∈ l.take j
            · have hmb : decide ((i : Int) ∈ l.take j) = true := decide_eq_true hm
              rw [hmb]
              go_wp2
              go_roundg (l.length - (j + 1))
              case measure => omega
              case rel =>
                refine ⟨j + 1, ?_, by omega, ?_, rfl⟩
                · first | exact congrArg (Value.int IntKind.i64) (by omega) | rw [HWJ.out] | rw [i64_w, HWJ.out]
                · rw [mem_take_succ _ _ _ hjl, hmb]; rfl
            · have hmb : decide ((i : Int) ∈ l.take j) = false := decide_eq_false hm
              rw [hmb]
              go_wp2
              go_roundg (l.length - (j + 1))
              case measure => omega
              case rel =>
                refine ⟨j + 1, ?_, by omega, ?_, rfl⟩
                · first | exact congrArg (Value.int IntKind.i64) (by omega) | rw [HWJ.out] | rw [i64_w, HWJ.out]
                · rw [mem_take_succ _ _ _ hjl, hmb]; first | rfl | simp
          · have hj1 : ((j : Int) < (l.length : Int)) = False := eq_false (by omega)
            have hj2 : decide ((j : Int) < (l.length : Int)) = false := decide_eq_false (by omega)
            rw [List.take_of_length_le (by omega)]
            have HWI := Aside0.mk (wrap_succ i (by omega))
            by_cases hm : (i : Int) ∈ l
            · have hmb : decide ((i : Int) ∈ l) = true := decide_eq_true hm
              rw [hmb]
              go_wp2
              go_roundg (n - (i + 1))
              case measure => omega
              case rel =>
                refine ⟨i + 1, rows, ?_, by omega, ?_, ?_, hBw⟩
                · first | exact congrArg (Value.int IntKind.i64) (by omega) | rw [HWI.out] | rw [i64_w, HWI.out]
                · rw [outTo_succ, if_pos hm, List.append_nil]; exact ho
                · rw [outTo_succ, if_pos hm, List.append_nil]; exact hR
            · have hmb : decide ((i : Int) ∈ l) = false := decide_eq_false hm
              rw [hmb]
              obtain ⟨i0, hi0, hz0, hz1, hz2⟩ := info_parts info3
              obtain ⟨i2, hi2', hy0, hy1, hy2⟩ := info_parts info22
              have hwz := hBw.size
              have hreadW : ∀ b, A = some b → ∀ (q : Nat) u, (l.map (Value.int .i64))[q]? = some u → (wr.alloc (.cells #[.int .i64 (i : Int)] 3)).cell? (b.add q) = some u := fun b hb q u hu => by
                have hq : q < l.length := by have := (List.getElem?_eq_some_iff.1 hu).1; simpa using this
                obtain ⟨ad, e, hx⟩ := hread q hq
                rw [hb] at e
                cases e
                have hx2 := ((below_alloc hBw (.cells #[.int .i64 (i : Int)] 3)).cell (World.block_lt_of_cell? w _ hx)).trans hx
                rw [hx2]
                rw [List.getElem?_map, List.getElem?_eq_getElem hq] at hu
                unfold rd
                rw [Int.toNat_natCast, List.getD_eq_getElem?_getD, List.getElem?_eq_getElem hq]
                exact hu
              have hnone2 : A = none → l.length = 0 ∧ l.length = 0 := fun h => ⟨(hnone h).1, (hnone h).1⟩
              go_wp2_with (first
                | (at_builtin; refine wpList_append_grows _ rfl _ _ 22 rfl 3 i0 (.int .i64 0) 1 8 Tryd.underlying22 hi0 hz0 hz1 hz2 rfl (by decide) A l.length l.length (l.map (Value.int .i64)) rfl hnone2 (by simp) hreadW ⟨wr.heap.size, 0, none⟩ 1 1 [.int .i64 (i : Int)] rfl rfl (cell_one_new _ _ _) (by simp [Value.oneCell']) (by omega) (by unfold maxLen; omega) (by omega) ?_; intro v1 w1 hown1 hg1; obtain ⟨g1, cap1, rfl⟩ := ownsRow_succ hown1))
              have hgz := hg1.size
              have hB1 : Below w.heap.size w w1 := (below_alloc hBw (.cells #[.int .i64 (i : Int)] 3)).grown hg1 (by simp; omega) (fun k e => by cases e)
              have hown1' : w1.ownsRow B 3 1 (.slice (some ⟨g1, 0, none⟩) (l ++ [(i : Int)]).length cap1) (l ++ [(i : Int)]).length ((l ++ [(i : Int)]).map (Value.int .i64)) := by
                have := ownsRow_mono hown1 (show B ≤ _ by simp; omega)
                simpa using this
              have IH := ih (l ++ [(i : Int)]) (some ⟨g1, 0, none⟩) cap1 B w1 (by simp; omega) (by have := hB1.size; omega) hown1'
              rw [show (l ++ [(i : Int)]).length = l.length + 1 by simp] at IH
              obtain ⟨x0, hx0⟩ := layF_mem n d (l ++ [(i : Int)]) (by simp; omega)
              obtain ⟨m2, hm2⟩ : ∃ m, (layF n d (l ++ [(i : Int)])).length = m + 1 := ⟨(layF n d (l ++ [(i : Int)])).length - 1, by have := List.length_pos_of_mem hx0; omega⟩
              have hml := layF_length n d (l ++ [(i : Int)])
              have hol := outTo_length n d l i (by omega)
              have hp1 := layF_small n d hn (by omega)
              have hp2 := layF_small n (d + 1) hn (by omega)
              have h77 : (7 : Nat) ^ 7 = 823543 := by rfl
              rw [h77] at hp1 hp2
              have hkm : (outTo n d l i).length + (m2 + 1) ≤ 1647086 := by omega
              have HKM := Aside0.mk hkm
              have HHB := Aside0.mk hB1
              have HM2 := Aside0.mk hm2
              clear hml hol hp1 hp2 h77 hkm hm2 hx0 x0
              refine IH.mono ?_
              rintro e w2 ⟨v2, rows2, rfl, ho2, hR2, hb2⟩
              rw [HM2.out] at ho2
              obtain ⟨g2, cap2, rfl⟩ := ownsRow_succ ho2
              have hB2 : Below w.heap.size w w2 := below_step hB1 hb2
              have ho1 : w1.ownsRow w.heap.size 22 1 u5 (outTo n d l i).length rows := (ho.alloc _).kept hg1 (by rcases ho.2 with ⟨rfl, _⟩ | ⟨g, c, cur, rfl, _⟩; exact .inl rfl; exact .inr (by simp [Value.ownBlock]))
              have ho3 : w2.ownsRow w.heap.size 22 1 u5 (outTo n d l i).length rows := ownsRow_below ho1 hb2
              have hR3 : Rows B w2 rows (outTo n d l i) := hR.imp fun v L h => ownsRow_below ((h.alloc _).kept hg1 (by rcases h.2 with ⟨rfl, _⟩ | ⟨g, c, cur, rfl, _⟩; exact .inl rfl; exact .inr (by simp [Value.ownBlock]))) hb2
              have hcells : ∀ (q : Nat) u, rows2[q]? = some u → w2.cell? ((⟨g2, 0, none⟩ : Addr).add q) = some u := ownsRow_cells ho2
              have hones : ∀ u ∈ rows2, u.oneCell' = true := fun u hu => by
                obtain ⟨q, hq, rfl⟩ := List.getElem_of_mem hu
                obtain ⟨v, h1, h2⟩ := hR2.2 q ((layF n d (l ++ [(i : Int)]))[q]'(by rw [← hR2.1]; exact hq)) (List.getElem?_eq_getElem _)
                rw [List.getElem?_eq_getElem hq] at h1
                cases h1
                exact ownsRow_one h2
              have hrl2 : rows2.length = (m2 + 1) * 1 := ho2.1
              have hz2 := hB2.size
              have hb63 : (outTo n d l i).length + (m2 + 1) ≤ maxLen := by have := HKM.out; unfold maxLen; omega
              have hb24 : ((outTo n d l i).length + (m2 + 1)) * 24 ≤ 140737488355328 := by have := HKM.out; omega
              dsimp only
              go_wp2_with (at_builtin; refine wpList_append_own_at _ rfl _ _ 88 rfl w.heap.size 22 i2 (.slice none 0 0) 1 24 Tryd.underlying88 hi2' hy0 hy1 hy2 rfl (by decide) u5 (outTo n d l i).length rows rfl ho3 ⟨g2, 0, none⟩ (m2 + 1) cap2 rows2 rfl hrl2 hcells hones hb63 hb24 hz2 ?_; intro v6 w3 ho6 hg6 _ _)
              go_roundg (n - (i + 1))
              case measure => omega
              case rel =>
                refine ⟨i + 1, rows ++ rows2, ?_, by omega, ?_, ?_, ?_⟩
                · first | exact congrArg (Value.int IntKind.i64) (by omega) | rw [HWI.out] | rw [i64_w, HWI.out]
                · rw [outTo_succ, if_neg hm, List.length_append, HM2.out]; exact ho6
                · rw [outTo_succ, if_neg hm]
                  exact (hR3.imp fun v L h => ownsRow_other h ho3 (by decide) hg6).append (hR2.imp fun v L h => ownsRow_other h ho3 (by decide) hg6)
                · refine hB2.grown hg6 hz2 fun k e => ?_
                  rcases ho3.2 with ⟨rfl, _⟩ | ⟨g, c, cur, rfl, hb, _⟩
                  · simp [Value.ownBlock] at e
                  · obtain rfl : g = k := by simpa [Value.ownBlock] using e
                    exact hb
      · have hi1 : ((i : Int) < (n : Int)) = False := eq_false (by omega)
        have hi2 : decide ((i : Int) < (n : Int)) = false := decide_eq_false (by omega)
        go_wp2
        go_ret
        have e : i = n := by omega
        subst e
        exact ⟨_, rows, rfl, ho, hR, hBw⟩
end Go.Proofs.YtijfddobandcdaaDoor.X
end
section
-- by ownprint.py (wip/tool), over the kit's print
namespace Go.Proofs.YtijfddobandcdaaDoor.X
open Go.RowKit Go.Proofs.YtijfddobandcdaaDoorW.PrintWords Go.Proofs.YtijfddobandcdaaDoorW.PrintLast Go.Proofs.YtijfddobandcdaaDoorW.PrintMore
attribute [local go_sem] max2_int min2_int max_two min_two max_three min_three max_four min_four
set_option linter.unusedVariables false
set_option linter.unusedSimpArgs false

/-! ### lampblackref02_Size: function 53 -/
def lampblackref02_Size.l0 : Nat → Int → Int → Option (Int)
  | 0, _, _ => none
  | k + 1, x0, x3 => if x0 > 0 then (lampblackref02_Size.l0 k (Go.bits .and .i64 x0 (wrap64 (x0 - 1))) (wrap64 (x3 + 1))) else (some x3)
def lampblackref02_Size.f (k : Nat) (a0 : Int) : Option (Int) := lampblackref02_Size.l0 k a0 0
theorem lampblackref02_Size.mono_l : ∀ k, (∀ y0 y1, LeO (lampblackref02_Size.l0 k y0 y1) (lampblackref02_Size.l0 (k + 1) y0 y1))
  | 0 => fun _ _ r h => by simp [lampblackref02_Size.l0] at h
  | k + 1 => by
    have ih0 := lampblackref02_Size.mono_l k
    · intro y0 y1
      unfold lampblackref02_Size.l0
      repeat' first
      | (with_reducible exact ih0 _ _)
      | (with_reducible exact LeO.refl _)
      | (with_reducible exact LeO.none _)
      | (with_reducible refine LeO.ite ?_ ?_)
      | (with_reducible refine LeO.bind ?_ (fun _ => ?_))
      | exact ih0 _ _
      | exact LeO.none _
      | refine LeO.ite ?_ ?_
      | refine LeO.bind ?_ (fun _ => ?_)
theorem lampblackref02_Size.mono : ∀ a0 k, LeO (lampblackref02_Size.f k a0) (lampblackref02_Size.f (k + 1) a0) := by
  intro a0 k
  have ih0 := lampblackref02_Size.mono_l k
  unfold lampblackref02_Size.f
  repeat' first
      | (with_reducible exact ih0 _ _)
      | (with_reducible exact LeO.refl _)
      | (with_reducible exact LeO.none _)
      | (with_reducible refine LeO.ite ?_ ?_)
      | (with_reducible refine LeO.bind ?_ (fun _ => ?_))
      | exact ih0 _ _
      | exact LeO.none _
      | refine LeO.ite ?_ ?_
      | refine LeO.bind ?_ (fun _ => ?_)
set_option maxHeartbeats 8000000 in
set_option maxRecDepth 100000 in
theorem lampblackref02_Size.calls (k : Nat) (a0 : Int) (r : Int) (w : World) (h : lampblackref02_Size.f k a0 = some r) :
    Calls Tryd.prog 53 #[.int .i64 a0] w fun e w' => e = .returned (.int .i64 r) ∧ Drawn0 w w' := by
  have H : (lampblackref02_Size.l0 k a0 0) = some r := h
  clear h
  have H' := Aside0.mk H
  clear H
  go_enter Tryd.func53, Tryd.ntmps53
  go_wp2
  go_loopg [0, 3] k (fun kq v0 v3 w' => ∃ (x0_1 : Int) (x3_1 : Int), v0 = .int .i64 x0_1 ∧ v3 = .int .i64 x3_1 ∧ Aside0 (lampblackref02_Size.l0 kq x0_1 x3_1 = some r) ∧ Aside0 (kq ≤ k) ∧ Drawn0 w w')
  case atStart => exact ⟨(a0), (0), (by first | rfl | (simp; done) | (simp [*]; done)), (by first | rfl | (simp; done) | (simp [*]; done)), H', ⟨Nat.le_refl _⟩, by repeat (first | exact Drawn0.refl _ | apply Drawn0.step)⟩
  case round =>
    clear H'
    obtain ⟨x0_1, x3_1, rfl, rfl, HA, HK1, ⟨m1, rfl⟩⟩ := hrel
    cases gk with
    | zero => exact absurd HA.out (by simp [lampblackref02_Size.l0])
    | succ k1 =>
      have H := HA.out
      clear HA
      simp only [lampblackref02_Size.l0] at H
      by_cases c2 : x0_1 > 0
      · rw [if_pos c2] at H
        have c2b0 : decide (0 < x0_1) = true := decide_eq_true c2
        clear c2
        have H' := Aside0.mk H
        clear H
        go_wp2
        go_roundg k1
        case measure => have := HK1.out; omega
        case rel => exact ⟨(Go.bits .and .i64 x0_1 (wrap64 (x0_1 - 1))), (wrap64 (x3_1 + 1)), (by first | rfl | (simp; done) | (simp [*]; done)), (by first | rfl | (simp; done) | (simp [*]; done)), H', ⟨by have := HK1.out; omega⟩, by repeat (first | exact Drawn0.refl _ | apply Drawn0.step)⟩
      · rw [if_neg c2] at H
        have c2b0 : decide (0 < x0_1) = false := decide_eq_false c2
        clear c2
        obtain rfl := Option.some.inj H
        go_wp2
        go_ret
        exact ⟨by first | rfl | (simp; done) | (simp [*]; done), by repeat (first | exact Drawn0.refl _ | apply Drawn0.step)⟩

end Go.Proofs.YtijfddobandcdaaDoor.X
end
section
-- by ownprint.py (wip/tool), over the kit's print
namespace Go.Proofs.YtijfddobandcdaaDoor.X
open Go.RowKit Go.Proofs.YtijfddobandcdaaDoorW.PrintWords Go.Proofs.YtijfddobandcdaaDoorW.PrintLast Go.Proofs.YtijfddobandcdaaDoorW.PrintMore
attribute [local go_sem] max2_int min2_int max_two min_two max_three min_three max_four min_four
set_option linter.unusedVariables false
set_option linter.unusedSimpArgs false

/-! ### lampblackref03_Border: function 59 -/
def lampblackref03_Border.l0 : Nat → List Int → Int → Int → Int → Int → Option (Int)
  | 0, _, _, _, _, _ => none
  | k + 1, x0, x1, x5, x8, x9 => if x9 < x8 then (if 0 ≤ x9 then (if (Go.bits .and .i64 (shr .i64 x1 x9) 1) = 1 then (if x9 < (x0.length : Int) then (if (Go.bits .andNot .i64 (rd x0 x9) x1) = 0 then (lampblackref03_Border.l0 k x0 x1 x5 x8 (wrap64 (x9 + 1))) else (lampblackref03_Border.l0 k x0 x1 (Go.bits .or .i64 x5 (shl .i64 1 x9)) x8 (wrap64 (x9 + 1)))) else (none)) else (lampblackref03_Border.l0 k x0 x1 x5 x8 (wrap64 (x9 + 1)))) else (none)) else (some x5)
def lampblackref03_Border.f (k : Nat) (l0 : List Int) (a1 : Int) : Option (Int) := lampblackref03_Border.l0 k l0 a1 0 (l0.length : Int) 0
theorem lampblackref03_Border.mono_l : ∀ k, (∀ y0 y1 y2 y3 y4, LeO (lampblackref03_Border.l0 k y0 y1 y2 y3 y4) (lampblackref03_Border.l0 (k + 1) y0 y1 y2 y3 y4))
  | 0 => fun _ _ _ _ _ r h => by simp [lampblackref03_Border.l0] at h
  | k + 1 => by
    have ih0 := lampblackref03_Border.mono_l k
    · intro y0 y1 y2 y3 y4
      unfold lampblackref03_Border.l0
      repeat' first
      | (with_reducible exact ih0 _ _ _ _ _)
      | (with_reducible exact LeO.refl _)
      | (with_reducible exact LeO.none _)
      | (with_reducible refine LeO.ite ?_ ?_)
      | (with_reducible refine LeO.bind ?_ (fun _ => ?_))
      | exact ih0 _ _ _ _ _
      | exact LeO.none _
      | refine LeO.ite ?_ ?_
      | refine LeO.bind ?_ (fun _ => ?_)
theorem lampblackref03_Border.mono : ∀ a0 a1 k, LeO (lampblackref03_Border.f k a0 a1) (lampblackref03_Border.f (k + 1) a0 a1) := by
  intro a0 a1 k
  have ih0 := lampblackref03_Border.mono_l k
  unfold lampblackref03_Border.f
  repeat' first
      | (with_reducible exact ih0 _ _ _ _ _)
      | (with_reducible exact LeO.refl _)
      | (with_reducible exact LeO.none _)
      | (with_reducible refine LeO.ite ?_ ?_)
      | (with_reducible refine LeO.bind ?_ (fun _ => ?_))
      | exact ih0 _ _ _ _ _
      | exact LeO.none _
      | refine LeO.ite ?_ ?_
      | refine LeO.bind ?_ (fun _ => ?_)
set_option maxHeartbeats 8000000 in
set_option maxRecDepth 100000 in
theorem lampblackref03_Border.calls (k : Nat) (A0 : Option Addr) (c0 : Nat) (l0 : List Int) (a1 : Int) (r : Int) (w : World) (hr0 : Kd.C (Kd.int .i64) w A0 l0.length l0) (hc0 : l0.length ≤ c0) (h : lampblackref03_Border.f k l0 a1 = some r) :
    Calls Tryd.prog 59 #[.slice A0 l0.length c0, .int .i64 a1] w fun e w' => e = .returned (.int .i64 r) ∧ Drawn0 w w' := by
  have HR0 := Aside0.mk hr0
  have HC0 := Aside0.mk hc0
  clear hr0 hc0
  have H : (lampblackref03_Border.l0 k l0 a1 0 (l0.length : Int) 0) = some r := h
  clear h
  have H' := Aside0.mk H
  clear H
  go_enter Tryd.func59, Tryd.ntmps59
  go_wp2
  go_loopg [5, 9] k (fun kq v5 v9 w' => ∃ (x5_1 : Int) (x9_1 : Int), v5 = .int .i64 x5_1 ∧ v9 = .int .i64 x9_1 ∧ Aside0 (lampblackref03_Border.l0 kq l0 a1 x5_1 (l0.length : Int) x9_1 = some r) ∧ Aside0 (kq ≤ k) ∧ Drawn0 w w')
  case atStart => exact ⟨(0), (0), (by first | rfl | (simp; done) | (simp [*]; done)), (by first | rfl | (simp; done) | (simp [*]; done)), H', ⟨Nat.le_refl _⟩, by repeat (first | exact Drawn0.refl _ | apply Drawn0.step)⟩
  case round =>
    clear H'
    try clear p2
    obtain ⟨x5_1, x9_1, rfl, rfl, HA, HK1, ⟨m1, rfl⟩⟩ := hrel
    cases gk with
    | zero => exact absurd HA.out (by simp [lampblackref03_Border.l0])
    | succ k1 =>
      have H := HA.out
      clear HA
      simp only [lampblackref03_Border.l0] at H
      by_cases c3 : x9_1 < (l0.length : Int)
      · rw [if_pos c3] at H
        have c3b0 : decide (x9_1 < (l0.length : Int)) = true := decide_eq_true c3
        clear c3
        by_cases c4 : 0 ≤ x9_1
        · rw [if_pos c4] at H
          have c4b0 := eq_true c4
          have c4b1 : decide (0 ≤ x9_1) = true := decide_eq_true c4
          clear c4
          obtain ⟨ji5, hji5⟩ : ∃ j_ : Int, (shr .i64 a1 x9_1) = j_ := ⟨_, rfl⟩
          replace H : (if (Go.bits .and .i64 (ji5) 1) = 1 then (if x9_1 < (l0.length : Int) then (if (Go.bits .andNot .i64 (rd l0 x9_1) a1) = 0 then (lampblackref03_Border.l0 k1 l0 a1 x5_1 (l0.length : Int) (wrap64 (x9_1 + 1))) else (lampblackref03_Border.l0 k1 l0 a1 (Go.bits .or .i64 x5_1 (shl .i64 1 x9_1)) (l0.length : Int) (wrap64 (x9_1 + 1)))) else (none)) else (lampblackref03_Border.l0 k1 l0 a1 x5_1 (l0.length : Int) (wrap64 (x9_1 + 1)))) = some r := by first | (rw [hji5] at H; exact H) | (simp only [hji5] at H ⊢; exact H)
          have hji5_ : (a1 / 2 ^ min x9_1.toNat 64) = ji5 := hji5
          have hji5z : x9_1 ≤ 64 → (a1 / 2 ^ x9_1.toNat) = ji5 := shr_small hji5
          by_cases c6 : (Go.bits .and .i64 (ji5) 1) = 1
          · rw [if_pos c6] at H
            have c6b0 : ((Go.bits .and .i64 (ji5) 1) == 1) = true := beq_iff_eq.mpr c6
            have c6b1 : ((Go.bits .and .i64 (ji5) 1) != 1) = false := bne_eq_false_iff_eq.mpr c6
            clear c6
            by_cases c7 : x9_1 < (l0.length : Int)
            · rw [if_pos c7] at H
              have c7b0 : decide (x9_1 < (l0.length : Int)) = true := decide_eq_true c7
              clear c7
              by_cases c8 : (Go.bits .andNot .i64 (rd l0 x9_1) a1) = 0
              · rw [if_pos c8] at H
                have c8b0 : ((Go.bits .andNot .i64 (rd l0 x9_1) a1) == 0) = true := beq_iff_eq.mpr c8
                have c8b1 : ((Go.bits .andNot .i64 (rd l0 x9_1) a1) != 0) = false := bne_eq_false_iff_eq.mpr c8
                clear c8
                have H' := Aside0.mk H
                clear H
                have p136 : 0 ≤ (x9_1 : Int) := of_decide_eq_true (by first | (with_reducible assumption) | assumption)
                have q136 : x9_1 < (l0.length : Int) := of_decide_eq_true (by first | (with_reducible assumption) | assumption)
                obtain ⟨ad136, e136, hx136_0⟩ := Kd.at_int HR0.out x9_1 p136 q136
                cases e136
                replace p136 := eq_true p136
                replace q136 := eq_true q136
                go_wp2
                go_roundg k1
                case measure => have := HK1.out; omega
                case rel => exact ⟨(x5_1), (wrap64 (x9_1 + 1)), (by first | rfl | (simp; done) | (simp [*]; done)), (by first | rfl | (simp; done) | (simp [*]; done)), H', ⟨by have := HK1.out; omega⟩, by repeat (first | exact Drawn0.refl _ | apply Drawn0.step)⟩
              · rw [if_neg c8] at H
                have c8b0 : ((Go.bits .andNot .i64 (rd l0 x9_1) a1) == 0) = false := beq_eq_false_iff_ne.mpr c8
                have c8b1 : ((Go.bits .andNot .i64 (rd l0 x9_1) a1) != 0) = true := bne_iff_ne.mpr c8
                have c9b0 := eq_true (of_decide_eq_true (by first | (with_reducible assumption) | assumption) : 0 ≤ x9_1)
                obtain ⟨ji10, hji10⟩ : ∃ j_ : Int, (shl .i64 1 x9_1) = j_ := ⟨_, rfl⟩
                replace H : (lampblackref03_Border.l0 k1 l0 a1 (Go.bits .or .i64 x5_1 (ji10)) (l0.length : Int) (wrap64 (x9_1 + 1))) = some r := by first | (rw [hji10] at H; exact H) | (simp only [hji10] at H ⊢; exact H)
                have hji10_ : (IntKind.i64.wrap (1 * 2 ^ min x9_1.toNat 64)) = ji10 := hji10
                have hji10z : x9_1 ≤ 64 → (IntKind.i64.wrap (1 * 2 ^ x9_1.toNat)) = ji10 := shl_small hji10
                have hji10u : (IntKind.i64.wrap (2 ^ min x9_1.toNat 64)) = ji10 := by have h_ := hji10_; rw [Int.one_mul] at h_; exact h_
                have hji10v : x9_1 ≤ 64 → (IntKind.i64.wrap (2 ^ x9_1.toNat)) = ji10 := fun hle_ => by have h_ := hji10z hle_; rw [Int.one_mul] at h_; exact h_
                have hji10y : (wrap64 (1 * 2 ^ min x9_1.toNat 64)) = ji10 := (i64_w _).symm.trans hji10_
                have hji10x : x9_1 ≤ 64 → (wrap64 (1 * 2 ^ x9_1.toNat)) = ji10 := fun h_ => (i64_w _).symm.trans (hji10z h_)
                have H' := Aside0.mk H
                clear H
                have p136 : 0 ≤ (x9_1 : Int) := of_decide_eq_true (by first | (with_reducible assumption) | assumption)
                have q136 : x9_1 < (l0.length : Int) := of_decide_eq_true (by first | (with_reducible assumption) | assumption)
                obtain ⟨ad136, e136, hx136_0⟩ := Kd.at_int HR0.out x9_1 p136 q136
                cases e136
                replace p136 := eq_true p136
                replace q136 := eq_true q136
                go_wp2
                go_roundg k1
                case measure => have := HK1.out; omega
                case rel => exact ⟨(Go.bits .or .i64 x5_1 (ji10)), (wrap64 (x9_1 + 1)), (by first | rfl | (simp; done) | (simp only [← hji10] <;> (first | rfl | simp)) | (simp [*]; done)), (by first | rfl | (simp; done) | (simp [*]; done)), H', ⟨by have := HK1.out; omega⟩, by repeat (first | exact Drawn0.refl _ | apply Drawn0.step)⟩
            · rw [if_neg c7] at H
              exact absurd H (by simp)
          · rw [if_neg c6] at H
            have c6b0 : ((Go.bits .and .i64 (ji5) 1) == 1) = false := beq_eq_false_iff_ne.mpr c6
            have c6b1 : ((Go.bits .and .i64 (ji5) 1) != 1) = true := bne_iff_ne.mpr c6
            have H' := Aside0.mk H
            clear H
            go_wp2
            go_roundg k1
            case measure => have := HK1.out; omega
            case rel => exact ⟨(x5_1), (wrap64 (x9_1 + 1)), (by first | rfl | (simp; done) | (simp [*]; done)), (by first | rfl | (simp; done) | (simp [*]; done)), H', ⟨by have := HK1.out; omega⟩, by repeat (first | exact Drawn0.refl _ | apply Drawn0.step)⟩
        · rw [if_neg c4] at H
          exact absurd H (by simp)
      · rw [if_neg c3] at H
        have c3b0 : decide (x9_1 < (l0.length : Int)) = false := decide_eq_false c3
        clear c3
        obtain rfl := Option.some.inj H
        go_wp2
        go_ret
        exact ⟨by first | rfl | (simp; done) | (simp [*]; done), by repeat (first | exact Drawn0.refl _ | apply Drawn0.step)⟩

end Go.Proofs.YtijfddobandcdaaDoor.X
end
section
-- by ownprint.py (wip/tool), over the kit's print
namespace Go.Proofs.YtijfddobandcdaaDoor.X
open Go.RowKit Go.Proofs.YtijfddobandcdaaDoorW.PrintWords Go.Proofs.YtijfddobandcdaaDoorW.PrintLast Go.Proofs.YtijfddobandcdaaDoorW.PrintMore
attribute [local go_sem] max2_int min2_int max_two min_two max_three min_three max_four min_four
set_option linter.unusedVariables false
set_option linter.unusedSimpArgs false

/-! ### lampblackref03_Breadth: function 31 -/
def lampblackref03_Breadth.l0 : Nat → List Int → Int → Int → List Int → Int → Int → Option (Int)
  | 0, _, _, _, _, _, _ => none
  | k + 1, x0, x5, x6, x9, x10, x11 => if x11 < x10 then (if 0 ≤ x11 then (if x11 < (x9.length : Int) then (if 0 ≤ (rd x9 x11) then ((lampblackref03_Border.f k x0 (Go.bits .or .i64 x6 (shl .i64 1 (rd x9 x11)))).bind fun t138 => ((lampblackref02_Size.f k t138).bind fun t139 => (lampblackref03_Breadth.l0 k x0 (mx x5 t139) (Go.bits .or .i64 x6 (shl .i64 1 (rd x9 x11))) x9 x10 (wrap64 (x11 + 1))))) else (none)) else (none)) else (none)) else (some x5)
def lampblackref03_Breadth.f (k : Nat) (l0 : List Int) (l1 : List Int) : Option (Int) := lampblackref03_Breadth.l0 k l0 0 0 l1 (l1.length : Int) 0
theorem lampblackref03_Breadth.mono_l : ∀ k, (∀ y0 y1 y2 y3 y4 y5, LeO (lampblackref03_Breadth.l0 k y0 y1 y2 y3 y4 y5) (lampblackref03_Breadth.l0 (k + 1) y0 y1 y2 y3 y4 y5))
  | 0 => fun _ _ _ _ _ _ r h => by simp [lampblackref03_Breadth.l0] at h
  | k + 1 => by
    have ih0 := lampblackref03_Breadth.mono_l k
    · intro y0 y1 y2 y3 y4 y5
      unfold lampblackref03_Breadth.l0
      repeat' first
      | (with_reducible exact ih0 _ _ _ _ _ _)
      | (with_reducible exact lampblackref02_Size.mono _ _)
      | (with_reducible exact lampblackref03_Border.mono _ _ _)
      | (with_reducible exact LeO.refl _)
      | (with_reducible exact LeO.none _)
      | (with_reducible refine LeO.ite ?_ ?_)
      | (with_reducible refine LeO.bind ?_ (fun _ => ?_))
      | exact ih0 _ _ _ _ _ _
      | exact lampblackref02_Size.mono _ _
      | exact lampblackref03_Border.mono _ _ _
      | exact LeO.none _
      | refine LeO.ite ?_ ?_
      | refine LeO.bind ?_ (fun _ => ?_)
theorem lampblackref03_Breadth.mono : ∀ a0 a1 k, LeO (lampblackref03_Breadth.f k a0 a1) (lampblackref03_Breadth.f (k + 1) a0 a1) := by
  intro a0 a1 k
  have ih0 := lampblackref03_Breadth.mono_l k
  unfold lampblackref03_Breadth.f
  repeat' first
      | (with_reducible exact ih0 _ _ _ _ _ _)
      | (with_reducible exact lampblackref02_Size.mono _ _)
      | (with_reducible exact lampblackref03_Border.mono _ _ _)
      | (with_reducible exact LeO.refl _)
      | (with_reducible exact LeO.none _)
      | (with_reducible refine LeO.ite ?_ ?_)
      | (with_reducible refine LeO.bind ?_ (fun _ => ?_))
      | exact ih0 _ _ _ _ _ _
      | exact lampblackref02_Size.mono _ _
      | exact lampblackref03_Border.mono _ _ _
      | exact LeO.none _
      | refine LeO.ite ?_ ?_
      | refine LeO.bind ?_ (fun _ => ?_)
set_option maxHeartbeats 8000000 in
set_option maxRecDepth 100000 in
theorem lampblackref03_Breadth.calls (k : Nat) (A0 : Option Addr) (c0 : Nat) (l0 : List Int) (A1 : Option Addr) (c1 : Nat) (l1 : List Int) (r : Int) (w : World) (hr0 : Kd.C (Kd.int .i64) w A0 l0.length l0) (hc0 : l0.length ≤ c0) (hr1 : Kd.C (Kd.int .i64) w A1 l1.length l1) (hc1 : l1.length ≤ c1) (h : lampblackref03_Breadth.f k l0 l1 = some r) :
    Calls Tryd.prog 31 #[.slice A0 l0.length c0, .slice A1 l1.length c1] w fun e w' => e = .returned (.int .i64 r) ∧ Below w.heap.size w w' := by
  have HR0 := Aside0.mk hr0
  have HC0 := Aside0.mk hc0
  clear hr0 hc0
  have HR1 := Aside0.mk hr1
  have HC1 := Aside0.mk hc1
  clear hr1 hc1
  have HB := Aside0.mk (Below.refl w.heap.size w)
  have H : (lampblackref03_Breadth.l0 k l0 0 0 l1 (l1.length : Int) 0) = some r := h
  clear h
  have H' := Aside0.mk H
  clear H
  go_enter Tryd.func31, Tryd.ntmps31
  go_wp2
  go_loopg [5, 6, 11] k (fun kq v5 v6 v11 w' => ∃ (x5_1 : Int) (x6_1 : Int) (x11_1 : Int), v5 = .int .i64 x5_1 ∧ v6 = .int .i64 x6_1 ∧ v11 = .int .i64 x11_1 ∧ Aside0 (lampblackref03_Breadth.l0 kq l0 x5_1 x6_1 l1 (l1.length : Int) x11_1 = some r) ∧ Aside0 (kq ≤ k) ∧ Aside0 (Below w.heap.size w w'))
  case atStart => exact ⟨(0), (0), (0), (by first | rfl | (simp; done) | (simp [*]; done)), (by first | rfl | (simp; done) | (simp [*]; done)), (by first | rfl | (simp; done) | (simp [*]; done)), H', ⟨Nat.le_refl _⟩, ⟨by repeat (first | (with_reducible first | exact HB.out | apply below_alloc | apply pw_below_drewN | apply below_drew1) | exact HB.out)⟩⟩
  case round =>
    clear H'
    try clear c1
    try clear p2
    obtain ⟨x5_1, x6_1, x11_1, rfl, rfl, rfl, HA, HK1, HB⟩ := hrel
    cases gk with
    | zero => exact absurd HA.out (by simp [lampblackref03_Breadth.l0])
    | succ k1 =>
      have H := HA.out
      clear HA
      simp only [lampblackref03_Breadth.l0] at H
      by_cases c3 : x11_1 < (l1.length : Int)
      · rw [if_pos c3] at H
        have c3b0 : decide (x11_1 < (l1.length : Int)) = true := decide_eq_true c3
        clear c3
        by_cases c4 : 0 ≤ x11_1
        · rw [if_pos c4] at H
          have c4b0 : decide (0 ≤ x11_1) = true := decide_eq_true c4
          clear c4
          by_cases c5 : x11_1 < (l1.length : Int)
          · rw [if_pos c5] at H
            have c5b0 : decide (x11_1 < (l1.length : Int)) = true := decide_eq_true c5
            clear c5
            by_cases c6 : 0 ≤ (rd l1 x11_1)
            · rw [if_pos c6] at H
              have c6b0 := eq_true c6
              have c6b1 : decide (0 ≤ (rd l1 x11_1)) = true := decide_eq_true c6
              clear c6
              obtain ⟨ji7, hji7⟩ : ∃ j_ : Int, (shl .i64 1 (rd l1 x11_1)) = j_ := ⟨_, rfl⟩
              replace H : ((lampblackref03_Border.f k1 l0 (Go.bits .or .i64 x6_1 (ji7))).bind fun t138 => ((lampblackref02_Size.f k1 t138).bind fun t139 => (lampblackref03_Breadth.l0 k1 l0 (mx x5_1 t139) (Go.bits .or .i64 x6_1 (ji7)) l1 (l1.length : Int) (wrap64 (x11_1 + 1))))) = some r := by first | (rw [hji7] at H; exact H) | (simp only [hji7] at H ⊢; exact H)
              have hji7_ : (IntKind.i64.wrap (1 * 2 ^ min (rd l1 x11_1).toNat 64)) = ji7 := hji7
              have hji7z : (rd l1 x11_1) ≤ 64 → (IntKind.i64.wrap (1 * 2 ^ (rd l1 x11_1).toNat)) = ji7 := shl_small hji7
              have hji7u : (IntKind.i64.wrap (2 ^ min (rd l1 x11_1).toNat 64)) = ji7 := by have h_ := hji7_; rw [Int.one_mul] at h_; exact h_
              have hji7v : (rd l1 x11_1) ≤ 64 → (IntKind.i64.wrap (2 ^ (rd l1 x11_1).toNat)) = ji7 := fun hle_ => by have h_ := hji7z hle_; rw [Int.one_mul] at h_; exact h_
              have hji7y : (wrap64 (1 * 2 ^ min (rd l1 x11_1).toNat 64)) = ji7 := (i64_w _).symm.trans hji7_
              have hji7x : (rd l1 x11_1) ≤ 64 → (wrap64 (1 * 2 ^ (rd l1 x11_1).toNat)) = ji7 := fun h_ => (i64_w _).symm.trans (hji7z h_)
              replace H := Option.bind_eq_some_iff.mp H
              obtain ⟨t138, A80, H⟩ := H
              replace H : ((lampblackref02_Size.f k1 t138).bind fun t139 => (lampblackref03_Breadth.l0 k1 l0 (mx x5_1 t139) (Go.bits .or .i64 x6_1 (ji7)) l1 (l1.length : Int) (wrap64 (x11_1 + 1)))) = some r := H
              have A8 := Aside0.mk A80
              clear A80
              replace H := Option.bind_eq_some_iff.mp H
              obtain ⟨t139, A90, H⟩ := H
              replace H : (lampblackref03_Breadth.l0 k1 l0 (mx x5_1 t139) (Go.bits .or .i64 x6_1 (ji7)) l1 (l1.length : Int) (wrap64 (x11_1 + 1))) = some r := H
              have A9 := Aside0.mk A90
              clear A90
              obtain ⟨ji10, hji10⟩ : ∃ j_ : Int, (mx x5_1 t139) = j_ := ⟨_, rfl⟩
              replace H : (lampblackref03_Breadth.l0 k1 l0 ji10 (Go.bits .or .i64 x6_1 (ji7)) l1 (l1.length : Int) (wrap64 (x11_1 + 1))) = some r := by first | (rw [hji10] at H; exact H) | (simp only [hji10] at H ⊢; exact H)
              (try rw [hji10] at A8)
              (try rw [hji10] at A9)
              have hji10_ : (if x5_1 < t139 then t139 else x5_1) = ji10 := hji10
              have H' := Aside0.mk H
              clear H
              have p137 : 0 ≤ (x11_1 : Int) := of_decide_eq_true (by first | (with_reducible assumption) | assumption)
              have q137 : x11_1 < (l1.length : Int) := of_decide_eq_true (by first | (with_reducible assumption) | assumption)
              obtain ⟨ad137, e137, hx137_0⟩ := Kd.at_int HR1.out x11_1 p137 q137
              cases e137
              replace hx137_0 := (HB.out.cell (World.block_lt_of_cell? w _ hx137_0)).trans hx137_0
              replace p137 := eq_true p137
              replace q137 := eq_true q137
              go_wp2_with (first | ((with_reducible refine gate_callee (f := 59) rfl ?_); refine goesL_ (some 22) rfl rfl Tryd.func59 (by kernel_rfl) rfl #[.slice A0 l0.length c0, .int .i64 (Go.bits .or .i64 x6_1 (ji7))] rfl (by (try simp only [List.map_toArray, List.map_cons, List.map_nil]); first | done | (simp only [hji7]; rfl) | rfl | (simp only [List.length_drop, List.length_take]; rfl)) ?_; (with_reducible refine (lampblackref03_Border.calls k1 _ _ l0 (Go.bits .or .i64 x6_1 (ji7)) t138 _ ?side1 ?side2 A8.out).mono ?_); (case side1 => repeat (first | exact (Kd.C_below HR0.out HB.out) | (with_reducible refine Kd.C_alloc ?_ _) | (with_reducible refine Kd.C_drewN ?_ _) | (with_reducible refine Kd.C_drew ?_))); (case side2 => exact HC0.out); rintro e w' ⟨rfl, ⟨nd, rfl⟩⟩; refine ⟨_, rfl, ?_⟩) | ((with_reducible refine gate_callee (f := 53) rfl ?_); refine goesL_ (some 23) rfl rfl Tryd.func53 (by kernel_rfl) rfl #[.int .i64 t138] rfl (by (try simp only [List.map_toArray, List.map_cons, List.map_nil]); first | done | rfl | (simp only [List.length_drop, List.length_take]; rfl)) ?_; (with_reducible refine (lampblackref02_Size.calls k1 t138 t139 _ A9.out).mono ?_); rintro e w' ⟨rfl, ⟨nd, rfl⟩⟩; refine ⟨_, rfl, ?_⟩))
              go_roundg k1
              case measure => have := HK1.out; omega
              case rel => exact ⟨(ji10), (Go.bits .or .i64 x6_1 (ji7)), (wrap64 (x11_1 + 1)), (by first | rfl | (simp; done) | (simp only [← hji10] <;> (first | rfl | simp)) | (simp [*]; done)), (by first | rfl | (simp; done) | (simp only [← hji7] <;> (first | rfl | simp)) | (simp [*]; done)), (by first | rfl | (simp; done) | (simp [*]; done)), H', ⟨by have := HK1.out; omega⟩, ⟨by repeat (first | (with_reducible first | exact HB.out | apply below_alloc | apply pw_below_drewN | apply below_drew1) | exact HB.out)⟩⟩
            · rw [if_neg c6] at H
              exact absurd H (by simp)
          · rw [if_neg c5] at H
            exact absurd H (by simp)
        · rw [if_neg c4] at H
          exact absurd H (by simp)
      · rw [if_neg c3] at H
        have c3b0 : decide (x11_1 < (l1.length : Int)) = false := decide_eq_false c3
        clear c3
        obtain rfl := Option.some.inj H
        go_wp2
        go_ret
        exact ⟨by first | rfl | (simp [errW_none, errW_some] <;> rfl) | (simp [*, errW_none, errW_some] <;> rfl), by repeat (first | (with_reducible first | exact HB.out | apply below_alloc | apply pw_below_drewN | apply below_drew1) | exact HB.out)⟩

end Go.Proofs.YtijfddobandcdaaDoor.X
end
section
/- lampblackref03.Layout, by hand: the first of all orders with the least breadth. -/
namespace Go.Proofs.YtijfddobandcdaaDoor.X
open Go.RowKit Go.Proofs.YtijfddobandcdaaDoorW.PrintWords Go.Proofs.YtijfddobandcdaaDoorW.PrintLast Go.Proofs.YtijfddobandcdaaDoorW.PrintMore Go.Proofs.YtijfddobandcdaaDoor.T
attribute [local go_sem] max2_int min2_int max_two min_two max_three min_three max_four min_four
set_option linter.unusedVariables false
set_option linter.unusedSimpArgs false

def bestOf (k : Nat) (g : List Int) : List (List Int) → List Int → Int → Option (List Int × Int)
  | [], best, least => some (best, least)
  | l :: Ls, best, least => (lampblackref03_Breadth.f k g l).bind fun b => if b < least then bestOf k g Ls l b else bestOf k g Ls best least
def lampblackref03_Layout.f (k : Nat) (l0 : List Int) : Option (List Int × Int) := if l0.length ≤ 7 then bestOf k l0 (layF l0.length l0.length []) [] 99 else none
theorem bestOf_mono (k : Nat) (g : List Int) : ∀ (Ls : List (List Int)) (best : List Int) (least : Int), LeO (bestOf k g Ls best least) (bestOf (k + 1) g Ls best least)
  | [], _, _ => LeO.refl _
  | l :: Ls, best, least => LeO.bind (lampblackref03_Breadth.mono g l k) fun b => LeO.ite (bestOf_mono k g Ls l b) (bestOf_mono k g Ls best least)
theorem lampblackref03_Layout.mono : ∀ (l0 : List Int) k, LeO (lampblackref03_Layout.f k l0) (lampblackref03_Layout.f (k + 1) l0) := fun l0 k => LeO.ite (bestOf_mono k l0 _ _ _) (LeO.none _)
theorem ownsRow_form {W : World} {base : Nat} {e : TypeId} {size : Nat} {v : Value} {k : Nat} {xs : List Value} (h : W.ownsRow base e size v k xs) : ∃ A cap, v = .slice A k cap := by
  rcases h.2 with ⟨rfl, rfl⟩ | ⟨g, cap, cur, rfl, _⟩
  · exact ⟨none, 0, rfl⟩
  · exact ⟨_, cap, rfl⟩
theorem C_of_row {W : World} {base : Nat} {A : Option Addr} {cap : Nat} {l : List Int} (h : W.ownsRow base 3 1 (.slice A l.length cap) l.length (l.map (Value.int .i64))) : l.length ≤ cap ∧ Kd.C (Kd.int .i64) W A l.length l :=
  (Kd.R_reads' (Kd.R_of_own (ok := fun _ => True) h (fun _ _ => trivial))).2

set_option maxHeartbeats 2000000 in
set_option maxRecDepth 100000 in
theorem lampblackref03_Layout.calls (k : Nat) (A0 : Option Addr) (c0 : Nat) (l0 : List Int) (r1 : List Int) (r2 : Int) (w : World) (hr0 : Kd.C (Kd.int .i64) w A0 l0.length l0) (hc0 : l0.length ≤ c0) (h : lampblackref03_Layout.f k l0 = some (r1, r2)) :
    Calls Tryd.prog 28 #[.slice A0 l0.length c0] w fun e w' => ∃ v0_ : Value, e = .returned (.tuple #[v0_, .int .i64 r2]) ∧ Kd.R (Kd.int .i64) 3 w' w.heap.size (fun _ => True) v0_ r1 ∧ Below w.heap.size w w' := by
  unfold lampblackref03_Layout.f at h
  by_cases hn : l0.length ≤ 7
  · rw [if_pos hn] at h
    have HF := Aside0.mk h
    have HR := Aside0.mk hr0
    clear h hr0
    have hcall := layouts_calls l0.length hn l0.length [] none 0 w.heap.size w (by simp) (Nat.le_refl _) (World.ownsRow_nil _ _ _ _)
    obtain ⟨x0, hx0⟩ := layF_mem l0.length l0.length [] (by simp)
    obtain ⟨m, hm⟩ : ∃ m, (layF l0.length l0.length []).length = m + 1 := ⟨(layF l0.length l0.length []).length - 1, by have := List.length_pos_of_mem hx0; omega⟩
    have hml := Nat.le_trans (layF_length l0.length l0.length []) (layF_small l0.length l0.length hn hn)
    generalize layF l0.length l0.length [] = Ls at HF hcall hm hml
    have h77 : (7 : Nat) ^ 7 = 823543 := by rfl
    rw [hm, h77] at hml
    have HM := Aside0.mk hml
    have HL := Aside0.mk hm
    clear hml hm h77 hx0 x0
    go_enter Tryd.func28, Tryd.ntmps28
    go_wp2_with (go_at_call 58; refine hcall.mono ?_; rintro e w2 ⟨v, rows, rfl, ho, hR, hB2⟩; rw [HL.out] at ho; obtain ⟨g2, cap2, rfl⟩ := ownsRow_succ ho)
    go_loopg [4, 5, 13] (m + 1) (fun kq v4 v5 v13 w' => ∃ (i : Nat) (best : List Int) (least : Int), v13 = .int .i64 (i : Int) ∧ i + kq = m + 1 ∧ v5 = .int .i64 least ∧ w'.ownsRow w.heap.size 3 1 v4 best.length (best.map (Value.int .i64)) ∧ Aside0 (bestOf k l0 (Ls.drop i) best least = some (r1, r2)) ∧ Below w2.heap.size w2 w')
    case atStart => exact ⟨0, [], 99, rfl, by omega, rfl, World.ownsRow_nil _ _ _ _, ⟨by rw [List.drop_zero]; exact HF.out⟩, Below.refl _ _⟩
    case round =>
      obtain ⟨i, best, least, rfl, hi, rfl, hob, HF2, hBw⟩ := hrel
      by_cases him : i < m + 1
      · have hi1 : ((i : Int) < ((m : Int) + 1)) = True := eq_true (by omega)
        have hi2 : decide ((i : Int) < ((m : Int) + 1)) = true := decide_eq_true (by omega)
        have hi3 : ((i : Int) < ((m + 1 : Nat) : Int)) = True := eq_true (by omega)
        have hi4 : decide ((i : Int) < ((m + 1 : Nat) : Int)) = true := decide_eq_true (by omega)
        have hil : i < Ls.length := by rw [HL.out]; exact him
        obtain ⟨v, hv, hov⟩ := hR.2 i Ls[i] (List.getElem?_eq_getElem hil)
        obtain ⟨A, cp, rfl⟩ := ownsRow_form hov
        have hcell := (hBw.cell (World.block_lt_of_cell? w2 _ (ownsRow_cells ho i _ hv))).trans (ownsRow_cells ho i _ hv)
        rw [Addr.add_lit, Nat.zero_add] at hcell
        have hov2 := ownsRow_below hov hBw
        obtain ⟨hcp, hC⟩ := C_of_row hov2
        have hC0 : Kd.C (Kd.int .i64) wr A0 l0.length l0 := Kd.C_below HR.out (below_step hB2 hBw)
        have HF3 := HF2.out
        rw [List.drop_eq_getElem_cons hil] at HF3
        simp only [bestOf] at HF3
        obtain ⟨b, hb, HF3⟩ := Option.bind_eq_some_iff.mp HF3
        have HFN := Aside0.mk HF3
        have HWI := Aside0.mk (show wrap64 ((i : Int) + 1) = ((i + 1 : Nat) : Int) from wrap_succ i (by have := HM.out; omega))
        clear HF3
        have hbc := lampblackref03_Breadth.calls k A0 c0 l0 A cp Ls[i] b wr hC0 hc0 hC hcp hb
        generalize Ls[i] = li at *
        by_cases hlt : b < least
        · have hl1 : decide (b < least) = true := decide_eq_true hlt
          go_wp2_with (go_at_call 31; refine hbc.mono ?_; rintro e w3 ⟨rfl, hb3⟩)
          have HF4 := HFN.out
          rw [if_pos (by omega)] at HF4
          go_roundg (m + 1 - (i + 1))
          case measure => omega
          case rel =>
            refine ⟨i + 1, li, b, ?_, by omega, rfl, ?_, ⟨HF4⟩, ?_⟩
            · first | rw [HWI.out] | exact congrArg (Value.int IntKind.i64) (by omega)
            · exact ownsRow_below hov2 hb3
            · exact below_step hBw hb3
        · have hl1 : decide (b < least) = false := decide_eq_false hlt
          go_wp2_with (go_at_call 31; refine hbc.mono ?_; rintro e w3 ⟨rfl, hb3⟩)
          have HF4 := HFN.out
          rw [if_neg (by omega)] at HF4
          go_roundg (m + 1 - (i + 1))
          case measure => omega
          case rel =>
            refine ⟨i + 1, best, least, ?_, by omega, rfl, ?_, ⟨HF4⟩, ?_⟩
            · first | rw [HWI.out] | exact congrArg (Value.int IntKind.i64) (by omega)
            · exact ownsRow_below hob hb3
            · exact below_step hBw hb3
      · have hi1 : ((i : Int) < ((m : Int) + 1)) = False := eq_false (by omega)
        have hi2 : decide ((i : Int) < ((m : Int) + 1)) = false := decide_eq_false (by omega)
        have hi3 : ((i : Int) < ((m + 1 : Nat) : Int)) = False := eq_false (by omega)
        have hi4 : decide ((i : Int) < ((m + 1 : Nat) : Int)) = false := decide_eq_false (by omega)
        have HF3 := HF2.out
        rw [List.drop_eq_nil_of_le (by rw [HL.out]; omega)] at HF3
        simp only [bestOf, Option.some.injEq, Prod.mk.injEq] at HF3
        obtain ⟨rfl, rfl⟩ := HF3
        go_wp2
        go_ret2
        exact ⟨_, rfl, Kd.R_of_own hob (fun _ _ => trivial), below_step hB2 hBw⟩
  · rw [if_neg hn] at h
    cases h
end Go.Proofs.YtijfddobandcdaaDoor.X
end
section
-- by ownprint.py (wip/tool), over the kit's print
namespace Go.Proofs.YtijfddobandcdaaDoor.X
open Go.RowKit Go.Proofs.YtijfddobandcdaaDoorW.PrintWords Go.Proofs.YtijfddobandcdaaDoorW.PrintLast Go.Proofs.YtijfddobandcdaaDoorW.PrintMore
attribute [local go_sem] max2_int min2_int max_two min_two max_three min_three max_four min_four
set_option linter.unusedVariables false
set_option linter.unusedSimpArgs false

/-! ### lampblackref03_PathWidth: function 21 -/
def lampblackref03_PathWidth.f (k : Nat) (l0 : List Int) : Option (Int) := (lampblackref03_Layout.f k l0).bind fun bt140 => (some bt140.2)
theorem lampblackref03_PathWidth.mono : ∀ a0 k, LeO (lampblackref03_PathWidth.f k a0) (lampblackref03_PathWidth.f (k + 1) a0) := by
  intro a0 k
  unfold lampblackref03_PathWidth.f
  repeat' first
      | (with_reducible exact lampblackref03_Layout.mono _ _)
      | (with_reducible exact LeO.refl _)
      | (with_reducible exact LeO.none _)
      | (with_reducible refine LeO.ite ?_ ?_)
      | (with_reducible refine LeO.bind ?_ (fun _ => ?_))
      | exact lampblackref03_Layout.mono _ _
      | exact LeO.none _
      | refine LeO.ite ?_ ?_
      | refine LeO.bind ?_ (fun _ => ?_)
set_option maxHeartbeats 8000000 in
set_option maxRecDepth 100000 in
theorem lampblackref03_PathWidth.calls (k : Nat) (A0 : Option Addr) (c0 : Nat) (l0 : List Int) (r : Int) (w : World) (hr0 : Kd.C (Kd.int .i64) w A0 l0.length l0) (hc0 : l0.length ≤ c0) (h : lampblackref03_PathWidth.f k l0 = some r) :
    Calls Tryd.prog 21 #[.slice A0 l0.length c0] w fun e w' => e = .returned (.int .i64 r) ∧ Below w.heap.size w w' := by
  have HR0 := Aside0.mk hr0
  have HC0 := Aside0.mk hc0
  clear hr0 hc0
  have HB := Aside0.mk (Below.refl w.heap.size w)
  have H : ((lampblackref03_Layout.f k l0).bind fun bt140 => (some bt140.2)) = some r := h
  clear h
  replace H := Option.bind_eq_some_iff.mp H
  obtain ⟨⟨t140, t141⟩, A20, H⟩ := H
  replace H : (some t141) = some r := H
  have A2 := Aside0.mk A20
  clear A20
  obtain rfl := Option.some.inj H
  go_enter Tryd.func21, Tryd.ntmps21
  go_wp2_with (first | ((with_reducible refine gate_callee (f := 28) rfl ?_); refine goesL_ (some 7) rfl rfl Tryd.func28 (by kernel_rfl) rfl #[.slice A0 l0.length c0] rfl (by (try simp only [List.map_toArray, List.map_cons, List.map_nil]); first | done | rfl | (simp only [List.length_drop, List.length_take]; rfl)) ?_; (with_reducible refine (lampblackref03_Layout.calls k _ _ l0 t140 t141 _ ?side1 ?side2 A2.out).mono ?_); (case side1 => repeat (first | exact HR0.out | (with_reducible refine Kd.C_alloc ?_ _) | (with_reducible refine Kd.C_drewN ?_ _) | (with_reducible refine Kd.C_drew ?_))); (case side2 => exact HC0.out); rintro e w3 ⟨v142, rfl, ho0, hb⟩; refine ⟨_, rfl, ?_⟩; have n0_ := Aside0.mk (Kd.R_lower ho0 (below_size (by repeat (first | (with_reducible first | exact HB.out | apply below_alloc | apply pw_below_drewN | apply below_drew1) | exact HB.out)))); have n1_ := Aside0.mk (below_step (by repeat (first | (with_reducible first | exact HB.out | apply below_alloc | apply pw_below_drewN | apply below_drew1) | exact HB.out)) hb); clear HB; have HO143 := n0_; have HB := n1_; clear n0_ n1_; (try clear hb); (try clear hb2); (try clear hk); (try clear hi); (try clear ho0)))
  go_ret
  exact ⟨by first | rfl | (simp [errW_none, errW_some] <;> rfl) | (simp [*, errW_none, errW_some] <;> rfl), by repeat (first | (with_reducible first | exact HB.out | apply below_alloc | apply pw_below_drewN | apply below_drew1) | exact HB.out)⟩

end Go.Proofs.YtijfddobandcdaaDoor.X
end
section
-- by ownprint.py (wip/tool), over the kit's print
namespace Go.Proofs.YtijfddobandcdaaDoor.X
open Go.RowKit Go.Proofs.YtijfddobandcdaaDoorW.PrintWords Go.Proofs.YtijfddobandcdaaDoorW.PrintLast Go.Proofs.YtijfddobandcdaaDoorW.PrintMore
attribute [local go_sem] max2_int min2_int max_two min_two max_three min_three max_four min_four
set_option linter.unusedVariables false
set_option linter.unusedSimpArgs false

/-! ### lampblackref01_IsGraph: function 48 -/
mutual
def lampblackref01_IsGraph.l0 : Nat → List Int → Int → List Int → Int → Int → Option (Bool)
  | 0, _, _, _, _, _ => none
  | k + 1, x0, x1, x8, x9, x10 => if x10 < x9 then (if 0 ≤ x10 then (if x10 < (x8.length : Int) then (if (x0.length : Int) > x1 then (lampblackref01_IsGraph.j1 k x0 x1 x10 (rd x8 x10) x8 x9 x10 true) else (if (rd x8 x10) < 0 then (lampblackref01_IsGraph.j1 k x0 x1 x10 (rd x8 x10) x8 x9 x10 true) else (if (rd x8 x10) ≥ (shl .i64 1 (x0.length : Int)) then (lampblackref01_IsGraph.j1 k x0 x1 x10 (rd x8 x10) x8 x9 x10 true) else (lampblackref01_IsGraph.j1 k x0 x1 x10 (rd x8 x10) x8 x9 x10 ((Go.bits .and .i64 (shr .i64 (rd x8 x10) x10) 1) == 1))))) else (none)) else (none)) else (if (x0.length : Int) ≥ 1 then (some (decide ((x0.length : Int) ≤ x1))) else (some false))
def lampblackref01_IsGraph.j1 : Nat → List Int → Int → Int → Int → List Int → Int → Int → Bool → Option (Bool)
  | 0, _, _, _, _, _, _, _, _ => none
  | k + 1, x0, x1, x5, x6, x8, x9, x10, x36 => if x36 = true then (some false) else (lampblackref01_IsGraph.l1 k x0 x1 x5 x6 x8 x9 x10 (x0.length : Int) 0)
def lampblackref01_IsGraph.l1 : Nat → List Int → Int → Int → Int → List Int → Int → Int → Int → Int → Option (Bool)
  | 0, _, _, _, _, _, _, _, _, _ => none
  | k + 1, x0, x1, x5, x6, x8, x9, x10, x38, x39 => if x39 < x38 then (if 0 ≤ x39 then (if x39 < (x0.length : Int) then (if 0 ≤ x5 then (if (Go.bits .and .i64 (shr .i64 x6 x39) 1) = (Go.bits .and .i64 (shr .i64 (rd x0 x39) x5) 1) then (lampblackref01_IsGraph.l1 k x0 x1 x5 x6 x8 x9 x10 x38 (wrap64 (x39 + 1))) else (some false)) else (none)) else (none)) else (none)) else (lampblackref01_IsGraph.l0 k x0 x1 x8 x9 (wrap64 (x10 + 1)))
end
def lampblackref01_IsGraph.f (k : Nat) (l0 : List Int) (a1 : Int) : Option (Bool) := lampblackref01_IsGraph.l0 k l0 a1 l0 (l0.length : Int) 0
theorem lampblackref01_IsGraph.mono_l : ∀ k, (∀ y0 y1 y2 y3 y4, LeO (lampblackref01_IsGraph.l0 k y0 y1 y2 y3 y4) (lampblackref01_IsGraph.l0 (k + 1) y0 y1 y2 y3 y4)) ∧ (∀ y0 y1 y2 y3 y4 y5 y6 y7, LeO (lampblackref01_IsGraph.j1 k y0 y1 y2 y3 y4 y5 y6 y7) (lampblackref01_IsGraph.j1 (k + 1) y0 y1 y2 y3 y4 y5 y6 y7)) ∧ (∀ y0 y1 y2 y3 y4 y5 y6 y7 y8, LeO (lampblackref01_IsGraph.l1 k y0 y1 y2 y3 y4 y5 y6 y7 y8) (lampblackref01_IsGraph.l1 (k + 1) y0 y1 y2 y3 y4 y5 y6 y7 y8))
  | 0 => ⟨fun _ _ _ _ _ r h => by simp [lampblackref01_IsGraph.l0] at h, fun _ _ _ _ _ _ _ _ r h => by simp [lampblackref01_IsGraph.j1] at h, fun _ _ _ _ _ _ _ _ _ r h => by simp [lampblackref01_IsGraph.l1] at h⟩
  | k + 1 => by
    obtain ⟨ih0, ih1, ih2⟩ := lampblackref01_IsGraph.mono_l k
    refine ⟨?_, ?_, ?_⟩
    · intro y0 y1 y2 y3 y4
      unfold lampblackref01_IsGraph.l0
      repeat' first
      | (with_reducible exact ih0 _ _ _ _ _)
      | (with_reducible exact ih1 _ _ _ _ _ _ _ _)
      | (with_reducible exact ih2 _ _ _ _ _ _ _ _ _)
      | (with_reducible exact LeO.refl _)
      | (with_reducible exact LeO.none _)
      | (with_reducible refine LeO.ite ?_ ?_)
      | (with_reducible refine LeO.bind ?_ (fun _ => ?_))
      | exact ih0 _ _ _ _ _
      | exact ih1 _ _ _ _ _ _ _ _
      | exact ih2 _ _ _ _ _ _ _ _ _
      | exact LeO.none _
      | refine LeO.ite ?_ ?_
      | refine LeO.bind ?_ (fun _ => ?_)
    · intro y0 y1 y2 y3 y4 y5 y6 y7
      unfold lampblackref01_IsGraph.j1
      repeat' first
      | (with_reducible exact ih0 _ _ _ _ _)
      | (with_reducible exact ih1 _ _ _ _ _ _ _ _)
      | (with_reducible exact ih2 _ _ _ _ _ _ _ _ _)
      | (with_reducible exact LeO.refl _)
      | (with_reducible exact LeO.none _)
      | (with_reducible refine LeO.ite ?_ ?_)
      | (with_reducible refine LeO.bind ?_ (fun _ => ?_))
      | exact ih0 _ _ _ _ _
      | exact ih1 _ _ _ _ _ _ _ _
      | exact ih2 _ _ _ _ _ _ _ _ _
      | exact LeO.none _
      | refine LeO.ite ?_ ?_
      | refine LeO.bind ?_ (fun _ => ?_)
    · intro y0 y1 y2 y3 y4 y5 y6 y7 y8
      unfold lampblackref01_IsGraph.l1
      repeat' first
      | (with_reducible exact ih0 _ _ _ _ _)
      | (with_reducible exact ih1 _ _ _ _ _ _ _ _)
      | (with_reducible exact ih2 _ _ _ _ _ _ _ _ _)
      | (with_reducible exact LeO.refl _)
      | (with_reducible exact LeO.none _)
      | (with_reducible refine LeO.ite ?_ ?_)
      | (with_reducible refine LeO.bind ?_ (fun _ => ?_))
      | exact ih0 _ _ _ _ _
      | exact ih1 _ _ _ _ _ _ _ _
      | exact ih2 _ _ _ _ _ _ _ _ _
      | exact LeO.none _
      | refine LeO.ite ?_ ?_
      | refine LeO.bind ?_ (fun _ => ?_)
theorem lampblackref01_IsGraph.mono : ∀ a0 a1 k, LeO (lampblackref01_IsGraph.f k a0 a1) (lampblackref01_IsGraph.f (k + 1) a0 a1) := by
  intro a0 a1 k
  obtain ⟨ih0, ih1, ih2⟩ := lampblackref01_IsGraph.mono_l k
  unfold lampblackref01_IsGraph.f
  repeat' first
      | (with_reducible exact ih0 _ _ _ _ _)
      | (with_reducible exact ih1 _ _ _ _ _ _ _ _)
      | (with_reducible exact ih2 _ _ _ _ _ _ _ _ _)
      | (with_reducible exact LeO.refl _)
      | (with_reducible exact LeO.none _)
      | (with_reducible refine LeO.ite ?_ ?_)
      | (with_reducible refine LeO.bind ?_ (fun _ => ?_))
      | exact ih0 _ _ _ _ _
      | exact ih1 _ _ _ _ _ _ _ _
      | exact ih2 _ _ _ _ _ _ _ _ _
      | exact LeO.none _
      | refine LeO.ite ?_ ?_
      | refine LeO.bind ?_ (fun _ => ?_)
set_option maxHeartbeats 8000000 in
set_option maxRecDepth 100000 in
theorem lampblackref01_IsGraph.calls (k : Nat) (A0 : Option Addr) (c0 : Nat) (l0 : List Int) (a1 : Int) (r : Bool) (w : World) (hr0 : Kd.C (Kd.int .i64) w A0 l0.length l0) (hc0 : l0.length ≤ c0) (h : lampblackref01_IsGraph.f k l0 a1 = some r) :
    Calls Tryd.prog 48 #[.slice A0 l0.length c0, .int .i64 a1] w fun e w' => e = .returned (.bool r) ∧ Drawn0 w w' := by
  have HR0 := Aside0.mk hr0
  have HC0 := Aside0.mk hc0
  clear hr0 hc0
  have H : (lampblackref01_IsGraph.l0 k l0 a1 l0 (l0.length : Int) 0) = some r := h
  clear h
  have H' := Aside0.mk H
  clear H
  go_enter Tryd.func48, Tryd.ntmps48
  go_wp2
  repeat (go_quiet (fail); try go_wp2)
  go_loopg [10] k (fun kq v10 w' => ∃ (x10_1 : Int), v10 = .int .i64 x10_1 ∧ Aside0 (lampblackref01_IsGraph.l0 kq l0 a1 l0 (l0.length : Int) x10_1 = some r) ∧ Aside0 (kq ≤ k) ∧ Drawn0 w w')
  case atStart => exact ⟨(0), (by first | rfl | (simp; done) | (simp [*]; done)), H', ⟨Nat.le_refl _⟩, by repeat (first | exact Drawn0.refl _ | apply Drawn0.step)⟩
  case round =>
    clear H'
    try clear p2
    obtain ⟨x10_1, rfl, HA, HK1, ⟨m1, rfl⟩⟩ := hrel
    cases gk with
    | zero => exact absurd HA.out (by simp [lampblackref01_IsGraph.l0])
    | succ k1 =>
      have H := HA.out
      clear HA
      simp only [lampblackref01_IsGraph.l0] at H
      by_cases c3 : x10_1 < (l0.length : Int)
      · rw [if_pos c3] at H
        have c3b0 : decide (x10_1 < (l0.length : Int)) = true := decide_eq_true c3
        clear c3
        by_cases c4 : 0 ≤ x10_1
        · rw [if_pos c4] at H
          have c4b0 : decide (0 ≤ x10_1) = true := decide_eq_true c4
          clear c4
          by_cases c5 : x10_1 < (l0.length : Int)
          · rw [if_pos c5] at H
            have c5b0 : decide (x10_1 < (l0.length : Int)) = true := decide_eq_true c5
            clear c5
            have HC6 := Aside0.mk H
            clear H
            have p128 : 0 ≤ (x10_1 : Int) := of_decide_eq_true (by first | (with_reducible assumption) | assumption)
            have q128 : x10_1 < (l0.length : Int) := of_decide_eq_true (by first | (with_reducible assumption) | assumption)
            obtain ⟨ad128, e128, hx128_0⟩ := Kd.at_int HR0.out x10_1 p128 q128
            cases e128
            replace p128 := eq_true p128
            replace q128 := eq_true q128
            go_upto_region 4 with (fail)
            repeat (go_quiet (fail); go_upto_region 4 with (fail))
            go_cut [36] (fun v36 wc => ∃ (kq : Nat) (x36_5 : Bool), v36 = .bool x36_5 ∧ Aside0 (lampblackref01_IsGraph.j1 kq l0 a1 x10_1 (rd l0 x10_1) l0 (l0.length : Int) x10_1 x36_5 = some r) ∧ Aside0 (kq ≤ k1) ∧ Drawn0 w wc)
            case first =>
              have H := HC6.out
              clear HC6
              by_cases c7 : (l0.length : Int) > a1
              · rw [if_pos c7] at H
                have c7b0 : decide (a1 < (l0.length : Int)) = true := decide_eq_true c7
                clear c7
                (first | rw [c7b0] | (simp only [i64_w, i32_w]; rw [c7b0]) | skip)
                have H' := Aside0.mk H
                clear H
                go_wp2
                repeat (go_quiet (fail); try go_wp2)
                go_meet
                case rel => exact ⟨_, (true), (by first | rfl | (simp; done) | (simp [*]; done)), H', ⟨by have := HK1.out; first | omega | exact Nat.le_refl _⟩, by repeat (first | exact Drawn0.refl _ | apply Drawn0.step)⟩
              · rw [if_neg c7] at H
                have c7b0 : decide (a1 < (l0.length : Int)) = false := decide_eq_false c7
                clear c7
                (first | rw [c7b0] | (simp only [i64_w, i32_w]; rw [c7b0]) | skip)
                by_cases c8 : (rd l0 x10_1) < 0
                · rw [if_pos c8] at H
                  have c8b0 : decide ((rd l0 x10_1) < 0) = true := decide_eq_true c8
                  clear c8
                  have H' := Aside0.mk H
                  clear H
                  go_wp2
                  repeat (go_quiet (fail); try go_wp2)
                  go_meet
                  case rel => exact ⟨_, (true), (by first | rfl | (simp; done) | (simp [*]; done)), H', ⟨by have := HK1.out; first | omega | exact Nat.le_refl _⟩, by repeat (first | exact Drawn0.refl _ | apply Drawn0.step)⟩
                · rw [if_neg c8] at H
                  have c8b0 : decide ((rd l0 x10_1) < 0) = false := decide_eq_false c8
                  clear c8
                  obtain ⟨ji9, hji9⟩ : ∃ j_ : Int, (shl .i64 1 (l0.length : Int)) = j_ := ⟨_, rfl⟩
                  replace H : (if (rd l0 x10_1) ≥ (ji9) then (lampblackref01_IsGraph.j1 k1 l0 a1 x10_1 (rd l0 x10_1) l0 (l0.length : Int) x10_1 true) else (lampblackref01_IsGraph.j1 k1 l0 a1 x10_1 (rd l0 x10_1) l0 (l0.length : Int) x10_1 ((Go.bits .and .i64 (shr .i64 (rd l0 x10_1) x10_1) 1) == 1))) = some r := by first | (rw [hji9] at H; exact H) | (simp only [hji9] at H ⊢; exact H)
                  have hji9_ : (IntKind.i64.wrap (1 * 2 ^ min (l0.length : Int).toNat 64)) = ji9 := hji9
                  have hji9z : (l0.length : Int) ≤ 64 → (IntKind.i64.wrap (1 * 2 ^ (l0.length : Int).toNat)) = ji9 := shl_small hji9
                  have hji9p : (IntKind.i64.wrap (1 * 2 ^ min l0.length 64)) = ji9 := hji9_
                  have hji9q : (l0.length : Int) ≤ 64 → (IntKind.i64.wrap (1 * 2 ^ l0.length)) = ji9 := hji9z
                  have hji9r : (IntKind.i64.wrap (2 ^ min l0.length 64)) = ji9 := by have h_ := hji9p; rw [Int.one_mul] at h_; exact h_
                  have hji9s : (l0.length : Int) ≤ 64 → (IntKind.i64.wrap (2 ^ l0.length)) = ji9 := fun hle_ => by have h_ := hji9q hle_; rw [Int.one_mul] at h_; exact h_
                  have hji9u : (IntKind.i64.wrap (2 ^ min (l0.length : Int).toNat 64)) = ji9 := by have h_ := hji9_; rw [Int.one_mul] at h_; exact h_
                  have hji9v : (l0.length : Int) ≤ 64 → (IntKind.i64.wrap (2 ^ (l0.length : Int).toNat)) = ji9 := fun hle_ => by have h_ := hji9z hle_; rw [Int.one_mul] at h_; exact h_
                  have hji9y : (wrap64 (1 * 2 ^ min (l0.length : Int).toNat 64)) = ji9 := (i64_w _).symm.trans hji9_
                  have hji9x : (l0.length : Int) ≤ 64 → (wrap64 (1 * 2 ^ (l0.length : Int).toNat)) = ji9 := fun h_ => (i64_w _).symm.trans (hji9z h_)
                  by_cases c10 : (rd l0 x10_1) ≥ (ji9)
                  · rw [if_pos c10] at H
                    have c10b0 : decide ((ji9) ≤ (rd l0 x10_1)) = true := decide_eq_true c10
                    clear c10
                    have H' := Aside0.mk H
                    clear H
                    go_wp2
                    repeat (go_quiet (fail); try go_wp2)
                    go_meet
                    case rel => exact ⟨_, (true), (by first | rfl | (simp; done) | (simp [*]; done)), H', ⟨by have := HK1.out; first | omega | exact Nat.le_refl _⟩, by repeat (first | exact Drawn0.refl _ | apply Drawn0.step)⟩
                  · rw [if_neg c10] at H
                    have c10b0 : decide ((ji9) ≤ (rd l0 x10_1)) = false := decide_eq_false c10
                    clear c10
                    have c11b0 := eq_true (of_decide_eq_true (by first | (with_reducible assumption) | assumption) : 0 ≤ x10_1)
                    obtain ⟨ji12, hji12⟩ : ∃ j_ : Int, (shr .i64 (rd l0 x10_1) x10_1) = j_ := ⟨_, rfl⟩
                    replace H : (lampblackref01_IsGraph.j1 k1 l0 a1 x10_1 (rd l0 x10_1) l0 (l0.length : Int) x10_1 ((Go.bits .and .i64 (ji12) 1) == 1)) = some r := by first | (rw [hji12] at H; exact H) | (simp only [hji12] at H ⊢; exact H)
                    have hji12_ : ((rd l0 x10_1) / 2 ^ min x10_1.toNat 64) = ji12 := hji12
                    have hji12z : x10_1 ≤ 64 → ((rd l0 x10_1) / 2 ^ x10_1.toNat) = ji12 := shr_small hji12
                    have H' := Aside0.mk H
                    clear H
                    go_wp2
                    repeat (go_quiet (fail); try go_wp2)
                    go_meet
                    case rel => exact ⟨_, (((Go.bits .and .i64 (ji12) 1) == 1)), (by first | rfl | (simp; done) | (simp only [← hji12] <;> (first | rfl | simp)) | (simp [*]; done)), H', ⟨by have := HK1.out; first | omega | exact Nat.le_refl _⟩, by repeat (first | exact Drawn0.refl _ | apply Drawn0.step)⟩
            case rest =>
              clear HC6
              try clear c1
              try clear p1
              try clear q1
              try clear hx1
              try clear p2
              try clear c3
              try clear c3b0
              try clear c4
              try clear c4b0
              try clear c5
              try clear c5b0
              try clear p6
              try clear c7
              try clear c7b0
              try clear c8
              try clear c8b0
              try clear c10
              try clear c10b0
              try clear c11
              try clear c11b0
              try clear p12
              try clear q12
              try clear hx12
              try clear hx128_0
              try clear p128
              try clear p2
              try clear q128
              obtain ⟨kq, x36_5, rfl, HA, HJ5, ⟨mc5, rfl⟩⟩ := hcut
              cases kq with
              | zero => exact absurd HA.out (by simp [lampblackref01_IsGraph.j1])
              | succ kj5 =>
                have H := HA.out
                clear HA
                simp only [lampblackref01_IsGraph.j1] at H
                by_cases c13 : x36_5 = true
                · subst c13
                  have H1 : (some false) = some r := by rw [if_pos rfl] at H; exact H
                  clear H
                  have H := H1
                  clear H1
                  obtain rfl := Option.some.inj H
                  go_wp2
                  repeat (go_quiet (fail); try go_wp2)
                  go_ret
                  exact ⟨by first | rfl | (simp; done) | (simp [*]; done), by repeat (first | exact Drawn0.refl _ | apply Drawn0.step)⟩
                · replace c13 := Bool.eq_false_iff.mpr c13
                  subst c13
                  have H1 : (lampblackref01_IsGraph.l1 kj5 l0 a1 x10_1 (rd l0 x10_1) l0 (l0.length : Int) x10_1 (l0.length : Int) 0) = some r := by rw [if_neg (show ¬ (false = true) by decide)] at H; exact H
                  clear H
                  have H := H1
                  clear H1
                  have H' := Aside0.mk H
                  clear H
                  go_wp2
                  repeat (go_quiet (fail); try go_wp2)
                  go_loopg [39] kj5 (fun kq v39 w' => ∃ (x39_3 : Int), v39 = .int .i64 x39_3 ∧ Aside0 (lampblackref01_IsGraph.l1 kq l0 a1 x10_1 (rd l0 x10_1) l0 (l0.length : Int) x10_1 (l0.length : Int) x39_3 = some r) ∧ Aside0 (kq ≤ kj5) ∧ Drawn0 w w')
                  case atStart => exact ⟨(0), (by first | rfl | (simp; done) | (simp [*]; done)), H', ⟨Nat.le_refl _⟩, by repeat (first | exact Drawn0.refl _ | apply Drawn0.step)⟩
                  case round =>
                    clear H'
                    try clear c1
                    try clear p1
                    try clear q1
                    try clear hx1
                    try clear p2
                    try clear c3
                    try clear c3b0
                    try clear c4
                    try clear c4b0
                    try clear c5
                    try clear c5b0
                    try clear p6
                    try clear c7
                    try clear c7b0
                    try clear c8
                    try clear c8b0
                    try clear c10
                    try clear c10b0
                    try clear c11
                    try clear c11b0
                    try clear p12
                    try clear q12
                    try clear hx12
                    try clear c13
                    try clear hx128_0
                    try clear p1
                    try clear p12
                    try clear p128
                    try clear p2
                    try clear p6
                    try clear q1
                    try clear q12
                    try clear q128
                    obtain ⟨x39_3, rfl, HA, HK3, ⟨m3, rfl⟩⟩ := hrel
                    cases gk with
                    | zero => exact absurd HA.out (by simp [lampblackref01_IsGraph.l1])
                    | succ k3 =>
                      have H := HA.out
                      clear HA
                      simp only [lampblackref01_IsGraph.l1] at H
                      by_cases c14 : x39_3 < (l0.length : Int)
                      · rw [if_pos c14] at H
                        have c14b0 : decide (x39_3 < (l0.length : Int)) = true := decide_eq_true c14
                        clear c14
                        by_cases c15 : 0 ≤ x39_3
                        · rw [if_pos c15] at H
                          have c15b0 := eq_true c15
                          have c15b1 : decide (0 ≤ x39_3) = true := decide_eq_true c15
                          clear c15
                          obtain ⟨ji16, hji16⟩ : ∃ j_ : Int, (shr .i64 (rd l0 x10_1) x39_3) = j_ := ⟨_, rfl⟩
                          replace H : (if x39_3 < (l0.length : Int) then (if 0 ≤ x10_1 then (if (Go.bits .and .i64 (ji16) 1) = (Go.bits .and .i64 (shr .i64 (rd l0 x39_3) x10_1) 1) then (lampblackref01_IsGraph.l1 k3 l0 a1 x10_1 (rd l0 x10_1) l0 (l0.length : Int) x10_1 (l0.length : Int) (wrap64 (x39_3 + 1))) else (some false)) else (none)) else (none)) = some r := by first | (rw [hji16] at H; exact H) | (simp only [hji16] at H ⊢; exact H)
                          have hji16_ : ((rd l0 x10_1) / 2 ^ min x39_3.toNat 64) = ji16 := hji16
                          have hji16z : x39_3 ≤ 64 → ((rd l0 x10_1) / 2 ^ x39_3.toNat) = ji16 := shr_small hji16
                          by_cases c17 : x39_3 < (l0.length : Int)
                          · rw [if_pos c17] at H
                            have c17b0 : decide (x39_3 < (l0.length : Int)) = true := decide_eq_true c17
                            clear c17
                            by_cases c18 : 0 ≤ x10_1
                            · rw [if_pos c18] at H
                              have c18b0 := eq_true c18
                              have c18b1 : decide (0 ≤ x10_1) = true := decide_eq_true c18
                              clear c18
                              obtain ⟨ji19, hji19⟩ : ∃ j_ : Int, (shr .i64 (rd l0 x39_3) x10_1) = j_ := ⟨_, rfl⟩
                              replace H : (if (Go.bits .and .i64 (ji16) 1) = (Go.bits .and .i64 (ji19) 1) then (lampblackref01_IsGraph.l1 k3 l0 a1 x10_1 (rd l0 x10_1) l0 (l0.length : Int) x10_1 (l0.length : Int) (wrap64 (x39_3 + 1))) else (some false)) = some r := by first | (rw [hji19] at H; exact H) | (simp only [hji19] at H ⊢; exact H)
                              have hji19_ : ((rd l0 x39_3) / 2 ^ min x10_1.toNat 64) = ji19 := hji19
                              have hji19z : x10_1 ≤ 64 → ((rd l0 x39_3) / 2 ^ x10_1.toNat) = ji19 := shr_small hji19
                              by_cases c20 : (Go.bits .and .i64 (ji16) 1) = (Go.bits .and .i64 (ji19) 1)
                              · rw [if_pos c20] at H
                                have c20b0 : ((Go.bits .and .i64 (ji16) 1) == (Go.bits .and .i64 (ji19) 1)) = true := beq_iff_eq.mpr c20
                                have c20b1 : ((Go.bits .and .i64 (ji16) 1) != (Go.bits .and .i64 (ji19) 1)) = false := bne_eq_false_iff_eq.mpr c20
                                clear c20
                                have H' := Aside0.mk H
                                clear H
                                have p129 : 0 ≤ (x39_3 : Int) := of_decide_eq_true (by first | (with_reducible assumption) | assumption)
                                have q129 : x39_3 < (l0.length : Int) := of_decide_eq_true (by first | (with_reducible assumption) | assumption)
                                obtain ⟨ad129, e129, hx129_0⟩ := Kd.at_int HR0.out x39_3 p129 q129
                                obtain rfl : ad128 = ad129 := (by injection e129)
                                replace p129 := eq_true p129
                                replace q129 := eq_true q129
                                go_wp2
                                repeat (go_quiet (fail); try go_wp2)
                                go_roundg k3
                                case measure => have := HK1.out; have := HJ5.out; have := HK3.out; omega
                                case rel => exact ⟨(wrap64 (x39_3 + 1)), (by first | rfl | (simp; done) | (simp [*]; done)), H', ⟨by have := HK1.out; have := HJ5.out; have := HK3.out; omega⟩, by repeat (first | exact Drawn0.refl _ | apply Drawn0.step)⟩
                              · rw [if_neg c20] at H
                                have c20b0 : ((Go.bits .and .i64 (ji16) 1) == (Go.bits .and .i64 (ji19) 1)) = false := beq_eq_false_iff_ne.mpr c20
                                have c20b1 : ((Go.bits .and .i64 (ji16) 1) != (Go.bits .and .i64 (ji19) 1)) = true := bne_iff_ne.mpr c20
                                obtain rfl := Option.some.inj H
                                have p129 : 0 ≤ (x39_3 : Int) := of_decide_eq_true (by first | (with_reducible assumption) | assumption)
                                have q129 : x39_3 < (l0.length : Int) := of_decide_eq_true (by first | (with_reducible assumption) | assumption)
                                obtain ⟨ad129, e129, hx129_0⟩ := Kd.at_int HR0.out x39_3 p129 q129
                                obtain rfl : ad128 = ad129 := (by injection e129)
                                replace p129 := eq_true p129
                                replace q129 := eq_true q129
                                go_wp2
                                repeat (go_quiet (fail); try go_wp2)
                                go_ret
                                exact ⟨by first | rfl | (simp; done) | (simp only [← hji16, ← hji19] <;> (first | rfl | simp)) | (simp [*]; done), by repeat (first | exact Drawn0.refl _ | apply Drawn0.step)⟩
                            · rw [if_neg c18] at H
                              exact absurd H (by simp)
                          · rw [if_neg c17] at H
                            exact absurd H (by simp)
                        · rw [if_neg c15] at H
                          exact absurd H (by simp)
                      · rw [if_neg c14] at H
                        have c14b0 : decide (x39_3 < (l0.length : Int)) = false := decide_eq_false c14
                        clear c14
                        have H' := Aside0.mk H
                        clear H
                        go_wp2
                        repeat (go_quiet (fail); try go_wp2)
                        go_roundg k3
                        case measure => have := HK1.out; have := HJ5.out; have := HK3.out; omega
                        case rel => exact ⟨(wrap64 (x10_1 + 1)), (by first | rfl | (simp; done) | (simp [*]; done)), H', ⟨by have := HK1.out; have := HJ5.out; have := HK3.out; omega⟩, by repeat (first | exact Drawn0.refl _ | apply Drawn0.step)⟩
          · rw [if_neg c5] at H
            exact absurd H (by simp)
        · rw [if_neg c4] at H
          exact absurd H (by simp)
      · rw [if_neg c3] at H
        have c3b0 : decide (x10_1 < (l0.length : Int)) = false := decide_eq_false c3
        clear c3
        by_cases c21 : (l0.length : Int) ≥ 1
        · rw [if_pos c21] at H
          have c21b0 : decide (1 ≤ (l0.length : Int)) = true := decide_eq_true c21
          have c21b1 : decide (1 ≤ l0.length) = true := decide_eq_true (by omega)
          clear c21
          obtain rfl := Option.some.inj H
          go_wp2
          repeat (go_quiet (fail); try go_wp2)
          go_ret
          exact ⟨by first | rfl | (simp; done) | (simp [*]; done), by repeat (first | exact Drawn0.refl _ | apply Drawn0.step)⟩
        · rw [if_neg c21] at H
          have c21b0 : decide (1 ≤ (l0.length : Int)) = false := decide_eq_false c21
          have c21b1 : decide (1 ≤ l0.length) = false := decide_eq_false (by omega)
          clear c21
          obtain rfl := Option.some.inj H
          go_wp2
          repeat (go_quiet (fail); try go_wp2)
          go_ret
          exact ⟨by first | rfl | (simp; done) | (simp [*]; done), by repeat (first | exact Drawn0.refl _ | apply Drawn0.step)⟩

end Go.Proofs.YtijfddobandcdaaDoor.X
end
section
-- by ownprint.py (wip/tool), over the kit's print
namespace Go.Proofs.YtijfddobandcdaaDoor.X
open Go.RowKit Go.Proofs.YtijfddobandcdaaDoorW.PrintWords Go.Proofs.YtijfddobandcdaaDoorW.PrintLast Go.Proofs.YtijfddobandcdaaDoorW.PrintMore
attribute [local go_sem] max2_int min2_int max_two min_two max_three min_three max_four min_four
set_option linter.unusedVariables false
set_option linter.unusedSimpArgs false

/-! ### lampblackref03_Valid: function 19 -/
def lampblackref03_Valid.f (k : Nat) (l0 : List Int) : Option (Bool) := (lampblackref01_IsGraph.f k l0 7).bind fun t130 => (some t130)
theorem lampblackref03_Valid.mono : ∀ a0 k, LeO (lampblackref03_Valid.f k a0) (lampblackref03_Valid.f (k + 1) a0) := by
  intro a0 k
  unfold lampblackref03_Valid.f
  repeat' first
      | (with_reducible exact lampblackref01_IsGraph.mono _ _ _)
      | (with_reducible exact LeO.refl _)
      | (with_reducible exact LeO.none _)
      | (with_reducible refine LeO.ite ?_ ?_)
      | (with_reducible refine LeO.bind ?_ (fun _ => ?_))
      | exact lampblackref01_IsGraph.mono _ _ _
      | exact LeO.none _
      | refine LeO.ite ?_ ?_
      | refine LeO.bind ?_ (fun _ => ?_)
set_option maxHeartbeats 8000000 in
set_option maxRecDepth 100000 in
theorem lampblackref03_Valid.calls (k : Nat) (A0 : Option Addr) (c0 : Nat) (l0 : List Int) (r : Bool) (w : World) (hr0 : Kd.C (Kd.int .i64) w A0 l0.length l0) (hc0 : l0.length ≤ c0) (h : lampblackref03_Valid.f k l0 = some r) :
    Calls Tryd.prog 19 #[.slice A0 l0.length c0] w fun e w' => e = .returned (.bool r) ∧ Drawn0 w w' := by
  have HR0 := Aside0.mk hr0
  have HC0 := Aside0.mk hc0
  clear hr0 hc0
  have H : ((lampblackref01_IsGraph.f k l0 7).bind fun t130 => (some t130)) = some r := h
  clear h
  replace H := Option.bind_eq_some_iff.mp H
  obtain ⟨t130, A20, H⟩ := H
  replace H : (some t130) = some r := H
  have A2 := Aside0.mk A20
  clear A20
  obtain rfl := Option.some.inj H
  go_enter Tryd.func19, Tryd.ntmps19
  go_wp2_with (first | ((with_reducible refine gate_callee (f := 48) rfl ?_); refine goesL_ (some 4) rfl rfl Tryd.func48 (by kernel_rfl) rfl #[.slice A0 l0.length c0, .int .i64 7] rfl (by (try simp only [List.map_toArray, List.map_cons, List.map_nil]); first | done | rfl | (simp only [List.length_drop, List.length_take]; rfl)) ?_; (with_reducible refine (lampblackref01_IsGraph.calls k _ _ l0 7 t130 _ ?side1 ?side2 A2.out).mono ?_); (case side1 => repeat (first | exact HR0.out | (with_reducible refine Kd.C_alloc ?_ _) | (with_reducible refine Kd.C_drewN ?_ _) | (with_reducible refine Kd.C_drew ?_))); (case side2 => exact HC0.out); rintro e w' ⟨rfl, ⟨nd, rfl⟩⟩; refine ⟨_, rfl, ?_⟩))
  go_ret
  exact ⟨by first | rfl | (simp; done) | (simp [*]; done), by repeat (first | exact Drawn0.refl _ | apply Drawn0.step)⟩

end Go.Proofs.YtijfddobandcdaaDoor.X
end
section
-- by ownprint.py (wip/tool), over the kit's print
namespace Go.Proofs.YtijfddobandcdaaDoor.X
open Go.RowKit Go.Proofs.YtijfddobandcdaaDoorW.PrintWords Go.Proofs.YtijfddobandcdaaDoorW.PrintLast Go.Proofs.YtijfddobandcdaaDoorW.PrintMore
attribute [local go_sem] max2_int min2_int max_two min_two max_three min_three max_four min_four
set_option linter.unusedVariables false
set_option linter.unusedSimpArgs false

/-! ### lampblacklaw03_SweepLeast: function 3 -/
def lampblacklaw03_SweepLeast.f (k : Nat) (l0 : List Int) : Option (Bool) := (lampblacklaw03_Few.f l0).bind fun t144 => ((sweep_Least.f k t144).bind fun bt147 => ((lampblackref03_Valid.f k l0).bind fun t149 => (if t149 = true then ((lampblackref03_PathWidth.f k l0).bind fun t150 => (if bt147.1 = (wrap64 (t150 + 1)) then (if bt147.2 = 0 then ((lampblacklaw03_awake.f k).bind fun t151 => (some t151)) else (some false)) else (some false))) else (if bt147.1 = 0 then (if bt147.2 = 2 then ((lampblacklaw03_awake.f k).bind fun t152 => (some t152)) else (some false)) else (some false)))))
theorem lampblacklaw03_SweepLeast.mono : ∀ a0 k, LeO (lampblacklaw03_SweepLeast.f k a0) (lampblacklaw03_SweepLeast.f (k + 1) a0) := by
  intro a0 k
  unfold lampblacklaw03_SweepLeast.f
  repeat' first
      | (with_reducible exact lampblacklaw03_awake.mono _)
      | (with_reducible exact lampblackref03_PathWidth.mono _ _)
      | (with_reducible exact lampblackref03_Valid.mono _ _)
      | (with_reducible exact sweep_Least.mono _ _)
      | (with_reducible exact LeO.refl _)
      | (with_reducible exact LeO.none _)
      | (with_reducible refine LeO.ite ?_ ?_)
      | (with_reducible refine LeO.bind ?_ (fun _ => ?_))
      | exact lampblacklaw03_awake.mono _
      | exact lampblackref03_PathWidth.mono _ _
      | exact lampblackref03_Valid.mono _ _
      | exact sweep_Least.mono _ _
      | exact LeO.none _
      | refine LeO.ite ?_ ?_
      | refine LeO.bind ?_ (fun _ => ?_)
set_option maxHeartbeats 8000000 in
set_option maxRecDepth 100000 in
theorem lampblacklaw03_SweepLeast.calls (k : Nat) (A0 : Option Addr) (c0 : Nat) (l0 : List Int) (r : Bool) (w : World) (hGL : GL w) (hr0 : Kd.C (Kd.int .i64) w A0 l0.length l0) (hc0 : l0.length ≤ c0) (h : lampblacklaw03_SweepLeast.f k l0 = some r) :
    Calls Tryd.prog 3 #[.slice A0 l0.length c0] w fun e w' => e = .returned (.bool r) ∧ Below w.heap.size w w' := by
  have HGL := Aside0.mk hGL
  clear hGL
  have HR0 := Aside0.mk hr0
  have HC0 := Aside0.mk hc0
  clear hr0 hc0
  have HB := Aside0.mk (Below.refl w.heap.size w)
  have H : ((lampblacklaw03_Few.f l0).bind fun t144 => ((sweep_Least.f k t144).bind fun bt147 => ((lampblackref03_Valid.f k l0).bind fun t149 => (if t149 = true then ((lampblackref03_PathWidth.f k l0).bind fun t150 => (if bt147.1 = (wrap64 (t150 + 1)) then (if bt147.2 = 0 then ((lampblacklaw03_awake.f k).bind fun t151 => (some t151)) else (some false)) else (some false))) else (if bt147.1 = 0 then (if bt147.2 = 2 then ((lampblacklaw03_awake.f k).bind fun t152 => (some t152)) else (some false)) else (some false)))))) = some r := h
  clear h
  replace H := Option.bind_eq_some_iff.mp H
  obtain ⟨t144, A20, H⟩ := H
  replace H : ((sweep_Least.f k t144).bind fun bt147 => ((lampblackref03_Valid.f k l0).bind fun t149 => (if t149 = true then ((lampblackref03_PathWidth.f k l0).bind fun t150 => (if bt147.1 = (wrap64 (t150 + 1)) then (if bt147.2 = 0 then ((lampblacklaw03_awake.f k).bind fun t151 => (some t151)) else (some false)) else (some false))) else (if bt147.1 = 0 then (if bt147.2 = 2 then ((lampblacklaw03_awake.f k).bind fun t152 => (some t152)) else (some false)) else (some false))))) = some r := H
  have A2 := Aside0.mk A20
  clear A20
  replace H := Option.bind_eq_some_iff.mp H
  obtain ⟨⟨t147, t148⟩, A30, H⟩ := H
  replace H : ((lampblackref03_Valid.f k l0).bind fun t149 => (if t149 = true then ((lampblackref03_PathWidth.f k l0).bind fun t150 => (if t147 = (wrap64 (t150 + 1)) then (if t148 = 0 then ((lampblacklaw03_awake.f k).bind fun t151 => (some t151)) else (some false)) else (some false))) else (if t147 = 0 then (if t148 = 2 then ((lampblacklaw03_awake.f k).bind fun t152 => (some t152)) else (some false)) else (some false)))) = some r := H
  have A3 := Aside0.mk A30
  clear A30
  replace H := Option.bind_eq_some_iff.mp H
  obtain ⟨t149, A40, H⟩ := H
  replace H : (if t149 = true then ((lampblackref03_PathWidth.f k l0).bind fun t150 => (if t147 = (wrap64 (t150 + 1)) then (if t148 = 0 then ((lampblacklaw03_awake.f k).bind fun t151 => (some t151)) else (some false)) else (some false))) else (if t147 = 0 then (if t148 = 2 then ((lampblacklaw03_awake.f k).bind fun t152 => (some t152)) else (some false)) else (some false))) = some r := H
  have A4 := Aside0.mk A40
  clear A40
  by_cases c5 : t149 = true
  · subst c5
    have H1 : ((lampblackref03_PathWidth.f k l0).bind fun t150 => (if t147 = (wrap64 (t150 + 1)) then (if t148 = 0 then ((lampblacklaw03_awake.f k).bind fun t151 => (some t151)) else (some false)) else (some false))) = some r := by rw [if_pos rfl] at H; exact H
    clear H
    have H := H1
    clear H1
    replace H := Option.bind_eq_some_iff.mp H
    obtain ⟨t150, A60, H⟩ := H
    replace H : (if t147 = (wrap64 (t150 + 1)) then (if t148 = 0 then ((lampblacklaw03_awake.f k).bind fun t151 => (some t151)) else (some false)) else (some false)) = some r := H
    have A6 := Aside0.mk A60
    clear A60
    by_cases c7 : t147 = (wrap64 (t150 + 1))
    · rw [if_pos c7] at H
      have c7b0 : (t147 == (wrap64 (t150 + 1))) = true := beq_iff_eq.mpr c7
      have c7b1 : (t147 != (wrap64 (t150 + 1))) = false := bne_eq_false_iff_eq.mpr c7
      clear c7
      by_cases c8 : t148 = 0
      · rw [if_pos c8] at H
        have c8b0 : (t148 == 0) = true := beq_iff_eq.mpr c8
        have c8b1 : (t148 != 0) = false := bne_eq_false_iff_eq.mpr c8
        clear c8
        replace H := Option.bind_eq_some_iff.mp H
        obtain ⟨t151, A90, H⟩ := H
        replace H : (some t151) = some r := H
        have A9 := Aside0.mk A90
        clear A90
        obtain rfl := Option.some.inj H
        go_enter Tryd.func3, Tryd.ntmps3
        go_wp2_with (first | ((with_reducible refine gate_callee (f := 18) rfl ?_); refine goesL_ (some 7) rfl rfl Tryd.func18 (by kernel_rfl) rfl #[.slice A0 l0.length c0] rfl (by (try simp only [List.map_toArray, List.map_cons, List.map_nil]); first | done | rfl | (simp only [List.length_drop, List.length_take]; rfl)) ?_; (with_reducible refine (lampblacklaw03_Few.calls _ _ l0 t144 _ ?side1 ?side2 A2.out).mono ?_); (case side1 => repeat (first | exact HR0.out | (with_reducible refine Kd.C_alloc ?_ _) | (with_reducible refine Kd.C_drewN ?_ _) | (with_reducible refine Kd.C_drew ?_))); (case side2 => exact HC0.out); rintro e w10 ⟨v145, rfl, ho0, hb⟩; refine ⟨_, rfl, ?_⟩; have n0_ := Aside0.mk (Kd.R_lower ho0 (below_size (by repeat (first | (with_reducible first | exact HB.out | apply below_alloc | apply pw_below_drewN | apply below_drew1) | exact HB.out)))); have n1_ := Aside0.mk (below_step (by repeat (first | (with_reducible first | exact HB.out | apply below_alloc | apply pw_below_drewN | apply below_drew1) | exact HB.out)) hb); clear HB; have HO146 := n0_; have HB := n1_; clear n0_ n1_; (try clear hb); (try clear hb2); (try clear hk); (try clear hi); (try clear ho0); obtain ⟨Ao11, co11, eo11⟩ := Kd.R_slice HO146.out; subst eo11) | ((with_reducible refine gate_callee (f := 17) rfl ?_); refine goesL_ (some 8) rfl rfl Tryd.func17 (by kernel_rfl) rfl #[.slice Ao11 t144.length co11] rfl (by (try simp only [List.map_toArray, List.map_cons, List.map_nil]); first | done | rfl | (simp only [List.length_drop, List.length_take]; rfl)) ?_; (with_reducible refine (sweep_Least.calls (hGL := (by repeat (first | (with_reducible exact HGL.out) | (with_reducible exact GL_below HGL.out HB.out) | (with_reducible refine GL_alloc ?_ _) | (with_reducible refine GL_drewN ?_ _) | (with_reducible refine GL_drew ?_)))) k _ _ t144 t147 t148 _ ?side1 ?side2 A3.out).mono ?_); (case side1 => repeat (first | exact (Kd.R_reads' HO146.out).2.2 | (with_reducible refine Kd.C_alloc ?_ _) | (with_reducible refine Kd.C_drewN ?_ _) | (with_reducible refine Kd.C_drew ?_))); (case side2 => exact (Kd.R_reads' HO146.out).2.1); rintro e w12 ⟨rfl, hb⟩; refine ⟨_, rfl, ?_⟩; have n0_ := Aside0.mk (Kd.R_below (by (with_reducible repeat (first | apply Kd.R_alloc | apply Kd.R_drewN | apply Kd.R_drew)); exact HO146.out) hb); have n1_ := Aside0.mk (below_step (by repeat (first | (with_reducible first | exact HB.out | apply below_alloc | apply pw_below_drewN | apply below_drew1) | exact HB.out)) hb); clear HO146; clear HB; have HO146 := n0_; have HB := n1_; clear n0_ n1_; (try clear hb); (try clear hb2); (try clear hk); (try clear hi)) | ((with_reducible refine gate_callee (f := 19) rfl ?_); refine goesL_ (some 12) rfl rfl Tryd.func19 (by kernel_rfl) rfl #[.slice A0 l0.length c0] rfl (by (try simp only [List.map_toArray, List.map_cons, List.map_nil]); first | done | rfl | (simp only [List.length_drop, List.length_take]; rfl)) ?_; (with_reducible refine (lampblackref03_Valid.calls k _ _ l0 true _ ?side1 ?side2 A4.out).mono ?_); (case side1 => repeat (first | exact (Kd.C_below HR0.out HB.out) | (with_reducible refine Kd.C_alloc ?_ _) | (with_reducible refine Kd.C_drewN ?_ _) | (with_reducible refine Kd.C_drew ?_))); (case side2 => exact HC0.out); rintro e w' ⟨rfl, ⟨nd, rfl⟩⟩; refine ⟨_, rfl, ?_⟩) | ((with_reducible refine gate_callee (f := 21) rfl ?_); refine goesL_ (some 25) rfl rfl Tryd.func21 (by kernel_rfl) rfl #[.slice A0 l0.length c0] rfl (by (try simp only [List.map_toArray, List.map_cons, List.map_nil]); first | done | rfl | (simp only [List.length_drop, List.length_take]; rfl)) ?_; (with_reducible refine (lampblackref03_PathWidth.calls k _ _ l0 t150 _ ?side1 ?side2 A6.out).mono ?_); (case side1 => repeat (first | exact (Kd.C_below HR0.out (by repeat (first | (with_reducible first | exact HB.out | apply below_alloc | apply pw_below_drewN | apply below_drew1) | exact HB.out))) | (with_reducible refine Kd.C_alloc ?_ _) | (with_reducible refine Kd.C_drewN ?_ _) | (with_reducible refine Kd.C_drew ?_))); (case side2 => exact HC0.out); rintro e w13 ⟨rfl, hb⟩; refine ⟨_, rfl, ?_⟩; have n0_ := Aside0.mk (Kd.R_below (by (with_reducible repeat (first | apply Kd.R_alloc | apply Kd.R_drewN | apply Kd.R_drew)); exact HO146.out) hb); have n1_ := Aside0.mk (below_step (by repeat (first | (with_reducible first | exact HB.out | apply below_alloc | apply pw_below_drewN | apply below_drew1) | exact HB.out)) hb); clear HO146; clear HB; have HO146 := n0_; have HB := n1_; clear n0_ n1_; (try clear hb); (try clear hb2); (try clear hk); (try clear hi)) | (go_at_call 20; (with_reducible refine (lampblacklaw03_awake.calls (hGL := (by repeat (first | (with_reducible exact HGL.out) | (with_reducible exact GL_below HGL.out HB.out) | (with_reducible refine GL_alloc ?_ _) | (with_reducible refine GL_drewN ?_ _) | (with_reducible refine GL_drew ?_)))) k  t151 _ A9.out).mono ?_); rintro e w14 ⟨rfl, hb⟩; have n0_ := Aside0.mk (Kd.R_below (by (with_reducible repeat (first | apply Kd.R_alloc | apply Kd.R_drewN | apply Kd.R_drew)); exact HO146.out) hb); have n1_ := Aside0.mk (below_step (by repeat (first | (with_reducible first | exact HB.out | apply below_alloc | apply pw_below_drewN | apply below_drew1) | exact HB.out)) hb); clear HO146; clear HB; have HO146 := n0_; have HB := n1_; clear n0_ n1_; (try clear hb); (try clear hb2); (try clear hk); (try clear hi)))
        go_ret
        exact ⟨by first | rfl | (simp [errW_none, errW_some] <;> rfl) | (simp [*, errW_none, errW_some] <;> rfl), by repeat (first | (with_reducible first | exact HB.out | apply below_alloc | apply pw_below_drewN | apply below_drew1) | exact HB.out)⟩
      · rw [if_neg c8] at H
        have c8b0 : (t148 == 0) = false := beq_eq_false_iff_ne.mpr c8
        have c8b1 : (t148 != 0) = true := bne_iff_ne.mpr c8
        obtain rfl := Option.some.inj H
        go_enter Tryd.func3, Tryd.ntmps3
        go_wp2_with (first | ((with_reducible refine gate_callee (f := 18) rfl ?_); refine goesL_ (some 7) rfl rfl Tryd.func18 (by kernel_rfl) rfl #[.slice A0 l0.length c0] rfl (by (try simp only [List.map_toArray, List.map_cons, List.map_nil]); first | done | rfl | (simp only [List.length_drop, List.length_take]; rfl)) ?_; (with_reducible refine (lampblacklaw03_Few.calls _ _ l0 t144 _ ?side1 ?side2 A2.out).mono ?_); (case side1 => repeat (first | exact HR0.out | (with_reducible refine Kd.C_alloc ?_ _) | (with_reducible refine Kd.C_drewN ?_ _) | (with_reducible refine Kd.C_drew ?_))); (case side2 => exact HC0.out); rintro e w15 ⟨v145, rfl, ho0, hb⟩; refine ⟨_, rfl, ?_⟩; have n0_ := Aside0.mk (Kd.R_lower ho0 (below_size (by repeat (first | (with_reducible first | exact HB.out | apply below_alloc | apply pw_below_drewN | apply below_drew1) | exact HB.out)))); have n1_ := Aside0.mk (below_step (by repeat (first | (with_reducible first | exact HB.out | apply below_alloc | apply pw_below_drewN | apply below_drew1) | exact HB.out)) hb); clear HB; have HO146 := n0_; have HB := n1_; clear n0_ n1_; (try clear hb); (try clear hb2); (try clear hk); (try clear hi); (try clear ho0); obtain ⟨Ao16, co16, eo16⟩ := Kd.R_slice HO146.out; subst eo16) | ((with_reducible refine gate_callee (f := 17) rfl ?_); refine goesL_ (some 8) rfl rfl Tryd.func17 (by kernel_rfl) rfl #[.slice Ao16 t144.length co16] rfl (by (try simp only [List.map_toArray, List.map_cons, List.map_nil]); first | done | rfl | (simp only [List.length_drop, List.length_take]; rfl)) ?_; (with_reducible refine (sweep_Least.calls (hGL := (by repeat (first | (with_reducible exact HGL.out) | (with_reducible exact GL_below HGL.out HB.out) | (with_reducible refine GL_alloc ?_ _) | (with_reducible refine GL_drewN ?_ _) | (with_reducible refine GL_drew ?_)))) k _ _ t144 t147 t148 _ ?side1 ?side2 A3.out).mono ?_); (case side1 => repeat (first | exact (Kd.R_reads' HO146.out).2.2 | (with_reducible refine Kd.C_alloc ?_ _) | (with_reducible refine Kd.C_drewN ?_ _) | (with_reducible refine Kd.C_drew ?_))); (case side2 => exact (Kd.R_reads' HO146.out).2.1); rintro e w17 ⟨rfl, hb⟩; refine ⟨_, rfl, ?_⟩; have n0_ := Aside0.mk (Kd.R_below (by (with_reducible repeat (first | apply Kd.R_alloc | apply Kd.R_drewN | apply Kd.R_drew)); exact HO146.out) hb); have n1_ := Aside0.mk (below_step (by repeat (first | (with_reducible first | exact HB.out | apply below_alloc | apply pw_below_drewN | apply below_drew1) | exact HB.out)) hb); clear HO146; clear HB; have HO146 := n0_; have HB := n1_; clear n0_ n1_; (try clear hb); (try clear hb2); (try clear hk); (try clear hi)) | ((with_reducible refine gate_callee (f := 19) rfl ?_); refine goesL_ (some 12) rfl rfl Tryd.func19 (by kernel_rfl) rfl #[.slice A0 l0.length c0] rfl (by (try simp only [List.map_toArray, List.map_cons, List.map_nil]); first | done | rfl | (simp only [List.length_drop, List.length_take]; rfl)) ?_; (with_reducible refine (lampblackref03_Valid.calls k _ _ l0 true _ ?side1 ?side2 A4.out).mono ?_); (case side1 => repeat (first | exact (Kd.C_below HR0.out HB.out) | (with_reducible refine Kd.C_alloc ?_ _) | (with_reducible refine Kd.C_drewN ?_ _) | (with_reducible refine Kd.C_drew ?_))); (case side2 => exact HC0.out); rintro e w' ⟨rfl, ⟨nd, rfl⟩⟩; refine ⟨_, rfl, ?_⟩) | ((with_reducible refine gate_callee (f := 21) rfl ?_); refine goesL_ (some 25) rfl rfl Tryd.func21 (by kernel_rfl) rfl #[.slice A0 l0.length c0] rfl (by (try simp only [List.map_toArray, List.map_cons, List.map_nil]); first | done | rfl | (simp only [List.length_drop, List.length_take]; rfl)) ?_; (with_reducible refine (lampblackref03_PathWidth.calls k _ _ l0 t150 _ ?side1 ?side2 A6.out).mono ?_); (case side1 => repeat (first | exact (Kd.C_below HR0.out (by repeat (first | (with_reducible first | exact HB.out | apply below_alloc | apply pw_below_drewN | apply below_drew1) | exact HB.out))) | (with_reducible refine Kd.C_alloc ?_ _) | (with_reducible refine Kd.C_drewN ?_ _) | (with_reducible refine Kd.C_drew ?_))); (case side2 => exact HC0.out); rintro e w18 ⟨rfl, hb⟩; refine ⟨_, rfl, ?_⟩; have n0_ := Aside0.mk (Kd.R_below (by (with_reducible repeat (first | apply Kd.R_alloc | apply Kd.R_drewN | apply Kd.R_drew)); exact HO146.out) hb); have n1_ := Aside0.mk (below_step (by repeat (first | (with_reducible first | exact HB.out | apply below_alloc | apply pw_below_drewN | apply below_drew1) | exact HB.out)) hb); clear HO146; clear HB; have HO146 := n0_; have HB := n1_; clear n0_ n1_; (try clear hb); (try clear hb2); (try clear hk); (try clear hi)))
        go_ret
        exact ⟨by first | rfl | (simp [errW_none, errW_some] <;> rfl) | (simp [*, errW_none, errW_some] <;> rfl), by repeat (first | (with_reducible first | exact HB.out | apply below_alloc | apply pw_below_drewN | apply below_drew1) | exact HB.out)⟩
    · rw [if_neg c7] at H
      have c7b0 : (t147 == (wrap64 (t150 + 1))) = false := beq_eq_false_iff_ne.mpr c7
      have c7b1 : (t147 != (wrap64 (t150 + 1))) = true := bne_iff_ne.mpr c7
      obtain rfl := Option.some.inj H
      go_enter Tryd.func3, Tryd.ntmps3
      go_wp2_with (first | ((with_reducible refine gate_callee (f := 18) rfl ?_); refine goesL_ (some 7) rfl rfl Tryd.func18 (by kernel_rfl) rfl #[.slice A0 l0.length c0] rfl (by (try simp only [List.map_toArray, List.map_cons, List.map_nil]); first | done | rfl | (simp only [List.length_drop, List.length_take]; rfl)) ?_; (with_reducible refine (lampblacklaw03_Few.calls _ _ l0 t144 _ ?side1 ?side2 A2.out).mono ?_); (case side1 => repeat (first | exact HR0.out | (with_reducible refine Kd.C_alloc ?_ _) | (with_reducible refine Kd.C_drewN ?_ _) | (with_reducible refine Kd.C_drew ?_))); (case side2 => exact HC0.out); rintro e w19 ⟨v145, rfl, ho0, hb⟩; refine ⟨_, rfl, ?_⟩; have n0_ := Aside0.mk (Kd.R_lower ho0 (below_size (by repeat (first | (with_reducible first | exact HB.out | apply below_alloc | apply pw_below_drewN | apply below_drew1) | exact HB.out)))); have n1_ := Aside0.mk (below_step (by repeat (first | (with_reducible first | exact HB.out | apply below_alloc | apply pw_below_drewN | apply below_drew1) | exact HB.out)) hb); clear HB; have HO146 := n0_; have HB := n1_; clear n0_ n1_; (try clear hb); (try clear hb2); (try clear hk); (try clear hi); (try clear ho0); obtain ⟨Ao20, co20, eo20⟩ := Kd.R_slice HO146.out; subst eo20) | ((with_reducible refine gate_callee (f := 17) rfl ?_); refine goesL_ (some 8) rfl rfl Tryd.func17 (by kernel_rfl) rfl #[.slice Ao20 t144.length co20] rfl (by (try simp only [List.map_toArray, List.map_cons, List.map_nil]); first | done | rfl | (simp only [List.length_drop, List.length_take]; rfl)) ?_; (with_reducible refine (sweep_Least.calls (hGL := (by repeat (first | (with_reducible exact HGL.out) | (with_reducible exact GL_below HGL.out HB.out) | (with_reducible refine GL_alloc ?_ _) | (with_reducible refine GL_drewN ?_ _) | (with_reducible refine GL_drew ?_)))) k _ _ t144 t147 t148 _ ?side1 ?side2 A3.out).mono ?_); (case side1 => repeat (first | exact (Kd.R_reads' HO146.out).2.2 | (with_reducible refine Kd.C_alloc ?_ _) | (with_reducible refine Kd.C_drewN ?_ _) | (with_reducible refine Kd.C_drew ?_))); (case side2 => exact (Kd.R_reads' HO146.out).2.1); rintro e w21 ⟨rfl, hb⟩; refine ⟨_, rfl, ?_⟩; have n0_ := Aside0.mk (Kd.R_below (by (with_reducible repeat (first | apply Kd.R_alloc | apply Kd.R_drewN | apply Kd.R_drew)); exact HO146.out) hb); have n1_ := Aside0.mk (below_step (by repeat (first | (with_reducible first | exact HB.out | apply below_alloc | apply pw_below_drewN | apply below_drew1) | exact HB.out)) hb); clear HO146; clear HB; have HO146 := n0_; have HB := n1_; clear n0_ n1_; (try clear hb); (try clear hb2); (try clear hk); (try clear hi)) | ((with_reducible refine gate_callee (f := 19) rfl ?_); refine goesL_ (some 12) rfl rfl Tryd.func19 (by kernel_rfl) rfl #[.slice A0 l0.length c0] rfl (by (try simp only [List.map_toArray, List.map_cons, List.map_nil]); first | done | rfl | (simp only [List.length_drop, List.length_take]; rfl)) ?_; (with_reducible refine (lampblackref03_Valid.calls k _ _ l0 true _ ?side1 ?side2 A4.out).mono ?_); (case side1 => repeat (first | exact (Kd.C_below HR0.out HB.out) | (with_reducible refine Kd.C_alloc ?_ _) | (with_reducible refine Kd.C_drewN ?_ _) | (with_reducible refine Kd.C_drew ?_))); (case side2 => exact HC0.out); rintro e w' ⟨rfl, ⟨nd, rfl⟩⟩; refine ⟨_, rfl, ?_⟩) | ((with_reducible refine gate_callee (f := 21) rfl ?_); refine goesL_ (some 25) rfl rfl Tryd.func21 (by kernel_rfl) rfl #[.slice A0 l0.length c0] rfl (by (try simp only [List.map_toArray, List.map_cons, List.map_nil]); first | done | rfl | (simp only [List.length_drop, List.length_take]; rfl)) ?_; (with_reducible refine (lampblackref03_PathWidth.calls k _ _ l0 t150 _ ?side1 ?side2 A6.out).mono ?_); (case side1 => repeat (first | exact (Kd.C_below HR0.out (by repeat (first | (with_reducible first | exact HB.out | apply below_alloc | apply pw_below_drewN | apply below_drew1) | exact HB.out))) | (with_reducible refine Kd.C_alloc ?_ _) | (with_reducible refine Kd.C_drewN ?_ _) | (with_reducible refine Kd.C_drew ?_))); (case side2 => exact HC0.out); rintro e w22 ⟨rfl, hb⟩; refine ⟨_, rfl, ?_⟩; have n0_ := Aside0.mk (Kd.R_below (by (with_reducible repeat (first | apply Kd.R_alloc | apply Kd.R_drewN | apply Kd.R_drew)); exact HO146.out) hb); have n1_ := Aside0.mk (below_step (by repeat (first | (with_reducible first | exact HB.out | apply below_alloc | apply pw_below_drewN | apply below_drew1) | exact HB.out)) hb); clear HO146; clear HB; have HO146 := n0_; have HB := n1_; clear n0_ n1_; (try clear hb); (try clear hb2); (try clear hk); (try clear hi)))
      go_ret
      exact ⟨by first | rfl | (simp [errW_none, errW_some] <;> rfl) | (simp [*, errW_none, errW_some] <;> rfl), by repeat (first | (with_reducible first | exact HB.out | apply below_alloc | apply pw_below_drewN | apply below_drew1) | exact HB.out)⟩
  · replace c5 := Bool.eq_false_iff.mpr c5
    subst c5
    have H1 : (if t147 = 0 then (if t148 = 2 then ((lampblacklaw03_awake.f k).bind fun t152 => (some t152)) else (some false)) else (some false)) = some r := by rw [if_neg (show ¬ (false = true) by decide)] at H; exact H
    clear H
    have H := H1
    clear H1
    by_cases c23 : t147 = 0
    · rw [if_pos c23] at H
      have c23b0 : (t147 == 0) = true := beq_iff_eq.mpr c23
      have c23b1 : (t147 != 0) = false := bne_eq_false_iff_eq.mpr c23
      clear c23
      by_cases c24 : t148 = 2
      · rw [if_pos c24] at H
        have c24b0 : (t148 == 2) = true := beq_iff_eq.mpr c24
        have c24b1 : (t148 != 2) = false := bne_eq_false_iff_eq.mpr c24
        clear c24
        replace H := Option.bind_eq_some_iff.mp H
        obtain ⟨t152, A250, H⟩ := H
        replace H : (some t152) = some r := H
        have A25 := Aside0.mk A250
        clear A250
        obtain rfl := Option.some.inj H
        go_enter Tryd.func3, Tryd.ntmps3
        go_wp2_with (first | ((with_reducible refine gate_callee (f := 18) rfl ?_); refine goesL_ (some 7) rfl rfl Tryd.func18 (by kernel_rfl) rfl #[.slice A0 l0.length c0] rfl (by (try simp only [List.map_toArray, List.map_cons, List.map_nil]); first | done | rfl | (simp only [List.length_drop, List.length_take]; rfl)) ?_; (with_reducible refine (lampblacklaw03_Few.calls _ _ l0 t144 _ ?side1 ?side2 A2.out).mono ?_); (case side1 => repeat (first | exact HR0.out | (with_reducible refine Kd.C_alloc ?_ _) | (with_reducible refine Kd.C_drewN ?_ _) | (with_reducible refine Kd.C_drew ?_))); (case side2 => exact HC0.out); rintro e w26 ⟨v145, rfl, ho0, hb⟩; refine ⟨_, rfl, ?_⟩; have n0_ := Aside0.mk (Kd.R_lower ho0 (below_size (by repeat (first | (with_reducible first | exact HB.out | apply below_alloc | apply pw_below_drewN | apply below_drew1) | exact HB.out)))); have n1_ := Aside0.mk (below_step (by repeat (first | (with_reducible first | exact HB.out | apply below_alloc | apply pw_below_drewN | apply below_drew1) | exact HB.out)) hb); clear HB; have HO146 := n0_; have HB := n1_; clear n0_ n1_; (try clear hb); (try clear hb2); (try clear hk); (try clear hi); (try clear ho0); obtain ⟨Ao27, co27, eo27⟩ := Kd.R_slice HO146.out; subst eo27) | ((with_reducible refine gate_callee (f := 17) rfl ?_); refine goesL_ (some 8) rfl rfl Tryd.func17 (by kernel_rfl) rfl #[.slice Ao27 t144.length co27] rfl (by (try simp only [List.map_toArray, List.map_cons, List.map_nil]); first | done | rfl | (simp only [List.length_drop, List.length_take]; rfl)) ?_; (with_reducible refine (sweep_Least.calls (hGL := (by repeat (first | (with_reducible exact HGL.out) | (with_reducible exact GL_below HGL.out HB.out) | (with_reducible refine GL_alloc ?_ _) | (with_reducible refine GL_drewN ?_ _) | (with_reducible refine GL_drew ?_)))) k _ _ t144 t147 t148 _ ?side1 ?side2 A3.out).mono ?_); (case side1 => repeat (first | exact (Kd.R_reads' HO146.out).2.2 | (with_reducible refine Kd.C_alloc ?_ _) | (with_reducible refine Kd.C_drewN ?_ _) | (with_reducible refine Kd.C_drew ?_))); (case side2 => exact (Kd.R_reads' HO146.out).2.1); rintro e w28 ⟨rfl, hb⟩; refine ⟨_, rfl, ?_⟩; have n0_ := Aside0.mk (Kd.R_below (by (with_reducible repeat (first | apply Kd.R_alloc | apply Kd.R_drewN | apply Kd.R_drew)); exact HO146.out) hb); have n1_ := Aside0.mk (below_step (by repeat (first | (with_reducible first | exact HB.out | apply below_alloc | apply pw_below_drewN | apply below_drew1) | exact HB.out)) hb); clear HO146; clear HB; have HO146 := n0_; have HB := n1_; clear n0_ n1_; (try clear hb); (try clear hb2); (try clear hk); (try clear hi)) | ((with_reducible refine gate_callee (f := 19) rfl ?_); refine goesL_ (some 12) rfl rfl Tryd.func19 (by kernel_rfl) rfl #[.slice A0 l0.length c0] rfl (by (try simp only [List.map_toArray, List.map_cons, List.map_nil]); first | done | rfl | (simp only [List.length_drop, List.length_take]; rfl)) ?_; (with_reducible refine (lampblackref03_Valid.calls k _ _ l0 false _ ?side1 ?side2 A4.out).mono ?_); (case side1 => repeat (first | exact (Kd.C_below HR0.out HB.out) | (with_reducible refine Kd.C_alloc ?_ _) | (with_reducible refine Kd.C_drewN ?_ _) | (with_reducible refine Kd.C_drew ?_))); (case side2 => exact HC0.out); rintro e w' ⟨rfl, ⟨nd, rfl⟩⟩; refine ⟨_, rfl, ?_⟩) | (go_at_call 20; (with_reducible refine (lampblacklaw03_awake.calls (hGL := (by repeat (first | (with_reducible exact HGL.out) | (with_reducible exact GL_below HGL.out HB.out) | (with_reducible refine GL_alloc ?_ _) | (with_reducible refine GL_drewN ?_ _) | (with_reducible refine GL_drew ?_)))) k  t152 _ A25.out).mono ?_); rintro e w29 ⟨rfl, hb⟩; have n0_ := Aside0.mk (Kd.R_below (by (with_reducible repeat (first | apply Kd.R_alloc | apply Kd.R_drewN | apply Kd.R_drew)); exact HO146.out) hb); have n1_ := Aside0.mk (below_step (by repeat (first | (with_reducible first | exact HB.out | apply below_alloc | apply pw_below_drewN | apply below_drew1) | exact HB.out)) hb); clear HO146; clear HB; have HO146 := n0_; have HB := n1_; clear n0_ n1_; (try clear hb); (try clear hb2); (try clear hk); (try clear hi)))
        go_ret
        exact ⟨by first | rfl | (simp [errW_none, errW_some] <;> rfl) | (simp [*, errW_none, errW_some] <;> rfl), by repeat (first | (with_reducible first | exact HB.out | apply below_alloc | apply pw_below_drewN | apply below_drew1) | exact HB.out)⟩
      · rw [if_neg c24] at H
        have c24b0 : (t148 == 2) = false := beq_eq_false_iff_ne.mpr c24
        have c24b1 : (t148 != 2) = true := bne_iff_ne.mpr c24
        obtain rfl := Option.some.inj H
        go_enter Tryd.func3, Tryd.ntmps3
        go_wp2_with (first | ((with_reducible refine gate_callee (f := 18) rfl ?_); refine goesL_ (some 7) rfl rfl Tryd.func18 (by kernel_rfl) rfl #[.slice A0 l0.length c0] rfl (by (try simp only [List.map_toArray, List.map_cons, List.map_nil]); first | done | rfl | (simp only [List.length_drop, List.length_take]; rfl)) ?_; (with_reducible refine (lampblacklaw03_Few.calls _ _ l0 t144 _ ?side1 ?side2 A2.out).mono ?_); (case side1 => repeat (first | exact HR0.out | (with_reducible refine Kd.C_alloc ?_ _) | (with_reducible refine Kd.C_drewN ?_ _) | (with_reducible refine Kd.C_drew ?_))); (case side2 => exact HC0.out); rintro e w30 ⟨v145, rfl, ho0, hb⟩; refine ⟨_, rfl, ?_⟩; have n0_ := Aside0.mk (Kd.R_lower ho0 (below_size (by repeat (first | (with_reducible first | exact HB.out | apply below_alloc | apply pw_below_drewN | apply below_drew1) | exact HB.out)))); have n1_ := Aside0.mk (below_step (by repeat (first | (with_reducible first | exact HB.out | apply below_alloc | apply pw_below_drewN | apply below_drew1) | exact HB.out)) hb); clear HB; have HO146 := n0_; have HB := n1_; clear n0_ n1_; (try clear hb); (try clear hb2); (try clear hk); (try clear hi); (try clear ho0); obtain ⟨Ao31, co31, eo31⟩ := Kd.R_slice HO146.out; subst eo31) | ((with_reducible refine gate_callee (f := 17) rfl ?_); refine goesL_ (some 8) rfl rfl Tryd.func17 (by kernel_rfl) rfl #[.slice Ao31 t144.length co31] rfl (by (try simp only [List.map_toArray, List.map_cons, List.map_nil]); first | done | rfl | (simp only [List.length_drop, List.length_take]; rfl)) ?_; (with_reducible refine (sweep_Least.calls (hGL := (by repeat (first | (with_reducible exact HGL.out) | (with_reducible exact GL_below HGL.out HB.out) | (with_reducible refine GL_alloc ?_ _) | (with_reducible refine GL_drewN ?_ _) | (with_reducible refine GL_drew ?_)))) k _ _ t144 t147 t148 _ ?side1 ?side2 A3.out).mono ?_); (case side1 => repeat (first | exact (Kd.R_reads' HO146.out).2.2 | (with_reducible refine Kd.C_alloc ?_ _) | (with_reducible refine Kd.C_drewN ?_ _) | (with_reducible refine Kd.C_drew ?_))); (case side2 => exact (Kd.R_reads' HO146.out).2.1); rintro e w32 ⟨rfl, hb⟩; refine ⟨_, rfl, ?_⟩; have n0_ := Aside0.mk (Kd.R_below (by (with_reducible repeat (first | apply Kd.R_alloc | apply Kd.R_drewN | apply Kd.R_drew)); exact HO146.out) hb); have n1_ := Aside0.mk (below_step (by repeat (first | (with_reducible first | exact HB.out | apply below_alloc | apply pw_below_drewN | apply below_drew1) | exact HB.out)) hb); clear HO146; clear HB; have HO146 := n0_; have HB := n1_; clear n0_ n1_; (try clear hb); (try clear hb2); (try clear hk); (try clear hi)) | ((with_reducible refine gate_callee (f := 19) rfl ?_); refine goesL_ (some 12) rfl rfl Tryd.func19 (by kernel_rfl) rfl #[.slice A0 l0.length c0] rfl (by (try simp only [List.map_toArray, List.map_cons, List.map_nil]); first | done | rfl | (simp only [List.length_drop, List.length_take]; rfl)) ?_; (with_reducible refine (lampblackref03_Valid.calls k _ _ l0 false _ ?side1 ?side2 A4.out).mono ?_); (case side1 => repeat (first | exact (Kd.C_below HR0.out HB.out) | (with_reducible refine Kd.C_alloc ?_ _) | (with_reducible refine Kd.C_drewN ?_ _) | (with_reducible refine Kd.C_drew ?_))); (case side2 => exact HC0.out); rintro e w' ⟨rfl, ⟨nd, rfl⟩⟩; refine ⟨_, rfl, ?_⟩))
        go_ret
        exact ⟨by first | rfl | (simp [errW_none, errW_some] <;> rfl) | (simp [*, errW_none, errW_some] <;> rfl), by repeat (first | (with_reducible first | exact HB.out | apply below_alloc | apply pw_below_drewN | apply below_drew1) | exact HB.out)⟩
    · rw [if_neg c23] at H
      have c23b0 : (t147 == 0) = false := beq_eq_false_iff_ne.mpr c23
      have c23b1 : (t147 != 0) = true := bne_iff_ne.mpr c23
      obtain rfl := Option.some.inj H
      go_enter Tryd.func3, Tryd.ntmps3
      go_wp2_with (first | ((with_reducible refine gate_callee (f := 18) rfl ?_); refine goesL_ (some 7) rfl rfl Tryd.func18 (by kernel_rfl) rfl #[.slice A0 l0.length c0] rfl (by (try simp only [List.map_toArray, List.map_cons, List.map_nil]); first | done | rfl | (simp only [List.length_drop, List.length_take]; rfl)) ?_; (with_reducible refine (lampblacklaw03_Few.calls _ _ l0 t144 _ ?side1 ?side2 A2.out).mono ?_); (case side1 => repeat (first | exact HR0.out | (with_reducible refine Kd.C_alloc ?_ _) | (with_reducible refine Kd.C_drewN ?_ _) | (with_reducible refine Kd.C_drew ?_))); (case side2 => exact HC0.out); rintro e w33 ⟨v145, rfl, ho0, hb⟩; refine ⟨_, rfl, ?_⟩; have n0_ := Aside0.mk (Kd.R_lower ho0 (below_size (by repeat (first | (with_reducible first | exact HB.out | apply below_alloc | apply pw_below_drewN | apply below_drew1) | exact HB.out)))); have n1_ := Aside0.mk (below_step (by repeat (first | (with_reducible first | exact HB.out | apply below_alloc | apply pw_below_drewN | apply below_drew1) | exact HB.out)) hb); clear HB; have HO146 := n0_; have HB := n1_; clear n0_ n1_; (try clear hb); (try clear hb2); (try clear hk); (try clear hi); (try clear ho0); obtain ⟨Ao34, co34, eo34⟩ := Kd.R_slice HO146.out; subst eo34) | ((with_reducible refine gate_callee (f := 17) rfl ?_); refine goesL_ (some 8) rfl rfl Tryd.func17 (by kernel_rfl) rfl #[.slice Ao34 t144.length co34] rfl (by (try simp only [List.map_toArray, List.map_cons, List.map_nil]); first | done | rfl | (simp only [List.length_drop, List.length_take]; rfl)) ?_; (with_reducible refine (sweep_Least.calls (hGL := (by repeat (first | (with_reducible exact HGL.out) | (with_reducible exact GL_below HGL.out HB.out) | (with_reducible refine GL_alloc ?_ _) | (with_reducible refine GL_drewN ?_ _) | (with_reducible refine GL_drew ?_)))) k _ _ t144 t147 t148 _ ?side1 ?side2 A3.out).mono ?_); (case side1 => repeat (first | exact (Kd.R_reads' HO146.out).2.2 | (with_reducible refine Kd.C_alloc ?_ _) | (with_reducible refine Kd.C_drewN ?_ _) | (with_reducible refine Kd.C_drew ?_))); (case side2 => exact (Kd.R_reads' HO146.out).2.1); rintro e w35 ⟨rfl, hb⟩; refine ⟨_, rfl, ?_⟩; have n0_ := Aside0.mk (Kd.R_below (by (with_reducible repeat (first | apply Kd.R_alloc | apply Kd.R_drewN | apply Kd.R_drew)); exact HO146.out) hb); have n1_ := Aside0.mk (below_step (by repeat (first | (with_reducible first | exact HB.out | apply below_alloc | apply pw_below_drewN | apply below_drew1) | exact HB.out)) hb); clear HO146; clear HB; have HO146 := n0_; have HB := n1_; clear n0_ n1_; (try clear hb); (try clear hb2); (try clear hk); (try clear hi)) | ((with_reducible refine gate_callee (f := 19) rfl ?_); refine goesL_ (some 12) rfl rfl Tryd.func19 (by kernel_rfl) rfl #[.slice A0 l0.length c0] rfl (by (try simp only [List.map_toArray, List.map_cons, List.map_nil]); first | done | rfl | (simp only [List.length_drop, List.length_take]; rfl)) ?_; (with_reducible refine (lampblackref03_Valid.calls k _ _ l0 false _ ?side1 ?side2 A4.out).mono ?_); (case side1 => repeat (first | exact (Kd.C_below HR0.out HB.out) | (with_reducible refine Kd.C_alloc ?_ _) | (with_reducible refine Kd.C_drewN ?_ _) | (with_reducible refine Kd.C_drew ?_))); (case side2 => exact HC0.out); rintro e w' ⟨rfl, ⟨nd, rfl⟩⟩; refine ⟨_, rfl, ?_⟩))
      go_ret
      exact ⟨by first | rfl | (simp [errW_none, errW_some] <;> rfl) | (simp [*, errW_none, errW_some] <;> rfl), by repeat (first | (with_reducible first | exact HB.out | apply below_alloc | apply pw_below_drewN | apply below_drew1) | exact HB.out)⟩

end Go.Proofs.YtijfddobandcdaaDoor.X
end
section
/- The width of a graph: the least k with which all nodes can be eliminated; its step from a set to the set without a node. -/
set_option linter.unusedVariables false
namespace Go.Proofs.YtijfddobandcdaaDoor.T
open Go.RowKit Go.Proofs.YtijfddobandcdaaDoorW.PrintWords Go.Proofs.YtijfddobandcdaaDoorW.PrintLast Go.Proofs.YtijfddobandcdaaDoorW.PrintMore

def ElimG (G : List Nat) (k S : Nat) : Prop := Elim (fun u => u < G.length) (Adj G) k (bset S)
theorem elimG_zero (G : List Nat) (k : Nat) : ElimG G k 0 := Elim.nil.ext fun u => by simp [bset]
theorem elimG_step {m : Nat} {G : List Nat} (hG : Gr m G) {k S : Nat} (hS : S < 2 ^ G.length) (h0 : S ≠ 0) :
    ElimG G k S ↔ ∃ v, bset S v ∧ ElimG G k (diff S (2 ^ v)) ∧ pc (nbset G (diff S (2 ^ v)) v) G.length ≤ k := by
  have nb : ∀ v, bset S v → (AtMost k (Nb (Adj G) (bset (diff S (2 ^ v))) v) ↔ pc (nbset G (diff S (2 ^ v)) v) G.length ≤ k) := fun v hv => by
    rw [← atMost_pc (nbset_lt hG _ _)]
    have e : bset (nbset G (diff S (2 ^ v)) v) = Nb (Adj G) (bset (diff S (2 ^ v))) v := funext fun j => propext (nbset_bit hG (bit_lt hS hv) j)
    rw [e]
  constructor
  · intro h
    unfold ElimG at h
    generalize hT : bset S = T at h
    cases h with
    | nil =>
      exfalso
      apply h0
      apply Nat.eq_of_testBit_eq
      intro i
      have : ¬ bset S i := by rw [hT]; exact id
      unfold bset at this
      simpa using this
    | @snoc S' v h1 hv hs ha =>
      have hv' : bset S v := by rw [hT]; exact .inr rfl
      have e : S' = bset (diff S (2 ^ v)) := funext fun u => propext (by
        rw [diff_bset, hT, two_pow_bit]
        constructor
        · intro h; exact ⟨.inl h, fun e => hs (e ▸ h)⟩
        · rintro ⟨h | h, h'⟩
          · exact h
          · exact (h' h).elim)
      subst e
      exact ⟨v, by rw [← hT]; exact hv', h1, (nb v hv').1 ha⟩
  · rintro ⟨v, hv, h1, h2⟩
    refine (Elim.snoc v h1 (bit_lt hS hv) (fun h => ?_) ((nb v hv).2 h2)).ext fun u => ?_
    · rw [diff_bset] at h
      exact h.2 ((two_pow_bit v v).2 rfl)
    · rw [diff_bset, two_pow_bit]
      constructor
      · rintro (h | h)
        · exact h.1
        · subst h; exact hv
      · intro h
        by_cases e : u = v
        · exact .inr e
        · exact .inl ⟨h, e⟩
theorem diff_lt {S v : Nat} (h : bset S v) : diff S (2 ^ v) < S := by
  have h1 := diff_le S (2 ^ v)
  have h2 : diff S (2 ^ v) ≠ S := fun e => by
    have := (diff_bset S (2 ^ v) v).1 (by rw [e]; exact h)
    exact this.2 ((two_pow_bit v v).2 rfl)
  omega
theorem some_bit {S : Nat} (h : S ≠ 0) : ∃ v, bset S v := by
  apply Classical.byContradiction
  intro hn
  apply h
  apply Nat.eq_of_testBit_eq
  intro i
  have : ¬ bset S i := fun hi => hn ⟨i, hi⟩
  unfold bset at this
  simpa using this
theorem elimG_big {m : Nat} {G : List Nat} (hG : Gr m G) {k : Nat} (hk : G.length ≤ k) : ∀ S, S < 2 ^ G.length → ElimG G k S := by
  intro S
  induction S using Nat.strongRecOn with
  | _ S ih =>
    intro hS
    by_cases h0 : S = 0
    · subst h0; exact elimG_zero G k
    · obtain ⟨v, hv⟩ := some_bit h0
      have hd := diff_lt hv
      exact (elimG_step hG hS h0).2 ⟨v, hv, ih _ hd (by omega), Nat.le_trans (pc_le _ _) hk⟩
theorem pc_more {x n : Nat} (hx : x < 2 ^ n) : ∀ d, pc x (n + d) = pc x n
  | 0 => rfl
  | d + 1 => by
    rw [← Nat.add_assoc]
    simp only [pc]
    rw [pc_more hx d, testBit_ge hx (by omega)]
    rfl
theorem pc_nine {x n : Nat} (hx : x < 2 ^ n) (hn : n ≤ 9) : pc x 9 = pc x n := by
  have := pc_more hx (9 - n)
  rwa [show n + (9 - n) = 9 by omega] at this

/-- W is the width of G. -/
def IsWidth (G : List Nat) (W : Nat) : Prop := ∀ k, W ≤ k ↔ ElimG G k (2 ^ G.length - 1)
theorem IsWidth.uniq {G : List Nat} {a b : Nat} (h : IsWidth G a) (h' : IsWidth G b) : a = b := by
  have h1 := (h b).2 ((h' b).1 (Nat.le_refl _))
  have h2 := (h' a).2 ((h a).1 (Nat.le_refl _))
  omega
theorem all_bit (n u : Nat) : bset (2 ^ n - 1) u ↔ u < n := by
  unfold bset; rw [Nat.testBit_two_pow_sub_one, decide_eq_true_eq]
theorem elimG_all {G : List Nat} {k : Nat} : ElimG G k (2 ^ G.length - 1) ↔ Elim (fun u => u < G.length) (Adj G) k (fun u => u < G.length) := by
  unfold ElimG
  have e : bset (2 ^ G.length - 1) = fun u => u < G.length := funext fun u => propext (all_bit _ u)
  rw [e]
theorem isWidth_iff {G : List Nat} {W : Nat} : IsWidth G W ↔ ∀ k, W ≤ k ↔ Elim (fun u => u < G.length) (Adj G) k (fun u => u < G.length) :=
  ⟨fun h k => (h k).trans elimG_all, fun h k => (h k).trans elimG_all.symm⟩
theorem width_exists {m : Nat} {G : List Nat} (hG : Gr m G) : ∃ W, IsWidth G W ∧ W ≤ G.length := by
  have h2 := Nat.two_pow_pos G.length
  have hall : ElimG G G.length (2 ^ G.length - 1) := elimG_big hG (Nat.le_refl _) _ (by omega)
  have key : ∀ n, ElimG G n (2 ^ G.length - 1) → ∃ W, IsWidth G W ∧ W ≤ n := by
    intro n
    induction n with
    | zero => intro h; exact ⟨0, fun k => ⟨fun _ => Elim.mono h (Nat.zero_le k), fun _ => Nat.zero_le k⟩, Nat.le_refl _⟩
    | succ n ih =>
      intro h
      by_cases h' : ElimG G n (2 ^ G.length - 1)
      · obtain ⟨W, h1, h2⟩ := ih h'; exact ⟨W, h1, by omega⟩
      · refine ⟨n + 1, fun k => ⟨fun hk => Elim.mono h hk, fun hk => ?_⟩, Nat.le_refl _⟩
        apply Classical.byContradiction
        intro hlt
        exact h' (Elim.mono hk (by omega))
  exact key _ hall
end Go.Proofs.YtijfddobandcdaaDoor.T
end
section
/- A node less, an edge less, two neighbours made one: what becomes of a graph, and of its width. -/
set_option linter.unusedVariables false
namespace Go.Proofs.YtijfddobandcdaaDoor.T
open Go.RowKit Go.Proofs.YtijfddobandcdaaDoorW.PrintWords Go.Proofs.YtijfddobandcdaaDoorW.PrintLast Go.Proofs.YtijfddobandcdaaDoorW.PrintMore

/-- The number that a node has when node v is put back. -/
def up (v u : Nat) : Nat := if u < v then u else u + 1
def down (v u : Nat) : Nat := if u < v then u else u - 1
theorem down_up (v u : Nat) : down v (up v u) = u := by
  unfold down up
  by_cases h : u < v
  · rw [if_pos h, if_pos h]
  · rw [if_neg h, if_neg (by omega)]; omega
theorem up_ne (v u : Nat) : up v u ≠ v := by unfold up; split <;> omega
theorem up_inj (v a b : Nat) (h : up v a = up v b) : a = b := by rw [← down_up v a, h, down_up]
theorem up_onto {v u : Nat} (h : u ≠ v) : up v (down v u) = u := by
  unfold up down
  by_cases h1 : u < v
  · rw [if_pos h1, if_pos h1]
  · rw [if_neg h1, if_neg (by omega)]; omega
theorem up_lt {v u n : Nat} (hv : v < n) : up v u < n ↔ u < n - 1 := by unfold up; split <;> omega
/-- A set without node v, the nodes behind it one place ahead. -/
def delbits (v s : Nat) : Nat := (s &&& (2 ^ v - 1)) ||| (s / 2 ^ (v + 1) * 2 ^ v)
theorem delbits_bit (v s j : Nat) : (delbits v s).testBit j = s.testBit (up v j) := by
  unfold delbits up
  rw [Nat.testBit_or, Nat.testBit_and, Nat.testBit_two_pow_sub_one, Nat.testBit_mul_two_pow, Nat.testBit_div_two_pow]
  by_cases h : j < v
  · rw [if_pos h, decide_eq_true h, decide_eq_false (show ¬ v ≤ j by omega)]; simp
  · rw [if_neg h, decide_eq_false h, decide_eq_true (show v ≤ j by omega), show j - v + (v + 1) = j + 1 by omega]; simp
/-- The rows up to i, without row v. -/
def delTo (G : List Nat) (v : Nat) : Nat → List Nat
  | 0 => []
  | i + 1 => if i = v then delTo G v i else delTo G v i ++ [delbits v (G.getD i 0)]
def del (G : List Nat) (v : Nat) : List Nat := delTo G v G.length
theorem delTo_length (G : List Nat) (v : Nat) : ∀ i, (delTo G v i).length = if i ≤ v then i else i - 1
  | 0 => by simp [delTo]
  | i + 1 => by
    have ih := delTo_length G v i
    unfold delTo
    by_cases h : i = v
    · subst h; rw [if_pos rfl, ih]; simp
    · rw [if_neg h, List.length_append, ih]; simp; split <;> split <;> omega
theorem delTo_get (G : List Nat) (v : Nat) : ∀ i u, u < (delTo G v i).length → (delTo G v i).getD u 0 = delbits v (G.getD (up v u) 0)
  | 0, u, h => by simp [delTo] at h
  | i + 1, u, h => by
    have hl := delTo_length G v i
    have ih := delTo_get G v i u
    unfold delTo at h ⊢
    by_cases e : i = v
    · rw [if_pos e] at h ⊢; exact ih h
    · rw [if_neg e] at h ⊢
      by_cases hu : u < (delTo G v i).length
      · rw [← ih hu]
        simp only [List.getD_eq_getElem?_getD]
        rw [List.getElem?_append_left hu]
      · have hu2 : u = (delTo G v i).length := by simp at h; omega
        simp only [List.getD_eq_getElem?_getD]
        rw [List.getElem?_append_right (by omega), hu2]
        have : up v (delTo G v i).length = i := by
          rw [hl]; unfold up
          by_cases h1 : i ≤ v
          · rw [if_pos h1, if_pos (by omega)]
          · rw [if_neg h1, if_neg (by omega)]; omega
        rw [this]
        simp
theorem del_length {G : List Nat} {v : Nat} (hv : v < G.length) : (del G v).length = G.length - 1 := by
  unfold del; rw [delTo_length, if_neg (by omega)]
theorem del_adj {G : List Nat} {v : Nat} (hv : v < G.length) (u w : Nat) : Adj (del G v) u w ↔ u < G.length - 1 ∧ Adj G (up v u) (up v w) := by
  unfold Adj
  by_cases hu : u < G.length - 1
  · have h := delTo_get G v G.length u (by have := del_length hv; unfold del at this; omega)
    have h' : (del G v).getD u 0 = delbits v (G.getD (up v u) 0) := h
    rw [h', delbits_bit]
    exact ⟨fun h => ⟨hu, h⟩, fun h => h.2⟩
  · rw [getD_out (del G v) u (by rw [del_length hv]; omega)]
    simp [hu]
theorem gr_of {m : Nat} {H : List Nat} (h1 : 1 ≤ H.length) (h2 : H.length ≤ m) (h3 : ∀ u w, Adj H u w → w < H.length ∧ Adj H w u ∧ u ≠ w) : Gr m H where
  pos := h1
  most := h2
  lt := fun i hi => lt_of_bits fun j hj => (h3 i j hj).1
  irr := fun i hi => by
    cases hb : (H.getD i 0).testBit i
    · rfl
    · exact ((h3 i i hb).2.2 rfl).elim
  symm := fun i j hi hj => by
    have a := h3 i j
    have b := h3 j i
    unfold Adj at a b
    cases ha : (H.getD i 0).testBit j <;> cases hb : (H.getD j 0).testBit i <;> simp_all
theorem del_gr {m : Nat} {G : List Nat} (hG : Gr m G) {v : Nat} (hv : v < G.length) (hn : 2 ≤ G.length) : Gr m (del G v) := by
  have hl := del_length hv
  refine gr_of (by omega) (by have := hG.most; omega) fun u w h => ?_
  obtain ⟨hu, ha⟩ := (del_adj hv u w).1 h
  have hw := (up_lt hv).1 (hG.adj_lt ha)
  refine ⟨by omega, (del_adj hv w u).2 ⟨hw, hG.adj_symm ha⟩, fun e => ?_⟩
  subst e
  exact hG.adj_irr ha

abbrev Full (G : List Nat) (k : Nat) : Prop := Elim (fun u => u < G.length) (Adj G) k (fun u => u < G.length)
/-- A part of a graph (by a renaming) has no greater width. -/
theorem full_part {m m' : Nat} {G H : List Nat} (hH : Gr m' H) {k : Nat} (φ ψ : Nat → Nat) (hψ : ∀ u, ψ (φ u) = u) (hφ : ∀ u, u < H.length → φ u < G.length)
    (hadj : ∀ u w, Adj H u w → Adj G (φ u) (φ w)) (h : Full G k) : Full H k :=
  (Elim.part (W := fun u => u < H.length) φ ψ hψ (fun _ _ a => hH.adj_lt a) hadj h).ext fun u => ⟨fun h => h.1, fun h => ⟨h, hφ u h⟩⟩
theorem full_del {m : Nat} {G : List Nat} (hG : Gr m G) {v : Nat} (hv : v < G.length) (hn : 2 ≤ G.length) {k : Nat} (h : Full G k) : Full (del G v) k :=
  full_part (m := m) (del_gr hG hv hn) (up v) (down v) (down_up v) (fun u hu => (up_lt hv).2 (by rw [del_length hv] at hu; exact hu)) (fun u w a => ((del_adj hv u w).1 a).2) h
theorem full_more {m : Nat} {G : List Nat} (hG : Gr m G) {v : Nat} (hv : v < G.length) {k : Nat} (h : Full (del G v) k) : Full G (k + 1) := by
  refine Elim.more_all (W := fun u => u < (del G v).length) v (up v) (up_inj v) (fun u => ?_) (up_ne v) (fun _ _ a => hG.adj_lt a) (fun u w a => ?_) h
  · rw [del_length hv]
    constructor
    · intro hu
      by_cases e : u = v
      · exact .inl e
      · exact .inr ⟨down v u, (up_lt hv).1 (by rw [up_onto e]; exact hu), up_onto e⟩
    · rintro (e | ⟨x, hx, rfl⟩)
      · rw [e]; exact hv
      · exact (up_lt hv).2 hx
  · exact (del_adj hv u w).2 ⟨(up_lt hv).1 (hG.adj_lt' a), a⟩
/-- The widths of two graphs, when what eliminates one eliminates the other. -/
theorem width_le {G H : List Nat} {a b d : Nat} (hG : IsWidth G a) (hH : IsWidth H b) (h : ∀ k, Full G k → Full H (k + d)) : b ≤ a + d :=
  (isWidth_iff.1 hH _).2 (h a ((isWidth_iff.1 hG a).1 (Nat.le_refl _)))

/-- H is a graph whose width is that of G or one less. -/
def Less (G H : List Nat) : Prop := Gr 9 H ∧ (∀ k, Full G k → Full H k) ∧ ∀ k, Full H k → Full G (k + 1)
theorem less_del {G : List Nat} (hG : Gr 9 G) {v : Nat} (hv : v < G.length) (hn : 2 ≤ G.length) : Less G (del G v) :=
  ⟨del_gr hG hv hn, fun _ => full_del hG hv hn, fun _ => full_more hG hv⟩
/-- An edge less. -/
theorem less_cut {G H : List Nat} (hG : Gr 9 G) {a b : Nat} (ha : a < G.length) (hn : 2 ≤ G.length) (hl : H.length = G.length)
    (hadj : ∀ u w, Adj H u w ↔ Adj G u w ∧ ¬ (u = a ∧ w = b) ∧ ¬ (u = b ∧ w = a)) : Less G H := by
  have hH : Gr 9 H := gr_of (by omega) (by have := hG.most; omega) fun u w h => by
    obtain ⟨h1, h2, h3⟩ := (hadj u w).1 h
    exact ⟨by rw [hl]; exact hG.adj_lt h1, (hadj w u).2 ⟨hG.adj_symm h1, fun e => h3 ⟨e.2, e.1⟩, fun e => h2 ⟨e.2, e.1⟩⟩, fun e => by subst e; exact hG.adj_irr h1⟩
  refine ⟨hH, fun k h => full_part (m := 9) hH id id (fun _ => rfl) (fun u hu => by rw [hl] at hu; exact hu) (fun u w a => ((hadj u w).1 a).1) h, fun k h => full_more hG ha ?_⟩
  refine full_part (m := 9) (del_gr hG ha hn) (up a) (down a) (down_up a) (fun u hu => by rw [hl]; exact (up_lt ha).2 (by rw [del_length ha] at hu; exact hu)) (fun u w e => ?_) h
  obtain ⟨h1, h2⟩ := (del_adj ha u w).1 e
  exact (hadj _ _).2 ⟨h2, fun e => up_ne a u e.1, fun e => up_ne a w e.2⟩
/-- Two neighbours made one: J is G with b's neighbours as a's, too. -/
theorem less_join {G J : List Nat} (hG : Gr 9 G) {a b : Nat} (hab : Adj G a b) (hl : J.length = G.length)
    (hadj : ∀ u w, Adj J u w ↔ Adj G u w ∨ (w = a ∧ u ≠ a ∧ Adj G b u) ∨ (u = a ∧ w ≠ a ∧ Adj G b w)) : Less G (del J b) := by
  have ha := hG.adj_lt' hab
  have hb := hG.adj_lt hab
  have hne : a ≠ b := fun e => by subst e; exact hG.adj_irr hab
  have hn : 2 ≤ G.length := by omega
  have hJ : Gr 9 J := gr_of (by omega) (by have := hG.most; omega) fun u w h => by
    rcases (hadj u w).1 h with h1 | ⟨h1, h2, h3⟩ | ⟨h1, h2, h3⟩
    · exact ⟨by rw [hl]; exact hG.adj_lt h1, (hadj w u).2 (.inl (hG.adj_symm h1)), fun e => by subst e; exact hG.adj_irr h1⟩
    · subst h1; exact ⟨by omega, (hadj _ _).2 (.inr (.inr ⟨rfl, h2, h3⟩)), h2⟩
    · subst h1; exact ⟨by rw [hl]; exact hG.adj_lt h3, (hadj _ _).2 (.inr (.inl ⟨rfl, h2, h3⟩)), fun e => h2 e.symm⟩
  have hb' : b < J.length := by omega
  have hD := del_gr hJ hb' (by omega)
  refine ⟨hD, fun k h => ?_, fun k h => full_more hG hb ?_⟩
  · have h1 := Elim.contract (adj' := fun u w => u ≠ b ∧ w ≠ b ∧ Adj J u w) a b hab (hG.adj_symm hab) hne ha (fun u w e => by
      obtain ⟨e1, e2, e3⟩ := e
      refine ⟨fun e => by subst e; exact hJ.adj_irr e3, ?_⟩
      have gu : ∀ x, x ≠ b → glue a b x = x := fun x h => by unfold glue; rw [if_neg h]
      have gb : glue a b b = a := by unfold glue; rw [if_pos rfl]
      rcases (hadj u w).1 e3 with h1 | ⟨h1, h2, h3⟩ | ⟨h1, h2, h3⟩
      · exact ⟨u, w, gu u e1, gu w e2, h1⟩
      · subst h1; exact ⟨u, b, gu u e1, gb, hG.adj_symm h3⟩
      · subst h1; exact ⟨b, w, gb, gu w e2, h3⟩) h
    refine (Elim.part (W := fun u => u < (del J b).length) (up b) (down b) (down_up b) (fun _ _ e => hD.adj_lt e) (fun u w e => ⟨up_ne b u, up_ne b w, ((del_adj hb' u w).1 e).2⟩) h1).ext fun u => ⟨fun h => h.1, fun h => ⟨h, up_ne b u, fun x hx => ?_⟩⟩
    by_cases e : x = b
    · rw [e]; exact hb
    · unfold glue at hx
      rw [if_neg e] at hx
      rw [hx]
      exact (up_lt hb).2 (by rw [del_length hb'] at h; omega)
  · refine full_part (m := 9) (del_gr hG hb hn) id id (fun _ => rfl) (fun u hu => by rw [del_length hb] at hu; show u < _; rw [del_length hb']; omega) (fun u w e => ?_) h
    obtain ⟨h1, h2⟩ := (del_adj hb u w).1 e
    exact (del_adj hb' u w).2 ⟨by omega, (hadj _ _).2 (.inl h2)⟩
end Go.Proofs.YtijfddobandcdaaDoor.T
end
section
/- Layouts of a town: the border of a set, what can come behind a set with borders of at most k nodes; a node less, an edge less. -/
set_option linter.unusedVariables false
namespace Go.Proofs.YtijfddobandcdaaDoor.T
open Go.RowKit Go.Proofs.YtijfddobandcdaaDoorW.PrintWords Go.Proofs.YtijfddobandcdaaDoorW.PrintLast Go.Proofs.YtijfddobandcdaaDoorW.PrintMore

/-- The border of a set: those of its nodes that have a neighbour outside. -/
noncomputable def bor (G : List Nat) (S : Nat) : Nat := ofSet (fun j => bset S j ∧ ∃ u, Adj G j u ∧ ¬ bset S u) G.length
theorem bor_bit {m : Nat} {G : List Nat} (hG : Gr m G) (S j : Nat) : bset (bor G S) j ↔ bset S j ∧ ∃ u, Adj G j u ∧ ¬ bset S u := by
  unfold bor
  rw [ofSet_bit]
  exact ⟨fun h => h.2, fun h => ⟨by obtain ⟨_, u, ha, _⟩ := h; exact hG.adj_lt' ha, h⟩⟩
theorem bor_lt (G : List Nat) (S : Nat) : bor G S < 2 ^ G.length := ofSet_lt _ _

/-- All nodes can be laid out behind S with borders of at most k nodes. -/
inductive Lay (G : List Nat) (k : Nat) : Nat → Prop
  | done : Lay G k (2 ^ G.length - 1)
  | step {S v : Nat} : v < G.length → ¬ bset S v → pc (bor G (S ||| 2 ^ v)) 9 ≤ k → Lay G k (S ||| 2 ^ v) → Lay G k S
/-- x is the path width. -/
def IsVs (G : List Nat) (x : Nat) : Prop := ∀ k, x ≤ k ↔ Lay G k 0
theorem IsVs.uniq {G : List Nat} {a b : Nat} (h : IsVs G a) (h' : IsVs G b) : a = b :=
  Nat.le_antisymm ((h b).2 ((h' b).1 (Nat.le_refl _))) ((h' a).2 ((h a).1 (Nat.le_refl _)))

theorem full_bit (n j : Nat) : bset (2 ^ n - 1) j ↔ j < n := by
  unfold bset
  rw [Nat.testBit_two_pow_sub_one, decide_eq_true_eq]
theorem pc_full (x n : Nat) : pc x n ≤ n := pc_le x n
/-- A set whose elements are on a list, or come of another one's elements, has no more. -/
theorem pc_onto {x y n : Nat} (l : List Nat) (g : Nat → Nat) (h : ∀ j, j < n → bset x j → j ∈ l ∨ ∃ i, i < n ∧ bset y i ∧ g i = j) : pc x n ≤ pc y n + l.length := by
  rw [← els_length x n, ← els_length y n]
  have := nodup_le (els_nodup x n) (m := (els y n).map g ++ l) (fun j hj => by
    obtain ⟨h1, h2⟩ := mem_els.1 hj
    rcases h j h1 h2 with h | ⟨i, h3, h4, h5⟩
    · exact List.mem_append_right _ h
    · exact List.mem_append_left _ (List.mem_map.2 ⟨i, mem_els.2 ⟨h3, h4⟩, h5⟩))
  simpa using this

theorem pc_onto0 {x y n : Nat} (g : Nat → Nat) (h : ∀ j, j < n → bset x j → ∃ i, i < n ∧ bset y i ∧ g i = j) : pc x n ≤ pc y n := by
  have := pc_onto (x := x) (y := y) (n := n) [] g (fun j h1 h2 => .inr (h j h1 h2))
  simpa using this
theorem pc_onto1 {x y n : Nat} (a : Nat) (g : Nat → Nat) (h : ∀ j, j < n → bset x j → j = a ∨ ∃ i, i < n ∧ bset y i ∧ g i = j) : pc x n ≤ pc y n + 1 := by
  have := pc_onto (x := x) (y := y) (n := n) [a] g (fun j h1 h2 => (h j h1 h2).imp (fun e => by simp [e]) id)
  simpa using this
/-- What is missing grows less. -/
theorem or_new {S v n : Nat} (hS : S < 2 ^ n) (hv : v < n) : S ||| 2 ^ v < 2 ^ n := or_lt hS (Nat.pow_lt_pow_right (by omega) hv)
theorem or_gt {S v : Nat} (h : ¬ bset S v) : S < S ||| 2 ^ v := by
  have h1 : S ≤ S ||| 2 ^ v := Nat.left_le_or
  rcases Nat.lt_or_ge S (S ||| 2 ^ v) with h2 | h2
  · exact h2
  · have e : S ||| 2 ^ v = S := by omega
    have : bset (S ||| 2 ^ v) v := (or_bset _ _ _).2 (.inr ((two_pow_bit v v).2 rfl))
    rw [e] at this
    exact (h this).elim
theorem missing {S n : Nat} (hS : S < 2 ^ n) (h : S ≠ 2 ^ n - 1) : ∃ v, v < n ∧ ¬ bset S v := by
  apply Classical.byContradiction
  intro hno
  refine h (eq_of_bits fun j => ?_)
  have := full_bit n j
  unfold bset at this
  rw [this]
  refine ⟨fun hj => bit_lt hS hj, fun hj => Classical.byContradiction fun hb => hno ⟨j, hj, hb⟩⟩
theorem lay_big {G : List Nat} {k : Nat} (hk : 9 ≤ k ∨ G.length ≤ k) (hn : G.length ≤ 9) : ∀ d S, 2 ^ G.length - S = d → S < 2 ^ G.length → Lay G k S := by
  intro d
  induction d using Nat.strongRecOn with
  | _ d ih =>
    intro S hd hS
    by_cases h : S = 2 ^ G.length - 1
    · rw [h]; exact .done
    · obtain ⟨v, hv, hb⟩ := missing hS h
      have h1 := or_new hS hv
      have h2 := or_gt hb
      refine .step hv hb ?_ (ih _ (by omega) _ rfl h1)
      have h3 := pc_onto (x := bor G (S ||| 2 ^ v)) (y := 0) (n := 9) (List.range G.length) id (fun j _ hj => .inl (List.mem_range.2 (bit_lt (bor_lt G _) hj)))
      have h4 := pc_le (bor G (S ||| 2 ^ v)) 9
      have h5 : pc 0 9 = 0 := by decide
      rw [List.length_range] at h3
      omega
theorem Lay.mono {G : List Nat} {k k' S : Nat} (h : Lay G k S) (hk : k ≤ k') : Lay G k' S := by
  induction h with
  | done => exact .done
  | step h1 h2 h3 _ ih => exact .step h1 h2 (by omega) ih

/-! A node less. -/
theorem up_of_ne {v j : Nat} (h : j ≠ v) : ∃ i, up v i = j := ⟨down v j, up_onto h⟩
theorem delbits_bset (v s j : Nat) : bset (delbits v s) j ↔ bset s (up v j) := by unfold bset; rw [delbits_bit]
theorem lay_del {m : Nat} {G : List Nat} (hG : Gr m G) (hm : m ≤ 9) {v : Nat} (hv : v < G.length) (hn : 2 ≤ G.length) {k S : Nat} (h : Lay G k S) : Lay (del G v) k (delbits v S) := by
  have hl := del_length hv
  have hD := del_gr hG hv hn
  have hlen := hG.most
  induction h with
  | done =>
    have e : delbits v (2 ^ G.length - 1) = 2 ^ (del G v).length - 1 := eq_of_bits fun j => by
      have h1 := delbits_bset v (2 ^ G.length - 1) j
      have h2 := full_bit (del G v).length j
      have h3 := full_bit G.length (up v j)
      unfold bset at *
      rw [h1, h2, h3, hl]
      exact up_lt hv
    rw [e]
    exact .done
  | @step S u h1 h2 h3 _ ih =>
    by_cases e : u = v
    · have e1 : delbits v (S ||| 2 ^ u) = delbits v S := eq_of_bits fun j => by
        have a := delbits_bset v (S ||| 2 ^ u) j
        have b := delbits_bset v S j
        unfold bset at *
        rw [a, b]
        show bset _ _ ↔ bset _ _
        rw [or_bset, two_pow_bit, e]
        exact ⟨fun h => h.resolve_right (up_ne v j), .inl⟩
      rw [← e1]
      exact ih
    · obtain ⟨x, rfl⟩ := up_of_ne e
      have hx : x < (del G v).length := by rw [hl]; exact (up_lt hv).1 h1
      have e1 : delbits v (S ||| 2 ^ up v x) = delbits v S ||| 2 ^ x := eq_of_bits fun j => by
        show bset _ _ ↔ bset _ _
        rw [delbits_bset, or_bset, or_bset, delbits_bset, two_pow_bit, two_pow_bit]
        exact ⟨fun h => h.imp id (fun h => up_inj v _ _ h), fun h => h.imp id (fun h => by rw [h])⟩
      rw [e1] at ih
      refine .step hx (fun h => h2 ((delbits_bset v S x).1 h)) (Nat.le_trans ?_ h3) ih
      rw [← e1]
      refine pc_onto0 (down v) fun j _ hj => ⟨up v j, ?_, ?_, down_up v j⟩
      · obtain ⟨_, u, hu, _⟩ := (bor_bit hD _ _).1 hj
        have := hG.adj_lt' ((del_adj hv j u).1 hu).2
        omega
      · obtain ⟨h4, u, hu, h5⟩ := (bor_bit hD _ _).1 hj
        exact (bor_bit hG _ _).2 ⟨(delbits_bset _ _ _).1 h4, up v u, ((del_adj hv j u).1 hu).2, fun h => h5 ((delbits_bset _ _ _).2 h)⟩
/-- v put in front of a set of the smaller graph. -/
noncomputable def putv (v n T : Nat) : Nat := ofSet (fun j => j = v ∨ ∃ i, up v i = j ∧ bset T i) n
theorem putv_bit {v n T : Nat} (hv : v < n) (hT : T < 2 ^ (n - 1)) (j : Nat) : bset (putv v n T) j ↔ j = v ∨ ∃ i, up v i = j ∧ bset T i := by
  unfold putv
  rw [ofSet_bit]
  refine ⟨fun h => h.2, fun h => ⟨?_, h⟩⟩
  rcases h with h | ⟨i, rfl, h⟩
  · omega
  · exact (up_lt hv).2 (bit_lt hT h)
theorem lay_lt {G : List Nat} {k S : Nat} (h : Lay G k S) : S < 2 ^ G.length := by
  induction h with
  | done => have := Nat.two_pow_pos G.length; omega
  | step _ _ _ _ ih => exact Nat.lt_of_le_of_lt Nat.left_le_or ih
theorem lay_put {m : Nat} {G : List Nat} (hG : Gr m G) (hm : m ≤ 9) {v : Nat} (hv : v < G.length) (hn : 2 ≤ G.length) {k T : Nat} (h : Lay (del G v) k T) : Lay G (k + 1) (putv v G.length T) := by
  have hl := del_length hv
  have hD := del_gr hG hv hn
  have hlen := hG.most
  induction h with
  | done =>
    have e : putv v G.length (2 ^ (del G v).length - 1) = 2 ^ G.length - 1 := eq_of_bits fun j => by
      show bset _ _ ↔ bset _ _
      rw [putv_bit hv (by rw [hl]; have := Nat.two_pow_pos (G.length - 1); omega), full_bit]
      constructor
      · rintro (h | ⟨i, rfl, h⟩)
        · omega
        · rw [full_bit, hl] at h; exact (up_lt hv).2 h
      · intro h
        by_cases e : j = v
        · exact .inl e
        · obtain ⟨i, rfl⟩ := up_of_ne e
          exact .inr ⟨i, rfl, (full_bit _ _).2 (by rw [hl]; exact (up_lt hv).1 h)⟩
    rw [e]
    exact .done
  | @step T u h1 h2 h3 h4 ih =>
    have hT' : T ||| 2 ^ u < 2 ^ (G.length - 1) := by have := lay_lt h4; rw [hl] at this; exact this
    have hT : T < 2 ^ (G.length - 1) := Nat.lt_of_le_of_lt Nat.left_le_or hT'
    have e1 : putv v G.length (T ||| 2 ^ u) = putv v G.length T ||| 2 ^ up v u := eq_of_bits fun j => by
      show bset _ _ ↔ bset _ _
      rw [putv_bit hv hT', or_bset, putv_bit hv hT, two_pow_bit]
      constructor
      · rintro (h | ⟨i, rfl, h⟩)
        · exact .inl (.inl h)
        · rcases (or_bset _ _ _).1 h with h | h
          · exact .inl (.inr ⟨i, rfl, h⟩)
          · exact .inr (by rw [(two_pow_bit u i).1 h])
      · rintro ((h | ⟨i, rfl, h⟩) | h)
        · exact .inl h
        · exact .inr ⟨i, rfl, (or_bset _ _ _).2 (.inl h)⟩
        · exact .inr ⟨u, h.symm, (or_bset _ _ _).2 (.inr ((two_pow_bit u u).2 rfl))⟩
    rw [e1] at ih
    refine .step ((up_lt hv).2 (by rw [hl] at h1; exact h1)) (fun h => ?_) (Nat.le_trans ?_ (Nat.add_le_add_right h3 1)) ih
    · rcases (putv_bit hv hT _).1 h with h | ⟨i, hi, h⟩
      · exact up_ne v u h
      · rw [up_inj v _ _ hi] at h; exact h2 h
    · rw [← e1]
      refine pc_onto1 v (up v) fun j hj hb => ?_
      obtain ⟨h5, w, hw, h6⟩ := (bor_bit hG _ _).1 hb
      by_cases e : j = v
      · exact .inl e
      · obtain ⟨i, rfl⟩ := up_of_ne e
        have hwv : w ≠ v := fun e => h6 ((putv_bit hv hT' _).2 (.inl e))
        obtain ⟨y, rfl⟩ := up_of_ne hwv
        refine .inr ⟨i, ?_, (bor_bit hD _ _).2 ⟨?_, y, (del_adj hv i y).2 ⟨(up_lt hv).1 (hG.adj_lt' hw), hw⟩, fun h => h6 ((putv_bit hv hT' _).2 (.inr ⟨y, rfl, h⟩))⟩, rfl⟩
        · have := hG.adj_lt' hw
          have := (up_lt hv).1 this
          omega
        · rcases (putv_bit hv hT' _).1 h5 with h | ⟨q, hq, h⟩
          · exact (e h).elim
          · rw [up_inj v _ _ hq] at h; exact h
theorem lay_more {m : Nat} {G : List Nat} (hG : Gr m G) (hm : m ≤ 9) {v : Nat} (hv : v < G.length) (hn : 2 ≤ G.length) {k : Nat} (h : Lay (del G v) k 0) : Lay G (k + 1) 0 := by
  have h0 : (0 : Nat) < 2 ^ (G.length - 1) := Nat.two_pow_pos _
  have e : putv v G.length 0 = 0 ||| 2 ^ v := eq_of_bits fun j => by
    show bset _ _ ↔ bset _ _
    rw [putv_bit hv h0, or_bset, two_pow_bit]
    have z : ∀ i, ¬ bset 0 i := fun i h => by unfold bset at h; simp at h
    exact ⟨fun h => h.elim .inr (fun ⟨i, _, h⟩ => (z i h).elim), fun h => h.elim (fun h => (z j h).elim) .inl⟩
  have h1 := lay_put hG hm hv hn h
  rw [e] at h1
  refine .step hv (fun h => by unfold bset at h; simp at h) ?_ h1
  have := pc_onto (x := bor G (0 ||| 2 ^ v)) (y := 0) (n := 9) [v] id (fun j _ hj => .inl (by
    have h2 := ((bor_bit hG _ _).1 hj).1
    rw [Nat.zero_or] at h2
    simp [(two_pow_bit v j).1 h2]))
  have h5 : pc 0 9 = 0 := by decide
  simp at this
  simp
  omega
theorem delbits_zero (v : Nat) : delbits v 0 = 0 := by unfold delbits; simp

/-! An edge less. -/
theorem lay_cut {m : Nat} {G H : List Nat} (hG : Gr m G) (hH : Gr m H) (hm : m ≤ 9) (hl : H.length = G.length) (hadj : ∀ u w, Adj H u w → Adj G u w) {k S : Nat} (h : Lay G k S) : Lay H k S := by
  induction h with
  | done => rw [← hl]; exact .done
  | @step S u h1 h2 h3 _ ih =>
    refine .step (by rw [hl]; exact h1) h2 (Nat.le_trans ?_ h3) ih
    refine pc_mono 9 fun j hj hb => ?_
    obtain ⟨h4, w, hw, h5⟩ := (bor_bit hH _ _).1 hb
    exact (bor_bit hG _ _).2 ⟨h4, w, hadj _ _ hw, h5⟩
theorem lay_uncut {m : Nat} {G H : List Nat} (hG : Gr m G) (hH : Gr m H) (hm : m ≤ 9) (hl : H.length = G.length) {a b : Nat} (hadj : ∀ u w, Adj G u w → Adj H u w ∨ (u = a ∧ w = b) ∨ (u = b ∧ w = a)) {k S : Nat} (h : Lay H k S) : Lay G (k + 1) S := by
  induction h with
  | done => rw [hl]; exact .done
  | @step S u h1 h2 h3 _ ih =>
    refine .step (by rw [← hl]; exact h1) h2 (Nat.le_trans ?_ (Nat.add_le_add_right h3 1)) ih
    by_cases ha : bset (S ||| 2 ^ u) a
    · refine pc_onto1 a id fun j hj hb => ?_
      obtain ⟨h4, w, hw, h5⟩ := (bor_bit hG _ _).1 hb
      rcases hadj j w hw with h | h | h
      · exact .inr ⟨j, hj, (bor_bit hH _ _).2 ⟨h4, w, h, h5⟩, rfl⟩
      · exact .inl h.1
      · rw [h.2] at h5; exact (h5 ha).elim
    · refine pc_onto1 b id fun j hj hb => ?_
      obtain ⟨h4, w, hw, h5⟩ := (bor_bit hG _ _).1 hb
      rcases hadj j w hw with h | h | h
      · exact .inr ⟨j, hj, (bor_bit hH _ _).2 ⟨h4, w, h, h5⟩, rfl⟩
      · rw [h.1] at h4; exact (ha h4).elim
      · exact .inl h.1
/-- H is a graph whose path width is that of G or one less. -/
def LessV (G H : List Nat) : Prop := Gr 7 H ∧ (∀ k, Lay G k 0 → Lay H k 0) ∧ ∀ k, Lay H k 0 → Lay G (k + 1) 0
theorem lessV_del {G : List Nat} (hG : Gr 7 G) {v : Nat} (hv : v < G.length) (hn : 2 ≤ G.length) : LessV G (del G v) :=
  ⟨del_gr hG hv hn, fun _ h => by have := lay_del hG (by omega) hv hn h; rwa [delbits_zero] at this, fun _ => lay_more hG (by omega) hv hn⟩
theorem lessV_cut {G H : List Nat} (hG : Gr 7 G) (a b : Nat) (hl : H.length = G.length) (hadj : ∀ u w, Adj H u w ↔ Adj G u w ∧ ¬ (u = a ∧ w = b) ∧ ¬ (u = b ∧ w = a)) : LessV G H := by
  have hH : Gr 7 H := gr_of (by have := hG.pos; omega) (by have := hG.most; omega) fun u w h => by
    obtain ⟨h1, h2, h3⟩ := (hadj u w).1 h
    exact ⟨by rw [hl]; exact hG.adj_lt h1, (hadj w u).2 ⟨hG.adj_symm h1, fun e => h3 ⟨e.2, e.1⟩, fun e => h2 ⟨e.2, e.1⟩⟩, fun e => by subst e; exact hG.adj_irr h1⟩
  refine ⟨hH, fun _ => lay_cut hG hH (by omega) hl (fun u w h => ((hadj u w).1 h).1), fun _ => lay_uncut hG hH (by omega) hl (a := a) (b := b) fun u w h => ?_⟩
  by_cases h1 : u = a ∧ w = b
  · exact .inr (.inl h1)
  · by_cases h2 : u = b ∧ w = a
    · exact .inr (.inr h2)
    · exact .inl ((hadj u w).2 ⟨h, h1, h2⟩)
theorem lessV_le {G H : List Nat} {a b : Nat} (hG : IsVs G a) (hH : IsVs H b) (h : LessV G H) : b ≤ a ∧ a ≤ b + 1 :=
  ⟨(hH a).2 (h.2.1 a ((hG a).1 (Nat.le_refl _))), (hG (b + 1)).2 (h.2.2 b ((hH b).1 (Nat.le_refl _)))⟩
end Go.Proofs.YtijfddobandcdaaDoor.T
end
section
/- What read tells: a graph that is valid, or nothing. -/
set_option linter.unusedVariables false
namespace Go.Proofs.YtijfddobandcdaaDoor.X
open Go.RowKit Go.Proofs.YtijfddobandcdaaDoorW.PrintWords Go.Proofs.YtijfddobandcdaaDoorW.PrintLast Go.Proofs.YtijfddobandcdaaDoorW.PrintMore Go.Proofs.YtijfddobandcdaaDoor.T

theorem read_l1 (g : List Int) (hn : g.length ≤ 7) (i : Nat) (hi : i < g.length) (r : List Int × Bool)
    (hrest : Ev (fun k => sweep_read.l0 k g (g.length : Int) g (g.length : Int) ((i + 1 : Nat) : Int)) r) :
    ∀ d j, j + d = g.length → Ev (fun k => sweep_read.l1 k g (g.length : Int) (i : Int) (rd g (i : Int)) g (g.length : Int) (i : Int) (g.length : Int) (j : Int))
      (cond (allFrom (fun j => decide (ibit (rd g (i : Int)) j = ibit (rd g (j : Int)) i)) g.length d j) r (([] : List Int), false)) := by
  intro d
  induction d with
  | zero =>
    intro j hj
    refine Ev.step (fun k => ?_) hrest
    rw [sweep_read.l1, if_neg (by omega), wrap_succ i (by omega)]
  | succ d ih =>
    intro j hj
    simp only [allFrom]
    by_cases hb : ibit (rd g (i : Int)) j = ibit (rd g (j : Int)) i
    · refine Ev.step (f := fun k => sweep_read.l1 k g (g.length : Int) (i : Int) (rd g (i : Int)) g (g.length : Int) (i : Int) (g.length : Int) ((j + 1 : Nat) : Int)) (fun k => ?_) ?_
      · rw [sweep_read.l1, if_pos (by omega), if_pos (by omega), if_pos (by omega), if_pos (by omega), wrap_succ j (by omega)]
        exact if_pos hb
      · have := ih (j + 1) (by omega)
        simpa [hb] using this
    · refine Ev.step (f := fun _ => some (([] : List Int), false)) (fun k => ?_) (Ev.some (by simp [hb]))
      rw [sweep_read.l1, if_pos (by omega), if_pos (by omega), if_pos (by omega), if_pos (by omega)]
      exact if_neg hb

theorem read_l0 (g : List Int) (hn : g.length ≤ 7) :
    ∀ d i, i + d = g.length → Ev (fun k => sweep_read.l0 k g (g.length : Int) g (g.length : Int) (i : Int)) (cond (allFrom (rowOk g) g.length d i) (g, true) (([] : List Int), false)) := by
  intro d
  induction d with
  | zero =>
    intro i hi
    refine Ev.step (f := fun _ => some (g, true)) (fun k => ?_) (Ev.some (by simp [allFrom]))
    rw [sweep_read.l0, if_neg (by omega)]
  | succ d ih =>
    intro i hi
    have stop : ∀ k, sweep_read.j2 (k + 1) g (g.length : Int) (i : Int) (rd g (i : Int)) g (g.length : Int) (i : Int) true = some (([] : List Int), false) := fun k => by
      rw [sweep_read.j2, if_pos rfl]
    simp only [allFrom, rowOk]
    by_cases h1 : rd g (i : Int) < 0
    · refine Ev.step (fun k => ?_) (f := fun k => sweep_read.j2 k g (g.length : Int) (i : Int) (rd g (i : Int)) g (g.length : Int) (i : Int) true) ?_
      · rw [sweep_read.l0, if_pos (by omega), if_pos (by omega), if_pos (by omega), if_pos h1]
      · exact Ev.step stop (Ev.some (by simp [h1]))
    · by_cases h2 : rd g (i : Int) ≥ shl .i64 1 (g.length : Int)
      · refine Ev.step (fun k => ?_) (f := fun k => sweep_read.j2 k g (g.length : Int) (i : Int) (rd g (i : Int)) g (g.length : Int) (i : Int) true) ?_
        · rw [sweep_read.l0, if_pos (by omega), if_pos (by omega), if_pos (by omega), if_neg h1, if_pos (by omega), if_pos h2]
        · exact Ev.step stop (Ev.some (by simp [h2]))
      · refine Ev.step (fun k => ?_) (f := fun k => sweep_read.j2 k g (g.length : Int) (i : Int) (rd g (i : Int)) g (g.length : Int) (i : Int) (ibit (rd g (i : Int)) i == 1)) ?_
        · rw [sweep_read.l0, if_pos (by omega), if_pos (by omega), if_pos (by omega), if_neg h1, if_pos (by omega), if_neg h2]
          rfl
        · by_cases h3 : (ibit (rd g (i : Int)) i == 1) = true
          · simp only [h3]
            exact Ev.step stop (Ev.some (by simp))
          · refine Ev.step (fun k => by rw [sweep_read.j2, if_neg h3]) ?_
            have := read_l1 g hn i (by omega) _ (ih (i + 1) (by omega)) g.length 0 (by omega)
            have h3' : (ibit (rd g (i : Int)) i == 1) = false := by simpa using h3
            simp only [h1, h2, h3', decide_false, Bool.not_false, Bool.true_and]
            cases h4 : allFrom (fun j => decide (ibit (rd g (i : Int)) j = ibit (rd g (j : Int)) i)) g.length g.length 0
            · simpa [h4] using this
            · simpa [h4] using this

theorem read_ev (g : List Int) (hg : g.length < 2 ^ 60) : Ev (fun k => sweep_read.f k g) (cond (chk 7 g) (g, true) (([] : List Int), false)) := by
  have stop : ∀ k, sweep_read.j0 (k + 1) g (g.length : Int) true = some (([] : List Int), false) := fun k => by
    rw [sweep_read.j0, if_pos rfl]
  by_cases h1 : g.length < 1
  · refine Ev.congr (f := fun k => sweep_read.j0 k g (g.length : Int) true) (fun k => ?_) (Ev.step stop (Ev.some ?_))
    · rw [sweep_read.f, if_pos (by omega)]
    · have : ¬ 1 ≤ g.length := by omega
      simp [chk, this]
  · refine Ev.congr (f := fun k => sweep_read.j0 k g (g.length : Int) (decide ((g.length : Int) > 7))) (fun k => ?_) ?_
    · rw [sweep_read.f, if_neg (by omega)]
    · by_cases h2 : g.length ≤ 7
      · have e : decide ((g.length : Int) > 7) = false := decide_eq_false (by omega)
        rw [e]
        refine Ev.step (fun k => by rw [sweep_read.j0, if_neg (by simp)]) ?_
        have := read_l0 g h2 g.length 0 (by omega)
        have h3 : decide (1 ≤ g.length) = true := decide_eq_true (by omega)
        simpa [chk, h2, h3] using this
      · have e : decide ((g.length : Int) > 7) = true := decide_eq_true (by omega)
        rw [e]
        refine Ev.step stop (Ev.some ?_)
        simp [chk, h2]
end Go.Proofs.YtijfddobandcdaaDoor.X
end
section
/- The references' own words: IsGraph. -/
set_option linter.unusedVariables false
namespace Go.Proofs.YtijfddobandcdaaDoor.X
open Go.RowKit Go.Proofs.YtijfddobandcdaaDoorW.PrintWords Go.Proofs.YtijfddobandcdaaDoorW.PrintLast Go.Proofs.YtijfddobandcdaaDoorW.PrintMore Go.Proofs.YtijfddobandcdaaDoor.T

theorem isGraph_l1 (m : Nat) (g : List Int) (hn : g.length ≤ 13) (i : Nat) (hi : i < g.length) (r : Bool)
    (hrest : Ev (fun k => lampblackref01_IsGraph.l0 k g (m : Int) g (g.length : Int) ((i + 1 : Nat) : Int)) r) :
    ∀ d j, j + d = g.length → Ev (fun k => lampblackref01_IsGraph.l1 k g (m : Int) (i : Int) (rd g (i : Int)) g (g.length : Int) (i : Int) (g.length : Int) (j : Int))
      (allFrom (fun j => decide (ibit (rd g (i : Int)) j = ibit (rd g (j : Int)) i)) g.length d j && r) := by
  intro d
  induction d with
  | zero =>
    intro j hj
    refine Ev.step (fun k => ?_) hrest
    rw [lampblackref01_IsGraph.l1, if_neg (by omega), wrap_succ i (by omega)]
  | succ d ih =>
    intro j hj
    simp only [allFrom]
    by_cases hb : ibit (rd g (i : Int)) j = ibit (rd g (j : Int)) i
    · refine Ev.step (f := fun k => lampblackref01_IsGraph.l1 k g (m : Int) (i : Int) (rd g (i : Int)) g (g.length : Int) (i : Int) (g.length : Int) ((j + 1 : Nat) : Int)) (fun k => ?_) ?_
      · rw [lampblackref01_IsGraph.l1, if_pos (by omega), if_pos (by omega), if_pos (by omega), if_pos (by omega), wrap_succ j (by omega)]
        exact if_pos hb
      · have := ih (j + 1) (by omega)
        simpa [hb] using this
    · refine Ev.step (f := fun _ => some false) (fun k => ?_) (Ev.some (by simp [hb]))
      rw [lampblackref01_IsGraph.l1, if_pos (by omega), if_pos (by omega), if_pos (by omega), if_pos (by omega)]
      exact if_neg hb

theorem isGraph_l0 (m : Nat) (hm : m ≤ 13) (g : List Int) (h1 : 1 ≤ g.length) (hn : g.length ≤ m) :
    ∀ d i, i + d = g.length → Ev (fun k => lampblackref01_IsGraph.l0 k g (m : Int) g (g.length : Int) (i : Int)) (allFrom (rowOk g) g.length d i) := by
  intro d
  induction d with
  | zero =>
    intro i hi
    refine Ev.step (f := fun _ => some true) (fun k => ?_) (Ev.some (by simp [allFrom]))
    rw [lampblackref01_IsGraph.l0, if_neg (by omega), if_pos (by omega), decide_eq_true (by omega)]
  | succ d ih =>
    intro i hi
    have stop : ∀ k, lampblackref01_IsGraph.j1 (k + 1) g (m : Int) (i : Int) (rd g (i : Int)) g (g.length : Int) (i : Int) true = some false := fun k => by
      rw [lampblackref01_IsGraph.j1, if_pos rfl]
    simp only [allFrom, rowOk]
    by_cases h1' : rd g (i : Int) < 0
    · refine Ev.step (fun k => ?_) (f := fun k => lampblackref01_IsGraph.j1 k g (m : Int) (i : Int) (rd g (i : Int)) g (g.length : Int) (i : Int) true) ?_
      · rw [lampblackref01_IsGraph.l0, if_pos (by omega), if_pos (by omega), if_pos (by omega), if_neg (by omega), if_pos h1']
      · exact Ev.step stop (Ev.some (by simp [h1']))
    · by_cases h2 : rd g (i : Int) ≥ shl .i64 1 (g.length : Int)
      · refine Ev.step (fun k => ?_) (f := fun k => lampblackref01_IsGraph.j1 k g (m : Int) (i : Int) (rd g (i : Int)) g (g.length : Int) (i : Int) true) ?_
        · rw [lampblackref01_IsGraph.l0, if_pos (by omega), if_pos (by omega), if_pos (by omega), if_neg (by omega), if_neg h1', if_pos h2]
        · exact Ev.step stop (Ev.some (by simp [h2]))
      · refine Ev.step (fun k => ?_) (f := fun k => lampblackref01_IsGraph.j1 k g (m : Int) (i : Int) (rd g (i : Int)) g (g.length : Int) (i : Int) (ibit (rd g (i : Int)) i == 1)) ?_
        · rw [lampblackref01_IsGraph.l0, if_pos (by omega), if_pos (by omega), if_pos (by omega), if_neg (by omega), if_neg h1', if_neg h2]
          rfl
        · by_cases h3 : (ibit (rd g (i : Int)) i == 1) = true
          · simp only [h3]
            exact Ev.step stop (Ev.some (by simp))
          · refine Ev.step (fun k => by rw [lampblackref01_IsGraph.j1, if_neg h3]) ?_
            have := isGraph_l1 m g (by omega) i (by omega) _ (ih (i + 1) (by omega)) g.length 0 (by omega)
            have h3' : (ibit (rd g (i : Int)) i == 1) = false := by simpa using h3
            simp only [h1', h2, h3', decide_false, Bool.not_false, Bool.true_and]
            exact this

theorem isGraph_ev (m : Nat) (hm : m ≤ 13) (g : List Int) (hg : g.length < 2 ^ 60) : Ev (fun k => lampblackref01_IsGraph.f k g (m : Int)) (chk m g) := by
  unfold lampblackref01_IsGraph.f
  by_cases h1 : 1 ≤ g.length
  · by_cases h2 : g.length ≤ m
    · have := isGraph_l0 m hm g h1 h2 g.length 0 (by omega)
      simpa [chk, h1, h2] using this
    · refine Ev.step (f := fun k => lampblackref01_IsGraph.j1 k g (m : Int) 0 (rd g 0) g (g.length : Int) 0 true) (fun k => ?_) (Ev.step (f := fun _ => some false) (fun k => ?_) (Ev.some (by simp [chk, h2])))
      · rw [lampblackref01_IsGraph.l0, if_pos (by omega), if_pos (by omega), if_pos (by omega), if_pos (by omega)]
      · rw [lampblackref01_IsGraph.j1, if_pos rfl]
  · refine Ev.step (f := fun _ => some false) (fun k => ?_) (Ev.some (by simp [chk, h1]))
    rw [lampblackref01_IsGraph.l0, if_neg (by omega), if_neg (by omega)]

end Go.Proofs.YtijfddobandcdaaDoor.X
end
section
/- border, count, layout: what they compute, in plain words; Layout, Least, awake, Few. -/
set_option linter.unusedVariables false
namespace Go.Proofs.YtijfddobandcdaaDoor.X
open Go.RowKit Go.Proofs.YtijfddobandcdaaDoorW.PrintWords Go.Proofs.YtijfddobandcdaaDoorW.PrintLast Go.Proofs.YtijfddobandcdaaDoorW.PrintMore Go.Proofs.YtijfddobandcdaaDoor.T

theorem mx_nat (a b : Nat) : mx (a : Int) (b : Int) = ((max a b : Nat) : Int) := by unfold mx; split <;> omega
theorem mn_nat (a b : Nat) : mn (a : Int) (b : Int) = ((min a b : Nat) : Int) := by unfold mn; split <;> omega
theorem small (G : List Nat) (h : G.length ≤ 9) {x : Nat} (hx : x < 2 ^ G.length) : x < 512 := Nat.lt_of_lt_of_le hx (show 2 ^ G.length ≤ 2 ^ 9 from Nat.pow_le_pow_right (by omega) h)
theorem big {x : Nat} (h : x < 512) : x < 2 ^ 62 := by omega
theorem ctz_all : ∀ z : Fin 512, 0 < z.val → Lib.ctz 64 z.val < 9 ∧ z.val.testBit (Lib.ctz 64 z.val) = true ∧ rest z.val = diff z.val (2 ^ Lib.ctz 64 z.val) ∧ ∀ j : Fin 9, z.val.testBit j.val = true → Lib.ctz 64 z.val ≤ j.val := by decide +kernel
theorem ctz_bit {z : Nat} (hz : z < 512) (h0 : z ≠ 0) : bset z (Lib.ctz 64 z) := (ctz_all ⟨z, hz⟩ (by show 0 < z; omega)).2.1
theorem ctz_low {z : Nat} (hz : z < 512) (h0 : z ≠ 0) {j : Nat} (hj : bset z j) : Lib.ctz 64 z ≤ j := (ctz_all ⟨z, hz⟩ (by show 0 < z; omega)).2.2.2 ⟨j, bit_lt (n := 9) (by omega) hj⟩ hj
theorem rest_diff {z : Nat} (hz : z < 512) (h0 : z ≠ 0) : rest z = diff z (2 ^ Lib.ctz 64 z) := (ctz_all ⟨z, hz⟩ (by show 0 < z; omega)).2.2.1
theorem rest_bset {z : Nat} (hz : z < 512) (h0 : z ≠ 0) (j : Nat) : bset (rest z) j ↔ bset z j ∧ j ≠ Lib.ctz 64 z := by
  rw [rest_diff hz h0, diff_bset, two_pow_bit]
theorem rest_pc {z : Nat} (hz : z < 512) (h0 : z ≠ 0) : pc (rest z) 9 < pc z 9 := by
  have h1 := ctz_bit hz h0
  refine pc_lt (Lib.ctz 64 z) 9 (fun j _ h => ((rest_bset hz h0 j).1 h).1) (bit_lt (n := 9) (by omega) h1) ?_ h1
  have := rest_bset hz h0 (Lib.ctz 64 z)
  cases h : (rest z).testBit (Lib.ctz 64 z)
  · rfl
  · exact ((this.1 h).2 rfl).elim
theorem diff_ne {a b : Nat} : diff a b ≠ 0 ↔ ∃ u, bset a u ∧ ¬ bset b u := by
  constructor
  · intro h
    obtain ⟨i, hi⟩ := Nat.exists_testBit_of_ne_zero h
    exact ⟨i, (diff_bset a b i).1 hi⟩
  · rintro ⟨u, hu⟩ h
    have := (diff_bset a b u).2 hu
    rw [h] at this
    unfold bset at this
    simp at this

theorem count_all : ∀ x : Fin 512, sweep_count.f (x.val : Int) = some (pc x.val 9 : Int) := by decide +kernel
theorem count_eq (x : Nat) (hx : x < 512) : sweep_count.f (x : Int) = some (pc x 9 : Int) := count_all ⟨x, hx⟩

theorem rest_lt' {s n : Nat} (hs5 : s < 512) (h0 : s ≠ 0) (hs : s < 2 ^ n) : rest s < 2 ^ n := lt_of_bits fun j hj => bit_lt hs ((rest_bset hs5 h0 j).1 hj).1
theorem bordTo_eq (G : List Nat) (hG : Gr 7 G) (S : Nat) (hS : S < 2 ^ G.length) : ∀ (k s o : Nat), pc s 9 < k → s < 2 ^ G.length → o < 2 ^ G.length → (∀ j, bset s j → bset S j) →
    ∃ r : Nat, bordTo (gi G) S k s (o : Int) = some (r : Int) ∧ r < 2 ^ G.length ∧ ∀ j, bset r j ↔ bset o j ∨ (bset s j ∧ ∃ u, Adj G j u ∧ ¬ bset S u) := by
  have hn := hG.most
  intro k
  induction k with
  | zero => intro s o h; omega
  | succ k ih =>
    intro s o hk hs ho hsS
    have hs5 := small G (by omega) hs
    by_cases h0 : s = 0
    · subst h0
      refine ⟨o, by rw [bordTo, if_pos rfl], ho, fun j => ⟨.inl, fun h => h.elim id (fun h => ?_)⟩⟩
      have := h.1
      unfold bset at this
      simp at this
    · have hb := ctz_bit hs5 h0
      have hp := rest_pc hs5 h0
      have hr := rest_bset hs5 h0
      have hrl := rest_lt' hs5 h0 hs
      rw [bordTo, if_neg h0]
      generalize Lib.ctz 64 s = v at *
      have hv : v < G.length := bit_lt hs hb
      have hpv : 2 ^ v < 2 ^ G.length := Nat.pow_lt_pow_right (by omega) hv
      have hrow := hG.row v
      rw [if_pos (by rw [gi_length]; omega), rd_gi, b_andNot _ _ (big (small G (by omega) hrow)) (big (small G (by omega) hS)), s_one v (by omega), b_or _ _ (big (small G (by omega) ho)) (big (small G (by omega) hpv))]
      by_cases hd : diff (G.getD v 0) S = 0
      · rw [hd, if_neg (by decide)]
        obtain ⟨r, h1, h2, h3⟩ := ih (rest s) o (by omega) hrl ho (fun j hj => hsS j ((hr j).1 hj).1)
        refine ⟨r, h1, h2, fun j => ?_⟩
        rw [h3, hr]
        constructor
        · rintro (h | ⟨h, h'⟩)
          · exact .inl h
          · exact .inr ⟨h.1, h'⟩
        · rintro (h | ⟨h, u, hu, hu'⟩)
          · exact .inl h
          · refine .inr ⟨⟨h, fun e => ?_⟩, u, hu, hu'⟩
            subst e
            exact (diff_ne.2 ⟨u, hu, hu'⟩ hd).elim
      · have hd' : ((diff (G.getD v 0) S : Nat) : Int) ≠ 0 := by omega
        rw [if_pos (by simpa using hd)]
        obtain ⟨r, h1, h2, h3⟩ := ih (rest s) (o ||| 2 ^ v) (by omega) hrl (or_lt ho hpv) (fun j hj => hsS j ((hr j).1 hj).1)
        refine ⟨r, h1, h2, fun j => ?_⟩
        rw [h3, hr, or_bset, two_pow_bit]
        obtain ⟨u, hu, hu'⟩ := diff_ne.1 hd
        constructor
        · rintro ((h | h) | ⟨h, h'⟩)
          · exact .inl h
          · subst h; exact .inr ⟨hb, u, hu, hu'⟩
          · exact .inr ⟨h.1, h'⟩
        · rintro (h | ⟨h, h'⟩)
          · exact .inl (.inl h)
          · by_cases e : j = v
            · exact .inl (.inr e)
            · exact .inr ⟨⟨h, e⟩, h'⟩
theorem border_eq (G : List Nat) (hG : Gr 7 G) (S : Nat) (hS : S < 2 ^ G.length) : sweep_town_border.f (gi G) (S : Int) = some ((bor G S : Nat) : Int) := by
  have hn := hG.most
  have hS5 := small G (by omega) hS
  unfold sweep_town_border.f
  rw [if_pos (by omega), if_pos (by have := big hS5; omega), Int.toNat_natCast]
  obtain ⟨r, h1, h2, h3⟩ := bordTo_eq G hG S hS 64 S 0 (by have := pc_le S 9; omega) hS (Nat.two_pow_pos _) (fun _ h => h)
  have e : r = bor G S := eq_of_bits fun j => by
    have a := h3 j
    have b := bor_bit hG S j
    unfold bset at *
    rw [a, b]
    simp
  subst e
  exact h1
/-- How many nodes a set's border has. -/
noncomputable def bc (G : List Nat) (S : Nat) : Nat := pc (bor G S) 9
theorem cost_eq (G : List Nat) (hG : Gr 7 G) (S : Nat) (hS : S < 2 ^ G.length) : cost (gi G) (S : Int) = some ((bc G S : Nat) : Int) := by
  unfold cost bc
  rw [border_eq G hG S hS, Option.bind_some]
  exact count_eq _ (small G (by have := hG.most; omega) (bor_lt G S))

/-- x is the least breadth of what can come behind S. -/
def PV (G : List Nat) (S x : Nat) : Prop := ∀ q, x ≤ q ↔ Lay G q S
theorem getD_set (W : List Nat) (i j x : Nat) (hi : i < W.length) : (W.set i x).getD j 0 = if j = i then x else W.getD j 0 := by
  simp only [List.getD_eq_getElem?_getD, List.getElem?_set]
  by_cases h : i = j
  · subst h; simp [hi]
  · rw [if_neg h, if_neg (fun e => h e.symm)]
theorem bestIn_eq (G : List Nat) (hG : Gr 7 G) (S : Nat) (hS : S < 2 ^ G.length) : ∀ (k s : Nat) (W : List Nat), pc s 9 < k → s < 2 ^ G.length → (∀ j, bset s j → ¬ bset S j) → W.length = 2 ^ G.length →
    ∃ x, bestIn (gi G) S k s (gi W) = some (gi (W.set S x)) ∧ ∀ q, x ≤ q ↔ W.getD S 0 ≤ q ∨ ∃ v, bset s v ∧ W.getD (S ||| 2 ^ v) 0 ≤ q ∧ bc G (S ||| 2 ^ v) ≤ q := by
  have hn := hG.most
  intro k
  induction k with
  | zero => intro s W h; omega
  | succ k ih =>
    intro s W hk hs hsS hW
    have hs5 := small G (by omega) hs
    by_cases h0 : s = 0
    · subst h0
      refine ⟨W.getD S 0, ?_, fun q => ⟨.inl, fun h => h.elim id (fun ⟨v, h, _⟩ => by unfold bset at h; simp at h)⟩⟩
      rw [bestIn, if_pos rfl]
      congr 2
      apply List.ext_getElem?
      intro i
      rw [List.getElem?_set]
      by_cases e : S = i
      · subst e
        rw [if_pos rfl, if_pos (by omega), List.getD_eq_getElem?_getD, List.getElem?_eq_getElem (by omega)]
        rfl
      · rw [if_neg e]
    · have hb := ctz_bit hs5 h0
      have hp := rest_pc hs5 h0
      have hr := rest_bset hs5 h0
      have hrl := rest_lt' hs5 h0 hs
      rw [bestIn, if_neg h0]
      unfold nxt
      generalize Lib.ctz 64 s = v at *
      have hv : v < G.length := bit_lt hs hb
      have hX := or_new hS hv
      have hgt := or_gt (hsS v hb)
      have hSW : S < W.length := by rw [hW]; exact hS
      have hXW : S ||| 2 ^ v < W.length := by rw [hW]; exact hX
      rw [if_pos (by rw [gi_length]; exact ⟨hSW, hXW⟩), cost_eq G hG _ hX, Option.bind_some, rd_gi, rd_gi, mx_nat, mn_nat, gi_set]
      obtain ⟨x, h1, h2⟩ := ih (rest s) (W.set S (min (W.getD S 0) (max (W.getD (S ||| 2 ^ v) 0) (bc G (S ||| 2 ^ v))))) (Nat.lt_of_lt_of_le hp (Nat.le_of_lt_succ hk)) hrl (fun j hj => hsS j ((hr j).1 hj).1) (by rw [List.length_set]; exact hW)
      refine ⟨x, by rw [h1, List.set_set], fun q => ?_⟩
      rw [h2, getD_set _ _ _ _ hSW, if_pos rfl]
      have hoth : ∀ u, bset (rest s) u → (W.set S (min (W.getD S 0) (max (W.getD (S ||| 2 ^ v) 0) (bc G (S ||| 2 ^ v))))).getD (S ||| 2 ^ u) 0 = W.getD (S ||| 2 ^ u) 0 := fun u hu => by
        have := or_gt (hsS u ((hr u).1 hu).1)
        rw [getD_set _ _ _ _ hSW, if_neg (Nat.ne_of_gt this)]
      clear hX hgt hSW hXW hs hrl hW hs5 hv hp hk ih h1 h2 h0
      constructor
      · rintro (h | ⟨u, hu, h3, h4⟩)
        · rcases Nat.le_total (W.getD S 0) (max (W.getD (S ||| 2 ^ v) 0) (bc G (S ||| 2 ^ v))) with h5 | h5
          · rw [Nat.min_eq_left h5] at h
            exact .inl h
          · rw [Nat.min_eq_right h5] at h
            exact .inr ⟨v, hb, Nat.le_trans (Nat.le_max_left _ _) h, Nat.le_trans (Nat.le_max_right _ _) h⟩
        · rw [hoth u hu] at h3
          exact .inr ⟨u, ((hr u).1 hu).1, h3, h4⟩
      · rintro (h | ⟨u, hu, h3, h4⟩)
        · exact .inl (Nat.le_trans (Nat.min_le_left _ _) h)
        · by_cases e : u = v
          · subst e; exact .inl (Nat.le_trans (Nat.min_le_right _ _) (Nat.max_le.2 ⟨h3, h4⟩))
          · have hu' := (hr u).2 ⟨hu, e⟩
            exact .inr ⟨u, hu', by rw [hoth u hu']; exact h3, h4⟩
theorem bestTo_eq (G : List Nat) (hG : Gr 7 G) : ∀ (d : Nat) (W : List Nat), d < 2 ^ G.length → W.length = 2 ^ G.length → (∀ T, d ≤ T → T < 2 ^ G.length → PV G T (W.getD T 0)) →
    ∃ W2 : List Nat, bestTo (gi G) d (gi W) = some (gi W2) ∧ W2.length = 2 ^ G.length ∧ ∀ T, T < 2 ^ G.length → PV G T (W2.getD T 0) := by
  have hn := hG.most
  intro d
  induction d with
  | zero => intro W _ hW h; exact ⟨W, rfl, hW, fun T hT => h T (by omega) hT⟩
  | succ d ih =>
    intro W hd hW h
    have hd' : d < 2 ^ G.length := by omega
    have hS5 := small G (by omega) hd'
    have h2 := Nat.two_pow_pos G.length
    have hc : ∀ j, bset (diff (2 ^ G.length - 1) d) j ↔ j < G.length ∧ ¬ bset d j := fun j => by rw [diff_bset, full_bit]
    rw [bestTo]
    simp only [gi_length]
    have e1 : (gi W).set d (G.length : Int) = gi (W.set d G.length) := gi_set W d G.length
    rw [e1]
    obtain ⟨x, h3, h4⟩ := bestIn_eq G hG d hd' 64 (diff (2 ^ G.length - 1) d) (W.set d G.length) (by have := pc_le (diff (2 ^ G.length - 1) d) 9; omega) (Nat.lt_of_le_of_lt (diff_le _ _) (by omega)) (fun j hj => ((hc j).1 hj).2) (by rw [List.length_set]; exact hW)
    rw [h3, Option.bind_some, List.set_set]
    refine ih _ hd' (by rw [List.length_set]; exact hW) fun T h5 h6 => ?_
    rw [getD_set _ _ _ _ (by omega)]
    by_cases e : T = d
    · subst e
      rw [if_pos rfl]
      intro q
      rw [h4, getD_set _ _ _ _ (by omega), if_pos rfl]
      have hoth : ∀ v, v < G.length → ¬ bset T v → (W.set T G.length).getD (T ||| 2 ^ v) 0 = W.getD (T ||| 2 ^ v) 0 ∧ PV G (T ||| 2 ^ v) (W.getD (T ||| 2 ^ v) 0) := fun v hv hb => by
        have h7 := or_gt hb
        have h8 := or_new hd' hv
        rw [getD_set _ _ _ _ (by omega), if_neg (by omega)]
        exact ⟨rfl, h _ (by omega) h8⟩
      constructor
      · rintro (h7 | ⟨v, hv, h7, h8⟩)
        · exact lay_big (.inr h7) (by omega) _ _ rfl hd'
        · obtain ⟨h9, h10⟩ := (hc v).1 hv
          obtain ⟨h11, h12⟩ := hoth v h9 h10
          rw [h11] at h7
          exact .step h9 h10 h8 ((h12 q).1 h7)
      · intro h7
        cases h7 with
        | done => omega
        | step h9 h10 h8 h13 =>
          obtain ⟨h11, h12⟩ := hoth _ h9 h10
          exact .inr ⟨_, (hc _).2 ⟨h9, h10⟩, by rw [h11]; exact (h12 q).2 h13, h8⟩
    · rw [if_neg e]
      exact h T (by omega) h6

/-- Node v can come behind S, if all is to be laid out with borders of at most m nodes. -/
def Can (G : List Nat) (m S v : Nat) : Prop := Lay G m (S ||| 2 ^ v) ∧ bc G (S ||| 2 ^ v) ≤ m
/-- Node by node the first one that can come. -/
inductive Greedy (G : List Nat) (m : Nat) : Nat → List Nat → Prop
  | nil : Greedy G m (2 ^ G.length - 1) []
  | cons {S v : Nat} {L : List Nat} : v < G.length → ¬ bset S v → Can G m S v → (∀ u, u < v → ¬ bset S u → ¬ Can G m S u) → Greedy G m (S ||| 2 ^ v) L → Greedy G m S (v :: L)
theorem goOn_eq (G : List Nat) (hG : Gr 7 G) (W : List Nat) (m : Nat) (hW : W.length = 2 ^ G.length) (hP : ∀ T, T < 2 ^ G.length → PV G T (W.getD T 0)) (hm : W.getD 0 0 = m) (S : Nat) (hS : S < 2 ^ G.length) :
    ∀ (k s : Nat), pc s 9 < k → s < 2 ^ G.length → (∀ j, bset s j → ¬ bset S j) → (∃ v, bset s v ∧ Can G m S v) →
      ∃ v : Nat, goOn (gi G) (gi W) S k s = some (some ((v : Int), S ||| 2 ^ v)) ∧ bset s v ∧ Can G m S v ∧ ∀ u, u < v → bset s u → ¬ Can G m S u := by
  have hn := hG.most
  intro k
  induction k with
  | zero => intro s h; omega
  | succ k ih =>
    intro s hk hs hsS hex
    have hs5 := small G (by omega) hs
    have h0 : s ≠ 0 := fun e => by obtain ⟨v, h, _⟩ := hex; subst e; unfold bset at h; simp at h
    have hb := ctz_bit hs5 h0
    have hlow : ∀ j, bset s j → Lib.ctz 64 s ≤ j := fun j hj => ctz_low hs5 h0 hj
    have hp := rest_pc hs5 h0
    have hr := rest_bset hs5 h0
    have hrl := rest_lt' hs5 h0 hs
    rw [goOn, if_neg h0]
    unfold nxt
    generalize Lib.ctz 64 s = v at *
    have hv : v < G.length := bit_lt hs hb
    have hX := or_new hS hv
    have hXW : S ||| 2 ^ v < W.length := by rw [hW]; exact hX
    have hp' := Nat.lt_of_lt_of_le hp (Nat.le_of_lt_succ hk)
    rw [if_pos (by rw [gi_length]; exact hXW), cost_eq G hG _ hX, Option.bind_some, rd_gi, show rd (gi W) 0 = ((W.getD 0 0 : Nat) : Int) from rd_gi W 0, mx_nat, hm]
    have hPX := hP _ hX
    clear hX hs hW hs5 hv hp hk h0 hS hXW
    by_cases hc : max (W.getD (S ||| 2 ^ v) 0) (bc G (S ||| 2 ^ v)) ≤ m
    · rw [if_pos (by omega)]
      exact ⟨v, rfl, hb, ⟨(hPX m).1 (by omega), by omega⟩, fun u hu hsu => by have := hlow u hsu; omega⟩
    · rw [if_neg (by omega)]
      have hno : ¬ Can G m S v := fun h => hc (by have := (hPX m).2 h.1; have := h.2; omega)
      obtain ⟨u, h1, h2, h3, h4⟩ := ih (rest s) hp' hrl (fun j hj => hsS j ((hr j).1 hj).1) (by
        obtain ⟨u, hu, hcu⟩ := hex
        exact ⟨u, (hr u).2 ⟨hu, fun e => hno (e ▸ hcu)⟩, hcu⟩)
      refine ⟨u, h1, ((hr u).1 h2).1, h3, fun x hx hsx => ?_⟩
      by_cases e : x = v
      · subst e; exact hno
      · exact h4 x hx ((hr x).2 ⟨hsx, e⟩)
theorem layTo_eq (G : List Nat) (hG : Gr 7 G) (W : List Nat) (m : Nat) (hW : W.length = 2 ^ G.length) (hP : ∀ T, T < 2 ^ G.length → PV G T (W.getD T 0)) (hm : W.getD 0 0 = m) :
    ∀ (k S : Nat) (pre : List Int), pc (diff (2 ^ G.length - 1) S) 9 < k → S < 2 ^ G.length → Lay G m S → ∃ L, layTo (gi G) (gi W) k S pre = some (pre ++ gi L) ∧ Greedy G m S L := by
  have hn := hG.most
  intro k
  induction k with
  | zero => intro S pre h; omega
  | succ k ih =>
    intro S pre hk hS hL
    have h2 := Nat.two_pow_pos G.length
    rw [layTo]
    simp only [gi_length]
    by_cases e : S = 2 ^ G.length - 1
    · rw [if_pos e, e]
      exact ⟨[], by simp [gi], .nil⟩
    · rw [if_neg e]
      have hc : ∀ j, bset (diff (2 ^ G.length - 1) S) j ↔ j < G.length ∧ ¬ bset S j := fun j => by rw [diff_bset, full_bit]
      obtain ⟨v, h3, h4, h5, h6⟩ := goOn_eq G hG W m hW hP hm S hS 64 (diff (2 ^ G.length - 1) S) (by have := pc_le (diff (2 ^ G.length - 1) S) 9; omega) (Nat.lt_of_le_of_lt (diff_le _ _) (by omega)) (fun j hj => ((hc j).1 hj).2) (by
        cases hL with
        | done => exact (e rfl).elim
        | step h7 h8 h9 h10 => exact ⟨_, (hc _).2 ⟨h7, h8⟩, h10, h9⟩)
      rw [h3, Option.bind_some]
      obtain ⟨h7, h8⟩ := (hc v).1 h4
      have hX := or_new hS h7
      obtain ⟨L, h9, h10⟩ := ih (S ||| 2 ^ v) (pre ++ [(v : Int)]) (by
        refine Nat.lt_of_lt_of_le (pc_lt v 9 (fun j _ hj => ?_) (by omega) ?_ ((hc v).2 ⟨h7, h8⟩)) (show pc (diff (2 ^ G.length - 1) S) 9 ≤ k by omega)
        · have a := (diff_bset (2 ^ G.length - 1) (S ||| 2 ^ v) j).1 hj
          exact (diff_bset _ _ _).2 ⟨a.1, fun h => a.2 ((or_bset _ _ _).2 (.inl h))⟩
        · have a := diff_bset (2 ^ G.length - 1) (S ||| 2 ^ v) v
          cases hh : (diff (2 ^ G.length - 1) (S ||| 2 ^ v)).testBit v
          · rfl
          · exact ((a.1 hh).2 ((or_bset _ _ _).2 (.inr ((two_pow_bit v v).2 rfl)))).elim) hX h5.1
      refine ⟨v :: L, ?_, .cons h7 h8 h5 (fun u hu hSu => h6 u hu ((hc u).2 ⟨by omega, hSu⟩)) h10⟩
      show layTo (gi G) (gi W) k (S ||| 2 ^ v) (pre ++ [(v : Int)]) = _
      rw [h9]
      simp [gi]
theorem layout_eq (G : List Nat) (hG : Gr 7 G) : ∃ (L : List Nat) (m : Nat), sweep_town_layout.f (gi G) = some (gi L, (m : Int)) ∧ IsVs G m ∧ Greedy G m 0 L := by
  have hn := hG.most
  have h2 := Nat.two_pow_pos G.length
  have e : List.replicate (2 ^ G.length) (0 : Int) = gi (List.replicate (2 ^ G.length) 0) := by simp [gi]
  obtain ⟨W, h3, h4, h5⟩ := bestTo_eq G hG (2 ^ G.length - 1) (List.replicate (2 ^ G.length) 0) (by omega) (by simp) (fun T hT hT2 q => by
    have e : T = 2 ^ G.length - 1 := by omega
    subst e
    have : (List.replicate (2 ^ G.length) 0).getD (2 ^ G.length - 1) 0 = 0 := by simp [List.getD_eq_getElem?_getD, List.getElem?_replicate]; rw [if_pos (by omega)]; rfl
    rw [this]
    exact ⟨fun _ => .done, fun _ => by omega⟩)
  obtain ⟨L, h6, h7⟩ := layTo_eq G hG W (W.getD 0 0) h4 h5 rfl 11 0 [] (by have := pc_le (diff (2 ^ G.length - 1) 0) 9; omega) h2 ((h5 0 h2 _).1 (Nat.le_refl _))
  refine ⟨L, W.getD 0 0, ?_, h5 0 h2, h7⟩
  unfold sweep_town_layout.f
  simp only [gi_length]
  rw [if_pos ⟨hG.pos, by omega⟩, e, h3, Option.bind_some, h6]
  simp only [List.nil_append, Option.bind_some]
  rw [show rd (gi W) 0 = ((W.getD 0 0 : Nat) : Int) from rd_gi W 0]

theorem Layout_ev (G : List Nat) (hG : Gr 7 G) : ∃ (L : List Nat) (m : Nat), Ev (fun k => sweep_Layout.f k (gi G)) (gi L, (m : Int), 0) ∧ IsVs G m ∧ Greedy G m 0 L := by
  obtain ⟨L, m, h1, h2, h3⟩ := layout_eq G hG
  refine ⟨L, m, ?_, h2, h3⟩
  have hr := read_ev (gi G) (by rw [gi_length]; have := hG.most; omega)
  rw [(chk_iff 7 (by omega) _).2 ⟨G, rfl, hG⟩] at hr
  unfold sweep_Layout.f
  exact Ev.bind hr (Ev.if_pos rfl (Ev.bind1 h1 (Ev.some rfl)))
theorem Layout_bad (g : List Int) (hl : g.length < 2 ^ 60) (h : chk 7 g = false) : Ev (fun k => sweep_Layout.f k g) (([] : List Int), 0, 2) := by
  have hr := read_ev g hl
  rw [h] at hr
  unfold sweep_Layout.f
  exact Ev.bind hr (Ev.if_neg (by simp) (Ev.some rfl))
theorem awake_ev : Ev (fun k => lampblacklaw03_awake.f k) true := by
  exact Ev.of (lampblacklaw03_awake.mono) (k := 40) (by decide +kernel)
theorem vs_exists {G : List Nat} (hG : Gr 7 G) : ∃ m, IsVs G m ∧ m ≤ 7 := by
  obtain ⟨L, m, _, h, _⟩ := layout_eq G hG
  exact ⟨m, h, Nat.le_trans ((h G.length).2 (lay_big (.inr (Nat.le_refl _)) (by have := hG.most; omega) _ _ rfl (Nat.two_pow_pos _))) hG.most⟩
theorem valid_ev (g : List Int) (hg : g.length < 2 ^ 60) : Ev (fun k => lampblackref03_Valid.f k g) (chk 7 g) := by
  unfold lampblackref03_Valid.f
  exact Ev.bind (isGraph_ev 7 (by omega) g hg) (Ev.some rfl)
/-- Few hands on a beginning; what is valid it hands on whole, and what isn't stays so. -/
theorem few_eq (g : List Int) (hg : g.length < 2 ^ 44) : ∃ h, lampblacklaw03_Few.f g = some h ∧ (chk 7 g = true → h = g) ∧ (chk 7 g = false → chk 7 h = false) ∧ h.length ≤ 11 := by
  have hm : mn (g.length : Int) 11 = ((min g.length 11 : Nat) : Int) := mn_nat g.length 11
  refine ⟨g.take (min g.length 11), ?_, ?_, ?_, ?_⟩
  · unfold lampblacklaw03_Few.f slices_Clone_Graph.f
    simp only [hm, Int.toNat_natCast]
    rw [if_pos (by omega), if_pos (by omega)]
    simp only [Option.bind_some, List.length_nil, List.nil_append]
    rw [if_pos (by rw [List.length_take]; omega)]
    rfl
  · intro h
    simp only [chk, Bool.and_eq_true, decide_eq_true_eq] at h
    exact List.take_of_length_le (by omega)
  · intro h
    by_cases hl : g.length ≤ 11
    · rw [List.take_of_length_le (by omega)]; exact h
    · unfold chk
      have : ¬ (List.take (min g.length 11) g).length ≤ 7 := by rw [List.length_take]; omega
      rw [decide_eq_false this, Bool.and_false, Bool.false_and]
  · rw [List.length_take]; omega
end Go.Proofs.YtijfddobandcdaaDoor.X
end
section
/- Lists that have the numbers below n, each once. -/
set_option linter.unusedVariables false
namespace Go.Proofs.YtijfddobandcdaaDoor.T
open Go.RowKit Go.Proofs.YtijfddobandcdaaDoorW.PrintWords Go.Proofs.YtijfddobandcdaaDoorW.PrintLast Go.Proofs.YtijfddobandcdaaDoorW.PrintMore

/-- l has the numbers below n, each once. -/
def IsOrd (n : Nat) (l : List Int) : Prop := ∃ P : List Nat, l = gi P ∧ P.Nodup ∧ (∀ v ∈ P, v < n) ∧ P.length = n
theorem gi_inj {a b : List Nat} (h : gi a = gi b) : a = b := by
  induction a generalizing b with
  | nil => cases b with
    | nil => rfl
    | cons => simp [gi] at h
  | cons x a ih => cases b with
    | nil => simp [gi] at h
    | cons y b =>
      simp only [gi, List.map_cons, List.cons.injEq] at h
      rw [ih (show gi a = gi b from h.2)]
      congr 1
      omega
theorem gi_take (P : List Nat) (i : Nat) : (gi P).take i = gi (P.take i) := by simp [gi, List.map_take]
theorem gi_snoc (P : List Nat) (v : Nat) : gi P ++ [(v : Int)] = gi (P ++ [v]) := by simp [gi]
theorem gi_mem {P : List Nat} {v : Nat} : (v : Int) ∈ gi P ↔ v ∈ P := by
  unfold gi
  rw [List.mem_map]
  exact ⟨fun ⟨a, h1, h2⟩ => by have : a = v := by omega
                               exact this ▸ h1, fun h => ⟨v, h, rfl⟩⟩
theorem split_dup {P : List Nat} (h : ¬ P.Nodup) : ∃ L x R, P = L ++ x :: R ∧ x ∈ R := by
  induction P with
  | nil => exact (h List.nodup_nil).elim
  | cons a P ih =>
    by_cases ha : a ∈ P
    · exact ⟨[], a, P, rfl, ha⟩
    · obtain ⟨L, x, R, h1, h2⟩ := ih fun hn => h (List.nodup_cons.2 ⟨ha, hn⟩)
      exact ⟨a :: L, x, R, by rw [h1]; rfl, h2⟩
theorem nodup_of_covers {P : List Nat} {n : Nat} (hl : P.length ≤ n) (h : ∀ j, j < n → j ∈ P) : P.Nodup := by
  apply Classical.byContradiction
  intro hn
  obtain ⟨L, x, R, e, hx⟩ := split_dup hn
  have := nodup_le (List.nodup_range (n := n)) (m := L ++ R) fun j hj => by
    have h1 := h j (List.mem_range.1 hj)
    rw [e] at h1
    rcases List.mem_append.1 h1 with h2 | h2
    · exact List.mem_append_left _ h2
    · rcases List.mem_cons.1 h2 with h3 | h3
      · subst h3; exact List.mem_append_right _ hx
      · exact List.mem_append_right _ h3
  rw [e] at hl
  simp at this hl
  omega
theorem covers_of_nodup {P : List Nat} {n : Nat} (hl : P.length = n) (hn : P.Nodup) (h : ∀ v ∈ P, v < n) (j : Nat) (hj : j < n) : j ∈ P := by
  apply Classical.byContradiction
  intro hno
  have := nodup_le (List.nodup_cons.2 ⟨hno, hn⟩) (m := List.range n) fun x hx => by
    rcases List.mem_cons.1 hx with e | e
    · subst e; exact List.mem_range.2 hj
    · exact List.mem_range.2 (h x e)
  simp at this
  omega
/-- The set of a list's numbers. -/
def lset : List Nat → Nat
  | [] => 0
  | v :: P => lset P ||| 2 ^ v
theorem lset_bit (P : List Nat) (j : Nat) : bset (lset P) j ↔ j ∈ P := by
  induction P with
  | nil => simp [lset, bset]
  | cons v P ih => rw [lset, or_bset, ih, two_pow_bit, List.mem_cons]; exact Or.comm
theorem lset_lt {P : List Nat} {n : Nat} (h : ∀ v ∈ P, v < n) : lset P < 2 ^ n := lt_of_bits fun j hj => h j ((lset_bit P j).1 hj)
theorem lset_snoc (P : List Nat) (v : Nat) : lset (P ++ [v]) = lset P ||| 2 ^ v := eq_of_bits fun j => by
  show bset _ _ ↔ bset _ _
  rw [lset_bit, or_bset, lset_bit, two_pow_bit, List.mem_append, List.mem_singleton]
theorem take_snoc {l : List Int} {i : Nat} {P : List Nat} (h : l.take i = gi P) (hi : i < l.length) (v : Nat) (hv : rd l (i : Int) = (v : Int)) : l.take (i + 1) = gi (P ++ [v]) := by
  rw [List.take_add_one, h, ← gi_snoc]
  congr 1
  unfold rd at hv
  rw [Int.toNat_natCast, List.getD_eq_getElem?_getD, List.getElem?_eq_getElem hi] at hv
  rw [List.getElem?_eq_getElem hi]
  simp at hv ⊢
  exact hv
theorem IsOrd.get {n : Nat} {l : List Int} (h : IsOrd n l) (i : Nat) (hi : i < l.length) : ∃ v : Nat, rd l (i : Int) = (v : Int) ∧ v < n := by
  obtain ⟨P, rfl, _, h3, _⟩ := h
  rw [gi_length] at hi
  refine ⟨P.getD i 0, rd_gi P i, h3 _ ?_⟩
  rw [List.getD_eq_getElem?_getD, List.getElem?_eq_getElem hi]
  exact List.getElem_mem hi
theorem IsOrd.fresh {n : Nat} {l : List Int} (h : IsOrd n l) {i : Nat} (hi : i < l.length) {P : List Nat} (hP : l.take i = gi P) {v : Nat} (hv : rd l (i : Int) = (v : Int)) : v ∉ P := by
  obtain ⟨Q, rfl, h2, _, _⟩ := h
  have e : P = Q.take i := gi_inj (by rw [← hP, gi_take])
  rw [gi_length] at hi
  have hv' : Q.getD i 0 = v := by have := rd_gi Q i; rw [hv] at this; omega
  rw [List.getD_eq_getElem?_getD, List.getElem?_eq_getElem hi] at hv'
  have hv2 : Q[i] = v := hv'
  subst e
  intro hm
  rw [← List.take_append_drop i Q, List.nodup_append] at h2
  have hd : v ∈ Q.drop i := by rw [List.drop_eq_getElem_cons hi, hv2]; exact List.mem_cons_self
  exact h2.2.2 v hm v hd rfl
theorem IsOrd.of {n : Nat} {P : List Nat} (h1 : P.Nodup) (h2 : ∀ v ∈ P, v < n) : IsOrd n (gi P) ↔ P.length = n := by
  constructor
  · rintro ⟨Q, e, _, _, h⟩
    rw [gi_inj e]; exact h
  · intro h; exact ⟨P, rfl, h1, h2, h⟩
theorem IsOrd.length {n : Nat} {l : List Int} (h : IsOrd n l) : l.length = n := by
  obtain ⟨P, rfl, _, _, h⟩ := h
  rw [gi_length, h]
end Go.Proofs.YtijfddobandcdaaDoor.T
end
section
/- Path decompositions: bags in a row; the runs of a node; backward. -/
set_option linter.unusedVariables false
namespace Go.Proofs.YtijfddobandcdaaDoor.T
open Go.RowKit Go.Proofs.YtijfddobandcdaaDoorW.PrintWords Go.Proofs.YtijfddobandcdaaDoorW.PrintLast Go.Proofs.YtijfddobandcdaaDoorW.PrintMore

/-- How often a row of marks begins anew; p: the mark ahead of it. -/
def starts (p : Bool) : List Bool → Nat
  | [] => 0
  | b :: L => (if b = true ∧ p = false then 1 else 0) + starts b L
theorem starts_true0 : ∀ L : List Bool, starts true L = 0 ↔ ∃ b c, L = List.replicate b true ++ List.replicate c false
  | [] => ⟨fun _ => ⟨0, 0, rfl⟩, fun _ => rfl⟩
  | true :: L => by
    simp only [starts]
    rw [if_neg (by simp), Nat.zero_add, starts_true0 L]
    constructor
    · rintro ⟨b, c, rfl⟩; exact ⟨b + 1, c, by simp [List.replicate_succ]⟩
    · rintro ⟨b, c, h⟩
      cases b with
      | zero => cases c <;> simp [List.replicate_succ] at h
      | succ b => simp [List.replicate_succ] at h; exact ⟨b, c, h⟩
  | false :: L => by
    simp only [starts]
    rw [if_neg (by simp), Nat.zero_add]
    have h0 : ∀ M : List Bool, starts false M = 0 ↔ ∃ c, M = List.replicate c false := by
      intro M
      induction M with
      | nil => exact ⟨fun _ => ⟨0, rfl⟩, fun _ => rfl⟩
      | cons x M ih =>
        cases x with
        | true => simp only [starts]; constructor
                  · intro h; simp at h
                  · rintro ⟨c, h⟩; cases c <;> simp [List.replicate_succ] at h
        | false => simp only [starts]; rw [if_neg (by simp), Nat.zero_add, ih]; constructor
                   · rintro ⟨c, rfl⟩; exact ⟨c + 1, by simp [List.replicate_succ]⟩
                   · rintro ⟨c, h⟩
                     cases c with
                     | zero => simp at h
                     | succ c => simp [List.replicate_succ] at h; exact ⟨c, h⟩
    rw [h0 L]
    constructor
    · rintro ⟨c, rfl⟩; exact ⟨0, c + 1, by simp [List.replicate_succ]⟩
    · rintro ⟨b, c, h⟩
      cases b with
      | zero => cases c with
        | zero => simp at h
        | succ c => simp [List.replicate_succ] at h; exact ⟨c, h⟩
      | succ b => simp [List.replicate_succ] at h
/-- One run: nothing, marks, nothing. -/
def OneRun (L : List Bool) : Prop := ∃ a b c, L = List.replicate a false ++ (List.replicate (b + 1) true ++ List.replicate c false)
theorem starts_one : ∀ L : List Bool, starts false L = 1 ↔ OneRun L
  | [] => ⟨fun h => by simp [starts] at h, fun ⟨a, b, c, h⟩ => by simp [List.replicate_succ] at h⟩
  | true :: L => by
    simp only [starts]
    rw [if_pos (by simp)]
    have e : 1 + starts true L = 1 ↔ starts true L = 0 := by omega
    rw [e, starts_true0 L]
    constructor
    · rintro ⟨b, c, rfl⟩; exact ⟨0, b, c, by simp [List.replicate_succ]⟩
    · rintro ⟨a, b, c, h⟩
      cases a with
      | zero => simp [List.replicate_succ] at h; exact ⟨b, c, h⟩
      | succ a => simp [List.replicate_succ] at h
  | false :: L => by
    simp only [starts]
    rw [if_neg (by simp), Nat.zero_add, starts_one L]
    constructor
    · rintro ⟨a, b, c, rfl⟩; exact ⟨a + 1, b, c, by simp [List.replicate_succ]⟩
    · rintro ⟨a, b, c, h⟩
      cases a with
      | zero => simp [List.replicate_succ] at h
      | succ a => simp only [List.replicate_succ, List.cons_append, List.cons.injEq, true_and] at h; exact ⟨a, b, c, by rw [h, List.replicate_succ]; rfl⟩
theorem OneRun.reverse {L : List Bool} (h : OneRun L) : OneRun L.reverse := by
  obtain ⟨a, b, c, rfl⟩ := h
  exact ⟨c, b, a, by simp [List.append_assoc]⟩
/-- Node v's marks in a row of bags. -/
def marks (v : Nat) (B : List Nat) : List Bool := B.map fun b => b.testBit v
/-- A path decomposition of at most 30 bags. -/
structure PathDec (G : List Nat) (B : List Nat) : Prop where
  pos : 1 ≤ B.length
  most : B.length ≤ 30
  lt : ∀ b ∈ B, b < 2 ^ G.length
  run : ∀ v, v < G.length → OneRun (marks v B)
  edge : ∀ v u, v < G.length → Adj G v u → ∃ b ∈ B, bset b v ∧ bset b u
theorem PathDec.reverse {G B : List Nat} (h : PathDec G B) : PathDec G B.reverse where
  pos := by rw [List.length_reverse]; exact h.pos
  most := by rw [List.length_reverse]; exact h.most
  lt := fun b hb => h.lt b (List.mem_reverse.1 hb)
  run := fun v hv => by
    have := (h.run v hv).reverse
    unfold marks at *
    rwa [List.map_reverse]
  edge := fun v u hv ha => by
    obtain ⟨b, hb, h1⟩ := h.edge v u hv ha
    exact ⟨b, List.mem_reverse.2 hb, h1⟩
/-- The most nodes that a bag has. -/
def mostOf (B : List Nat) : Nat := B.foldr (fun b m => max (pc b 9) m) 0
theorem mostOf_le {B : List Nat} {q : Nat} : mostOf B ≤ q ↔ ∀ b ∈ B, pc b 9 ≤ q := by
  unfold mostOf
  induction B with
  | nil => simp
  | cons b B ih => simp only [List.foldr_cons, Nat.max_le, ih, List.forall_mem_cons]
theorem mostOf_reverse (B : List Nat) : mostOf B.reverse = mostOf B :=
  Nat.le_antisymm (mostOf_le.2 fun b hb => mostOf_le.1 (Nat.le_refl _) b (List.mem_reverse.1 hb)) (mostOf_le.2 fun b hb => mostOf_le.1 (Nat.le_refl _) b (List.mem_reverse.2 hb))
/-- What is left of a set when the bags with v have been taken away. -/
def left (v : Nat) : Nat → List Nat → Nat
  | s, [] => s
  | s, b :: B => left v (if b.testBit v then diff s b else s) B
theorem left_zero (v : Nat) : ∀ (B : List Nat) (s : Nat), left v s B = 0 ↔ ∀ u, bset s u → ∃ b ∈ B, bset b v ∧ bset b u
  | [], s => by
    simp only [left]
    constructor
    · intro h u hu; rw [h] at hu; unfold bset at hu; simp at hu
    · intro h
      apply Classical.byContradiction
      intro h0
      obtain ⟨i, hi⟩ := Nat.exists_testBit_of_ne_zero h0
      obtain ⟨b, hb, _⟩ := h i hi
      simp at hb
  | b :: B, s => by
    simp only [left]
    rw [left_zero v B]
    by_cases hb : b.testBit v = true
    · rw [if_pos hb]
      constructor
      · intro h u hu
        by_cases hbu : bset b u
        · exact ⟨b, List.mem_cons_self, hb, hbu⟩
        · obtain ⟨x, hx, h2⟩ := h u ((diff_bset _ _ _).2 ⟨hu, hbu⟩)
          exact ⟨x, List.mem_cons_of_mem _ hx, h2⟩
      · intro h u hu
        obtain ⟨hu1, hu2⟩ := (diff_bset _ _ _).1 hu
        obtain ⟨x, hx, h2, h3⟩ := h u hu1
        rcases List.mem_cons.1 hx with e | e
        · subst e; exact (hu2 h3).elim
        · exact ⟨x, e, h2, h3⟩
    · rw [if_neg hb]
      constructor
      · intro h u hu
        obtain ⟨x, hx, h2⟩ := h u hu
        exact ⟨x, List.mem_cons_of_mem _ hx, h2⟩
      · intro h u hu
        obtain ⟨x, hx, h2, h3⟩ := h u hu
        rcases List.mem_cons.1 hx with e | e
        · subst e; exact (hb h2).elim
        · exact ⟨x, e, h2, h3⟩
theorem left_lt (v n : Nat) : ∀ (B : List Nat) (s : Nat), s < 2 ^ n → left v s B < 2 ^ n
  | [], s, h => h
  | b :: B, s, h => by
    simp only [left]
    refine left_lt v n B _ ?_
    split
    · exact Nat.lt_of_le_of_lt (diff_le _ _) h
    · exact h
end Go.Proofs.YtijfddobandcdaaDoor.T
end
section
-- by ownprint.py (wip/tool), over the kit's print
namespace Go.Proofs.YtijfddobandcdaaDoor.X
open Go.RowKit Go.Proofs.YtijfddobandcdaaDoorW.PrintWords Go.Proofs.YtijfddobandcdaaDoorW.PrintLast Go.Proofs.YtijfddobandcdaaDoorW.PrintMore
attribute [local go_sem] max2_int min2_int max_two min_two max_three min_three max_four min_four
set_option linter.unusedVariables false
set_option linter.unusedSimpArgs false

/-! ### slices_Max_int_int: function 76 -/
def slices_Max_int_int.l0 : Nat → List Int → Int → Int → Option (Int)
  | 0, _, _, _ => none
  | k + 1, x0, x3, x4 => if x4 < (x0.length : Int) then (if 0 ≤ x4 then (slices_Max_int_int.l0 k x0 (mx x3 (rd x0 x4)) (wrap64 (x4 + 1))) else (none)) else (some x3)
def slices_Max_int_int.f (k : Nat) (l0 : List Int) : Option (Int) := if (l0.length : Int) < 1 then (none) else (if 0 < (l0.length : Int) then (slices_Max_int_int.l0 k l0 (rd l0 0) 1) else (none))
theorem slices_Max_int_int.mono_l : ∀ k, (∀ y0 y1 y2, LeO (slices_Max_int_int.l0 k y0 y1 y2) (slices_Max_int_int.l0 (k + 1) y0 y1 y2))
  | 0 => fun _ _ _ r h => by simp [slices_Max_int_int.l0] at h
  | k + 1 => by
    have ih0 := slices_Max_int_int.mono_l k
    · intro y0 y1 y2
      unfold slices_Max_int_int.l0
      repeat' first
      | (with_reducible exact ih0 _ _ _)
      | (with_reducible exact LeO.refl _)
      | (with_reducible exact LeO.none _)
      | (with_reducible refine LeO.ite ?_ ?_)
      | (with_reducible refine LeO.bind ?_ (fun _ => ?_))
      | exact ih0 _ _ _
      | exact LeO.none _
      | refine LeO.ite ?_ ?_
      | refine LeO.bind ?_ (fun _ => ?_)
theorem slices_Max_int_int.mono : ∀ a0 k, LeO (slices_Max_int_int.f k a0) (slices_Max_int_int.f (k + 1) a0) := by
  intro a0 k
  have ih0 := slices_Max_int_int.mono_l k
  unfold slices_Max_int_int.f
  repeat' first
      | (with_reducible exact ih0 _ _ _)
      | (with_reducible exact LeO.refl _)
      | (with_reducible exact LeO.none _)
      | (with_reducible refine LeO.ite ?_ ?_)
      | (with_reducible refine LeO.bind ?_ (fun _ => ?_))
      | exact ih0 _ _ _
      | exact LeO.none _
      | refine LeO.ite ?_ ?_
      | refine LeO.bind ?_ (fun _ => ?_)
set_option maxHeartbeats 8000000 in
set_option maxRecDepth 100000 in
theorem slices_Max_int_int.calls (k : Nat) (A0 : Option Addr) (c0 : Nat) (l0 : List Int) (r : Int) (w : World) (hr0 : Kd.C (Kd.int .i64) w A0 l0.length l0) (hc0 : l0.length ≤ c0) (h : slices_Max_int_int.f k l0 = some r) :
    Calls Tryd.prog 76 #[.slice A0 l0.length c0] w fun e w' => e = .returned (.int .i64 r) ∧ Below w.heap.size w w' := by
  have HR0 := Aside0.mk hr0
  have HC0 := Aside0.mk hc0
  clear hr0 hc0
  have HB := Aside0.mk (Below.refl w.heap.size w)
  have H : (if (l0.length : Int) < 1 then (none) else (if 0 < (l0.length : Int) then (slices_Max_int_int.l0 k l0 (rd l0 0) 1) else (none))) = some r := h
  clear h
  by_cases c2 : (l0.length : Int) < 1
  · rw [if_pos c2] at H
    exact absurd H (by simp)
  · rw [if_neg c2] at H
    have c2b0 : decide ((l0.length : Int) < 1) = false := decide_eq_false c2
    have c2b1 : decide (l0.length < 1) = false := decide_eq_false (by omega)
    clear c2
    by_cases c3 : 0 < (l0.length : Int)
    · rw [if_pos c3] at H
      have c3b0 : decide (0 < (l0.length : Int)) = true := decide_eq_true c3
      have c3b1 : decide (0 < l0.length) = true := decide_eq_true (by omega)
      clear c3
      have H' := Aside0.mk H
      clear H
      have p332 : 0 ≤ (0 : Int) := (by omega)
      have q332 : 0 < (l0.length : Int) := of_decide_eq_true (by first | (with_reducible assumption) | assumption)
      obtain ⟨ad332, e332, hx332_0⟩ := Kd.at_int HR0.out 0 p332 q332
      cases e332
      have qi332 : (0 < l0.length) = True := eq_true (by omega)
      (try rw [show ((0 : Int)).toNat = 0 from rfl] at hx332_0)
      (try rw [Addr.add_zero'] at hx332_0)
      replace p332 := eq_true p332
      replace q332 := eq_true q332
      go_enter Tryd.func76, Tryd.ntmps76
      go_wp2
      go_loopg [3, 4] k (fun kq v3 v4 w' => ∃ (x3_1 : Int) (x4_1 : Int), v3 = .int .i64 x3_1 ∧ v4 = .int .i64 x4_1 ∧ Aside0 (slices_Max_int_int.l0 kq l0 x3_1 x4_1 = some r) ∧ Aside0 (kq ≤ k) ∧ Aside0 (Below w.heap.size w w'))
      case atStart => exact ⟨(rd l0 0), (1), (by first | rfl | (simp; done) | (simp [*]; done)), (by first | rfl | (simp; done) | (simp [*]; done)), H', ⟨Nat.le_refl _⟩, ⟨by repeat (first | (with_reducible first | exact HB.out | apply below_alloc | apply pw_below_drewN | apply below_drew1) | exact HB.out)⟩⟩
      case round =>
        clear H'
        try clear c2
        try clear c2b0
        try clear c2b1
        try clear p2
        try clear c3
        try clear c3b0
        try clear c3b1
        try clear p3
        try clear q3
        try clear hx3
        try clear qi3
        try clear hx332_0
        try clear p332
        try clear q332
        obtain ⟨x3_1, x4_1, rfl, rfl, HA, HK1, HB⟩ := hrel
        cases gk with
        | zero => exact absurd HA.out (by simp [slices_Max_int_int.l0])
        | succ k1 =>
          have H := HA.out
          clear HA
          simp only [slices_Max_int_int.l0] at H
          by_cases c4 : x4_1 < (l0.length : Int)
          · rw [if_pos c4] at H
            have c4b0 : decide (x4_1 < (l0.length : Int)) = true := decide_eq_true c4
            clear c4
            by_cases c5 : 0 ≤ x4_1
            · rw [if_pos c5] at H
              have c5b0 : decide (0 ≤ x4_1) = true := decide_eq_true c5
              clear c5
              obtain ⟨ji6, hji6⟩ : ∃ j_ : Int, (mx x3_1 (rd l0 x4_1)) = j_ := ⟨_, rfl⟩
              replace H : (slices_Max_int_int.l0 k1 l0 ji6 (wrap64 (x4_1 + 1))) = some r := by first | (rw [hji6] at H; exact H) | (simp only [hji6] at H ⊢; exact H)
              have hji6_ : (if x3_1 < (rd l0 x4_1) then (rd l0 x4_1) else x3_1) = ji6 := hji6
              have H' := Aside0.mk H
              clear H
              have p333 : 0 ≤ (x4_1 : Int) := of_decide_eq_true (by first | (with_reducible assumption) | assumption)
              have q333 : x4_1 < (l0.length : Int) := of_decide_eq_true (by first | (with_reducible assumption) | assumption)
              obtain ⟨ad333, e333, hx333_0⟩ := Kd.at_int HR0.out x4_1 p333 q333
              obtain rfl : ad332 = ad333 := (by injection e333)
              replace hx333_0 := (HB.out.cell (World.block_lt_of_cell? w _ hx333_0)).trans hx333_0
              replace p333 := eq_true p333
              replace q333 := eq_true q333
              go_wp2
              go_roundg k1
              case measure => have := HK1.out; omega
              case rel => exact ⟨(ji6), (wrap64 (x4_1 + 1)), (by first | rfl | (simp; done) | (simp only [← hji6] <;> (first | rfl | simp)) | (simp [*]; done)), (by first | rfl | (simp; done) | (simp [*]; done)), H', ⟨by have := HK1.out; omega⟩, ⟨by repeat (first | (with_reducible first | exact HB.out | apply below_alloc | apply pw_below_drewN | apply below_drew1) | exact HB.out)⟩⟩
            · rw [if_neg c5] at H
              exact absurd H (by simp)
          · rw [if_neg c4] at H
            have c4b0 : decide (x4_1 < (l0.length : Int)) = false := decide_eq_false c4
            clear c4
            obtain rfl := Option.some.inj H
            go_wp2
            go_ret
            exact ⟨by first | rfl | (simp [errW_none, errW_some] <;> rfl) | (simp [*, errW_none, errW_some] <;> rfl), by repeat (first | (with_reducible first | exact HB.out | apply below_alloc | apply pw_below_drewN | apply below_drew1) | exact HB.out)⟩
    · rw [if_neg c3] at H
      exact absurd H (by simp)

end Go.Proofs.YtijfddobandcdaaDoor.X
end
section
-- by ownprint.py (wip/tool), over the kit's print
namespace Go.Proofs.YtijfddobandcdaaDoor.X
open Go.RowKit Go.Proofs.YtijfddobandcdaaDoorW.PrintWords Go.Proofs.YtijfddobandcdaaDoorW.PrintLast Go.Proofs.YtijfddobandcdaaDoorW.PrintMore
attribute [local go_sem] max2_int min2_int max_two min_two max_three min_three max_four min_four
set_option linter.unusedVariables false
set_option linter.unusedSimpArgs false

/-! ### slices_Min_int_int: function 75 -/
def slices_Min_int_int.l0 : Nat → List Int → Int → Int → Option (Int)
  | 0, _, _, _ => none
  | k + 1, x0, x3, x4 => if x4 < (x0.length : Int) then (if 0 ≤ x4 then (slices_Min_int_int.l0 k x0 (mn x3 (rd x0 x4)) (wrap64 (x4 + 1))) else (none)) else (some x3)
def slices_Min_int_int.f (k : Nat) (l0 : List Int) : Option (Int) := if (l0.length : Int) < 1 then (none) else (if 0 < (l0.length : Int) then (slices_Min_int_int.l0 k l0 (rd l0 0) 1) else (none))
theorem slices_Min_int_int.mono_l : ∀ k, (∀ y0 y1 y2, LeO (slices_Min_int_int.l0 k y0 y1 y2) (slices_Min_int_int.l0 (k + 1) y0 y1 y2))
  | 0 => fun _ _ _ r h => by simp [slices_Min_int_int.l0] at h
  | k + 1 => by
    have ih0 := slices_Min_int_int.mono_l k
    · intro y0 y1 y2
      unfold slices_Min_int_int.l0
      repeat' first
      | (with_reducible exact ih0 _ _ _)
      | (with_reducible exact LeO.refl _)
      | (with_reducible exact LeO.none _)
      | (with_reducible refine LeO.ite ?_ ?_)
      | (with_reducible refine LeO.bind ?_ (fun _ => ?_))
      | exact ih0 _ _ _
      | exact LeO.none _
      | refine LeO.ite ?_ ?_
      | refine LeO.bind ?_ (fun _ => ?_)
theorem slices_Min_int_int.mono : ∀ a0 k, LeO (slices_Min_int_int.f k a0) (slices_Min_int_int.f (k + 1) a0) := by
  intro a0 k
  have ih0 := slices_Min_int_int.mono_l k
  unfold slices_Min_int_int.f
  repeat' first
      | (with_reducible exact ih0 _ _ _)
      | (with_reducible exact LeO.refl _)
      | (with_reducible exact LeO.none _)
      | (with_reducible refine LeO.ite ?_ ?_)
      | (with_reducible refine LeO.bind ?_ (fun _ => ?_))
      | exact ih0 _ _ _
      | exact LeO.none _
      | refine LeO.ite ?_ ?_
      | refine LeO.bind ?_ (fun _ => ?_)
set_option maxHeartbeats 8000000 in
set_option maxRecDepth 100000 in
theorem slices_Min_int_int.calls (k : Nat) (A0 : Option Addr) (c0 : Nat) (l0 : List Int) (r : Int) (w : World) (hr0 : Kd.C (Kd.int .i64) w A0 l0.length l0) (hc0 : l0.length ≤ c0) (h : slices_Min_int_int.f k l0 = some r) :
    Calls Tryd.prog 75 #[.slice A0 l0.length c0] w fun e w' => e = .returned (.int .i64 r) ∧ Below w.heap.size w w' := by
  have HR0 := Aside0.mk hr0
  have HC0 := Aside0.mk hc0
  clear hr0 hc0
  have HB := Aside0.mk (Below.refl w.heap.size w)
  have H : (if (l0.length : Int) < 1 then (none) else (if 0 < (l0.length : Int) then (slices_Min_int_int.l0 k l0 (rd l0 0) 1) else (none))) = some r := h
  clear h
  by_cases c2 : (l0.length : Int) < 1
  · rw [if_pos c2] at H
    exact absurd H (by simp)
  · rw [if_neg c2] at H
    have c2b0 : decide ((l0.length : Int) < 1) = false := decide_eq_false c2
    have c2b1 : decide (l0.length < 1) = false := decide_eq_false (by omega)
    clear c2
    by_cases c3 : 0 < (l0.length : Int)
    · rw [if_pos c3] at H
      have c3b0 : decide (0 < (l0.length : Int)) = true := decide_eq_true c3
      have c3b1 : decide (0 < l0.length) = true := decide_eq_true (by omega)
      clear c3
      have H' := Aside0.mk H
      clear H
      have p330 : 0 ≤ (0 : Int) := (by omega)
      have q330 : 0 < (l0.length : Int) := of_decide_eq_true (by first | (with_reducible assumption) | assumption)
      obtain ⟨ad330, e330, hx330_0⟩ := Kd.at_int HR0.out 0 p330 q330
      cases e330
      have qi330 : (0 < l0.length) = True := eq_true (by omega)
      (try rw [show ((0 : Int)).toNat = 0 from rfl] at hx330_0)
      (try rw [Addr.add_zero'] at hx330_0)
      replace p330 := eq_true p330
      replace q330 := eq_true q330
      go_enter Tryd.func75, Tryd.ntmps75
      go_wp2
      go_loopg [3, 4] k (fun kq v3 v4 w' => ∃ (x3_1 : Int) (x4_1 : Int), v3 = .int .i64 x3_1 ∧ v4 = .int .i64 x4_1 ∧ Aside0 (slices_Min_int_int.l0 kq l0 x3_1 x4_1 = some r) ∧ Aside0 (kq ≤ k) ∧ Aside0 (Below w.heap.size w w'))
      case atStart => exact ⟨(rd l0 0), (1), (by first | rfl | (simp; done) | (simp [*]; done)), (by first | rfl | (simp; done) | (simp [*]; done)), H', ⟨Nat.le_refl _⟩, ⟨by repeat (first | (with_reducible first | exact HB.out | apply below_alloc | apply pw_below_drewN | apply below_drew1) | exact HB.out)⟩⟩
      case round =>
        clear H'
        try clear c2
        try clear c2b0
        try clear c2b1
        try clear p2
        try clear c3
        try clear c3b0
        try clear c3b1
        try clear p3
        try clear q3
        try clear hx3
        try clear qi3
        try clear hx330_0
        try clear p330
        try clear q330
        obtain ⟨x3_1, x4_1, rfl, rfl, HA, HK1, HB⟩ := hrel
        cases gk with
        | zero => exact absurd HA.out (by simp [slices_Min_int_int.l0])
        | succ k1 =>
          have H := HA.out
          clear HA
          simp only [slices_Min_int_int.l0] at H
          by_cases c4 : x4_1 < (l0.length : Int)
          · rw [if_pos c4] at H
            have c4b0 : decide (x4_1 < (l0.length : Int)) = true := decide_eq_true c4
            clear c4
            by_cases c5 : 0 ≤ x4_1
            · rw [if_pos c5] at H
              have c5b0 : decide (0 ≤ x4_1) = true := decide_eq_true c5
              clear c5
              obtain ⟨ji6, hji6⟩ : ∃ j_ : Int, (mn x3_1 (rd l0 x4_1)) = j_ := ⟨_, rfl⟩
              replace H : (slices_Min_int_int.l0 k1 l0 ji6 (wrap64 (x4_1 + 1))) = some r := by first | (rw [hji6] at H; exact H) | (simp only [hji6] at H ⊢; exact H)
              have hji6_ : (if (rd l0 x4_1) < x3_1 then (rd l0 x4_1) else x3_1) = ji6 := hji6
              have H' := Aside0.mk H
              clear H
              have p331 : 0 ≤ (x4_1 : Int) := of_decide_eq_true (by first | (with_reducible assumption) | assumption)
              have q331 : x4_1 < (l0.length : Int) := of_decide_eq_true (by first | (with_reducible assumption) | assumption)
              obtain ⟨ad331, e331, hx331_0⟩ := Kd.at_int HR0.out x4_1 p331 q331
              obtain rfl : ad330 = ad331 := (by injection e331)
              replace hx331_0 := (HB.out.cell (World.block_lt_of_cell? w _ hx331_0)).trans hx331_0
              replace p331 := eq_true p331
              replace q331 := eq_true q331
              go_wp2
              go_roundg k1
              case measure => have := HK1.out; omega
              case rel => exact ⟨(ji6), (wrap64 (x4_1 + 1)), (by first | rfl | (simp; done) | (simp only [← hji6] <;> (first | rfl | simp)) | (simp [*]; done)), (by first | rfl | (simp; done) | (simp [*]; done)), H', ⟨by have := HK1.out; omega⟩, ⟨by repeat (first | (with_reducible first | exact HB.out | apply below_alloc | apply pw_below_drewN | apply below_drew1) | exact HB.out)⟩⟩
            · rw [if_neg c5] at H
              exact absurd H (by simp)
          · rw [if_neg c4] at H
            have c4b0 : decide (x4_1 < (l0.length : Int)) = false := decide_eq_false c4
            clear c4
            obtain rfl := Option.some.inj H
            go_wp2
            go_ret
            exact ⟨by first | rfl | (simp [errW_none, errW_some] <;> rfl) | (simp [*, errW_none, errW_some] <;> rfl), by repeat (first | (with_reducible first | exact HB.out | apply below_alloc | apply pw_below_drewN | apply below_drew1) | exact HB.out)⟩
    · rw [if_neg c3] at H
      exact absurd H (by simp)

end Go.Proofs.YtijfddobandcdaaDoor.X
end
section
-- by ownprint.py (wip/tool), over the kit's print
namespace Go.Proofs.YtijfddobandcdaaDoor.X
open Go.RowKit Go.Proofs.YtijfddobandcdaaDoorW.PrintWords Go.Proofs.YtijfddobandcdaaDoorW.PrintLast Go.Proofs.YtijfddobandcdaaDoorW.PrintMore
attribute [local go_sem] max2_int min2_int max_two min_two max_three min_three max_four min_four
set_option linter.unusedVariables false
set_option linter.unusedSimpArgs false

/-! ### sweep_town_isPath: function 62 -/
mutual
def sweep_town_isPath.j0 : Nat → List Int → List Int → Bool → Option (Bool)
  | 0, _, _, _ => none
  | k + 1, x0, x1, x29 => if x29 = true then (some false) else (sweep_town_isPath.l0 k x1 x0 (x0.length : Int) 0)
def sweep_town_isPath.l0 : Nat → List Int → List Int → Int → Int → Option (Bool)
  | 0, _, _, _, _ => none
  | k + 1, x1, x30, x31, x32 => if x32 < x31 then (if 0 ≤ x32 then (if x32 < (x30.length : Int) then (sweep_town_isPath.l1 k x1 x32 (rd x30 x32) 0 x30 x31 x32 x1 (x1.length : Int) 0) else (none)) else (none)) else (some true)
def sweep_town_isPath.l1 : Nat → List Int → Int → Int → Int → List Int → Int → Int → List Int → Int → Int → Option (Bool)
  | 0, _, _, _, _, _, _, _, _, _, _ => none
  | k + 1, x1, x5, x6, x7, x30, x31, x32, x37, x38, x39 => if x39 < x38 then (if 0 ≤ x39 then (if x39 < (x37.length : Int) then (if 0 ≤ x5 then (if (Go.bits .and .i64 (shr .i64 (rd x37 x39) x5) 1) = 1 then (if x39 = 0 then (sweep_town_isPath.j3 k x1 x5 x6 x7 (rd x37 x39) x30 x31 x32 x37 x38 x39 true) else (if 0 ≤ (wrap64 (x39 - 1)) then (if (wrap64 (x39 - 1)) < (x1.length : Int) then (sweep_town_isPath.j3 k x1 x5 x6 x7 (rd x37 x39) x30 x31 x32 x37 x38 x39 ((Go.bits .and .i64 (shr .i64 (rd x1 (wrap64 (x39 - 1))) x5) 1) == 0)) else (none)) else (none))) else (sweep_town_isPath.j3 k x1 x5 x6 x7 (rd x37 x39) x30 x31 x32 x37 x38 x39 false)) else (none)) else (none)) else (none)) else (if x7 = 1 then (if x6 = 0 then (sweep_town_isPath.l0 k x1 x30 x31 (wrap64 (x32 + 1))) else (some false)) else (some false))
def sweep_town_isPath.j3 : Nat → List Int → Int → Int → Int → Int → List Int → Int → Int → List Int → Int → Int → Bool → Option (Bool)
  | 0, _, _, _, _, _, _, _, _, _, _, _, _ => none
  | k + 1, x1, x5, x6, x7, x9, x30, x31, x32, x37, x38, x39, x63 => if x63 = true then (if 0 ≤ x5 then (if (Go.bits .and .i64 (shr .i64 x9 x5) 1) = 1 then (sweep_town_isPath.l1 k x1 x5 (Go.bits .andNot .i64 x6 x9) (wrap64 (x7 + 1)) x30 x31 x32 x37 x38 (wrap64 (x39 + 1))) else (sweep_town_isPath.l1 k x1 x5 x6 (wrap64 (x7 + 1)) x30 x31 x32 x37 x38 (wrap64 (x39 + 1)))) else (none)) else (if 0 ≤ x5 then (if (Go.bits .and .i64 (shr .i64 x9 x5) 1) = 1 then (sweep_town_isPath.l1 k x1 x5 (Go.bits .andNot .i64 x6 x9) x7 x30 x31 x32 x37 x38 (wrap64 (x39 + 1))) else (sweep_town_isPath.l1 k x1 x5 x6 x7 x30 x31 x32 x37 x38 (wrap64 (x39 + 1)))) else (none))
end
def sweep_town_isPath.f (k : Nat) (l0 : List Int) (l1 : List Int) : Option (Bool) := if (l1.length : Int) < 1 then (sweep_town_isPath.j0 k l0 l1 true) else (if (l1.length : Int) > 30 then (sweep_town_isPath.j0 k l0 l1 true) else ((slices_Min_int_int.f k l1).bind fun t334 => (if t334 < 0 then (sweep_town_isPath.j0 k l0 l1 true) else ((slices_Max_int_int.f k l1).bind fun t335 => ((sweep_town_all.f l0).bind fun t336 => (sweep_town_isPath.j0 k l0 l1 (decide (t335 > t336))))))))
theorem sweep_town_isPath.mono_l : ∀ k, (∀ y0 y1 y2, LeO (sweep_town_isPath.j0 k y0 y1 y2) (sweep_town_isPath.j0 (k + 1) y0 y1 y2)) ∧ (∀ y0 y1 y2 y3, LeO (sweep_town_isPath.l0 k y0 y1 y2 y3) (sweep_town_isPath.l0 (k + 1) y0 y1 y2 y3)) ∧ (∀ y0 y1 y2 y3 y4 y5 y6 y7 y8 y9, LeO (sweep_town_isPath.l1 k y0 y1 y2 y3 y4 y5 y6 y7 y8 y9) (sweep_town_isPath.l1 (k + 1) y0 y1 y2 y3 y4 y5 y6 y7 y8 y9)) ∧ (∀ y0 y1 y2 y3 y4 y5 y6 y7 y8 y9 y10 y11, LeO (sweep_town_isPath.j3 k y0 y1 y2 y3 y4 y5 y6 y7 y8 y9 y10 y11) (sweep_town_isPath.j3 (k + 1) y0 y1 y2 y3 y4 y5 y6 y7 y8 y9 y10 y11))
  | 0 => ⟨fun _ _ _ r h => by simp [sweep_town_isPath.j0] at h, fun _ _ _ _ r h => by simp [sweep_town_isPath.l0] at h, fun _ _ _ _ _ _ _ _ _ _ r h => by simp [sweep_town_isPath.l1] at h, fun _ _ _ _ _ _ _ _ _ _ _ _ r h => by simp [sweep_town_isPath.j3] at h⟩
  | k + 1 => by
    obtain ⟨ih0, ih1, ih2, ih3⟩ := sweep_town_isPath.mono_l k
    refine ⟨?_, ?_, ?_, ?_⟩
    · intro y0 y1 y2
      unfold sweep_town_isPath.j0
      repeat' first
      | (with_reducible exact ih0 _ _ _)
      | (with_reducible exact ih1 _ _ _ _)
      | (with_reducible exact ih2 _ _ _ _ _ _ _ _ _ _)
      | (with_reducible exact ih3 _ _ _ _ _ _ _ _ _ _ _ _)
      | (with_reducible exact slices_Max_int_int.mono _ _)
      | (with_reducible exact slices_Min_int_int.mono _ _)
      | (with_reducible exact LeO.refl _)
      | (with_reducible exact LeO.none _)
      | (with_reducible refine LeO.ite ?_ ?_)
      | (with_reducible refine LeO.bind ?_ (fun _ => ?_))
      | exact ih0 _ _ _
      | exact ih1 _ _ _ _
      | exact ih2 _ _ _ _ _ _ _ _ _ _
      | exact ih3 _ _ _ _ _ _ _ _ _ _ _ _
      | exact slices_Max_int_int.mono _ _
      | exact slices_Min_int_int.mono _ _
      | exact LeO.none _
      | refine LeO.ite ?_ ?_
      | refine LeO.bind ?_ (fun _ => ?_)
    · intro y0 y1 y2 y3
      unfold sweep_town_isPath.l0
      repeat' first
      | (with_reducible exact ih0 _ _ _)
      | (with_reducible exact ih1 _ _ _ _)
      | (with_reducible exact ih2 _ _ _ _ _ _ _ _ _ _)
      | (with_reducible exact ih3 _ _ _ _ _ _ _ _ _ _ _ _)
      | (with_reducible exact slices_Max_int_int.mono _ _)
      | (with_reducible exact slices_Min_int_int.mono _ _)
      | (with_reducible exact LeO.refl _)
      | (with_reducible exact LeO.none _)
      | (with_reducible refine LeO.ite ?_ ?_)
      | (with_reducible refine LeO.bind ?_ (fun _ => ?_))
      | exact ih0 _ _ _
      | exact ih1 _ _ _ _
      | exact ih2 _ _ _ _ _ _ _ _ _ _
      | exact ih3 _ _ _ _ _ _ _ _ _ _ _ _
      | exact slices_Max_int_int.mono _ _
      | exact slices_Min_int_int.mono _ _
      | exact LeO.none _
      | refine LeO.ite ?_ ?_
      | refine LeO.bind ?_ (fun _ => ?_)
    · intro y0 y1 y2 y3 y4 y5 y6 y7 y8 y9
      unfold sweep_town_isPath.l1
      repeat' first
      | (with_reducible exact ih0 _ _ _)
      | (with_reducible exact ih1 _ _ _ _)
      | (with_reducible exact ih2 _ _ _ _ _ _ _ _ _ _)
      | (with_reducible exact ih3 _ _ _ _ _ _ _ _ _ _ _ _)
      | (with_reducible exact slices_Max_int_int.mono _ _)
      | (with_reducible exact slices_Min_int_int.mono _ _)
      | (with_reducible exact LeO.refl _)
      | (with_reducible exact LeO.none _)
      | (with_reducible refine LeO.ite ?_ ?_)
      | (with_reducible refine LeO.bind ?_ (fun _ => ?_))
      | exact ih0 _ _ _
      | exact ih1 _ _ _ _
      | exact ih2 _ _ _ _ _ _ _ _ _ _
      | exact ih3 _ _ _ _ _ _ _ _ _ _ _ _
      | exact slices_Max_int_int.mono _ _
      | exact slices_Min_int_int.mono _ _
      | exact LeO.none _
      | refine LeO.ite ?_ ?_
      | refine LeO.bind ?_ (fun _ => ?_)
    · intro y0 y1 y2 y3 y4 y5 y6 y7 y8 y9 y10 y11
      unfold sweep_town_isPath.j3
      repeat' first
      | (with_reducible exact ih0 _ _ _)
      | (with_reducible exact ih1 _ _ _ _)
      | (with_reducible exact ih2 _ _ _ _ _ _ _ _ _ _)
      | (with_reducible exact ih3 _ _ _ _ _ _ _ _ _ _ _ _)
      | (with_reducible exact slices_Max_int_int.mono _ _)
      | (with_reducible exact slices_Min_int_int.mono _ _)
      | (with_reducible exact LeO.refl _)
      | (with_reducible exact LeO.none _)
      | (with_reducible refine LeO.ite ?_ ?_)
      | (with_reducible refine LeO.bind ?_ (fun _ => ?_))
      | exact ih0 _ _ _
      | exact ih1 _ _ _ _
      | exact ih2 _ _ _ _ _ _ _ _ _ _
      | exact ih3 _ _ _ _ _ _ _ _ _ _ _ _
      | exact slices_Max_int_int.mono _ _
      | exact slices_Min_int_int.mono _ _
      | exact LeO.none _
      | refine LeO.ite ?_ ?_
      | refine LeO.bind ?_ (fun _ => ?_)
theorem sweep_town_isPath.mono : ∀ a0 a1 k, LeO (sweep_town_isPath.f k a0 a1) (sweep_town_isPath.f (k + 1) a0 a1) := by
  intro a0 a1 k
  obtain ⟨ih0, ih1, ih2, ih3⟩ := sweep_town_isPath.mono_l k
  unfold sweep_town_isPath.f
  repeat' first
      | (with_reducible exact ih0 _ _ _)
      | (with_reducible exact ih1 _ _ _ _)
      | (with_reducible exact ih2 _ _ _ _ _ _ _ _ _ _)
      | (with_reducible exact ih3 _ _ _ _ _ _ _ _ _ _ _ _)
      | (with_reducible exact slices_Max_int_int.mono _ _)
      | (with_reducible exact slices_Min_int_int.mono _ _)
      | (with_reducible exact LeO.refl _)
      | (with_reducible exact LeO.none _)
      | (with_reducible refine LeO.ite ?_ ?_)
      | (with_reducible refine LeO.bind ?_ (fun _ => ?_))
      | exact ih0 _ _ _
      | exact ih1 _ _ _ _
      | exact ih2 _ _ _ _ _ _ _ _ _ _
      | exact ih3 _ _ _ _ _ _ _ _ _ _ _ _
      | exact slices_Max_int_int.mono _ _
      | exact slices_Min_int_int.mono _ _
      | exact LeO.none _
      | refine LeO.ite ?_ ?_
      | refine LeO.bind ?_ (fun _ => ?_)
set_option maxHeartbeats 8000000 in
set_option maxRecDepth 100000 in
theorem sweep_town_isPath.calls (k : Nat) (A0 : Option Addr) (c0 : Nat) (l0 : List Int) (A1 : Option Addr) (c1 : Nat) (l1 : List Int) (r : Bool) (w : World) (hr0 : Kd.C (Kd.int .i64) w A0 l0.length l0) (hc0 : l0.length ≤ c0) (hr1 : Kd.C (Kd.int .i64) w A1 l1.length l1) (hc1 : l1.length ≤ c1) (h : sweep_town_isPath.f k l0 l1 = some r) :
    Calls Tryd.prog 62 #[.slice A0 l0.length c0, .slice A1 l1.length c1] w fun e w' => e = .returned (.bool r) ∧ Below w.heap.size w w' := by
  have HR0 := Aside0.mk hr0
  have HC0 := Aside0.mk hc0
  clear hr0 hc0
  have HR1 := Aside0.mk hr1
  have HC1 := Aside0.mk hc1
  clear hr1 hc1
  have HB := Aside0.mk (Below.refl w.heap.size w)
  have H : (if (l1.length : Int) < 1 then (sweep_town_isPath.j0 k l0 l1 true) else (if (l1.length : Int) > 30 then (sweep_town_isPath.j0 k l0 l1 true) else ((slices_Min_int_int.f k l1).bind fun t334 => (if t334 < 0 then (sweep_town_isPath.j0 k l0 l1 true) else ((slices_Max_int_int.f k l1).bind fun t335 => ((sweep_town_all.f l0).bind fun t336 => (sweep_town_isPath.j0 k l0 l1 (decide (t335 > t336))))))))) = some r := h
  clear h
  have HC3 := Aside0.mk H
  clear H
  go_enter Tryd.func62, Tryd.ntmps62
  go_upto_region 1 with (fail)
  go_cut [29] (fun v29 wc => ∃ (kq : Nat) (x29_2 : Bool), v29 = .bool x29_2 ∧ Aside0 (sweep_town_isPath.j0 kq l0 l1 x29_2 = some r) ∧ Aside0 (kq ≤ k) ∧ Aside0 (Below w.heap.size w wc))
  case first =>
    have H := HC3.out
    clear HC3
    by_cases c4 : (l1.length : Int) < 1
    · rw [if_pos c4] at H
      have c4b0 : decide ((l1.length : Int) < 1) = true := decide_eq_true c4
      have c4b1 : decide (l1.length < 1) = true := decide_eq_true (by omega)
      clear c4
      (first | rw [c4b0] | (simp only [i64_w, i32_w]; rw [c4b0]) | skip)
      have H' := Aside0.mk H
      clear H
      go_wp2
      go_meet
      case rel => exact ⟨_, (true), (by first | rfl | (simp; done) | (simp [*]; done)), H', ⟨by first | omega | exact Nat.le_refl _⟩, ⟨by repeat (first | (with_reducible first | exact HB.out | apply below_alloc | apply pw_below_drewN | apply below_drew1) | exact HB.out)⟩⟩
    · rw [if_neg c4] at H
      have c4b0 : decide ((l1.length : Int) < 1) = false := decide_eq_false c4
      have c4b1 : decide (l1.length < 1) = false := decide_eq_false (by omega)
      clear c4
      (first | rw [c4b0] | (simp only [i64_w, i32_w]; rw [c4b0]) | skip)
      by_cases c5 : (l1.length : Int) > 30
      · rw [if_pos c5] at H
        have c5b0 : decide (30 < (l1.length : Int)) = true := decide_eq_true c5
        have c5b1 : decide (30 < l1.length) = true := decide_eq_true (by omega)
        clear c5
        have H' := Aside0.mk H
        clear H
        go_wp2
        go_meet
        case rel => exact ⟨_, (true), (by first | rfl | (simp; done) | (simp [*]; done)), H', ⟨by first | omega | exact Nat.le_refl _⟩, ⟨by repeat (first | (with_reducible first | exact HB.out | apply below_alloc | apply pw_below_drewN | apply below_drew1) | exact HB.out)⟩⟩
      · rw [if_neg c5] at H
        have c5b0 : decide (30 < (l1.length : Int)) = false := decide_eq_false c5
        have c5b1 : decide (30 < l1.length) = false := decide_eq_false (by omega)
        clear c5
        replace H := Option.bind_eq_some_iff.mp H
        obtain ⟨t334, A60, H⟩ := H
        replace H : (if t334 < 0 then (sweep_town_isPath.j0 k l0 l1 true) else ((slices_Max_int_int.f k l1).bind fun t335 => ((sweep_town_all.f l0).bind fun t336 => (sweep_town_isPath.j0 k l0 l1 (decide (t335 > t336)))))) = some r := H
        have A6 := Aside0.mk A60
        clear A60
        by_cases c7 : t334 < 0
        · rw [if_pos c7] at H
          have c7b0 : decide (t334 < 0) = true := decide_eq_true c7
          clear c7
          have H' := Aside0.mk H
          clear H
          go_wp2_with (first | (go_at_call 75; (with_reducible refine (slices_Min_int_int.calls k _ _ l1 t334 _ ?side1 ?side2 A6.out).mono ?_); (case side1 => repeat (first | exact (Kd.C_below HR1.out HB.out) | (with_reducible refine Kd.C_alloc ?_ _) | (with_reducible refine Kd.C_drewN ?_ _) | (with_reducible refine Kd.C_drew ?_))); (case side2 => exact HC1.out); rintro e w8 ⟨rfl, hb⟩; have n0_ := Aside0.mk (below_step (by repeat (first | (with_reducible first | exact HB.out | apply below_alloc | apply pw_below_drewN | apply below_drew1) | exact HB.out)) hb); clear HB; have HB := n0_; clear n0_; (try clear hb); (try clear hb2); (try clear hk); (try clear hi)))
          go_meet
          case rel => exact ⟨_, (true), (by first | rfl | (simp; done) | (simp [*]; done)), H', ⟨by first | omega | exact Nat.le_refl _⟩, ⟨by repeat (first | (with_reducible first | exact HB.out | apply below_alloc | apply pw_below_drewN | apply below_drew1) | exact HB.out)⟩⟩
        · rw [if_neg c7] at H
          have c7b0 : decide (t334 < 0) = false := decide_eq_false c7
          clear c7
          replace H := Option.bind_eq_some_iff.mp H
          obtain ⟨t335, A90, H⟩ := H
          replace H : ((sweep_town_all.f l0).bind fun t336 => (sweep_town_isPath.j0 k l0 l1 (decide (t335 > t336)))) = some r := H
          have A9 := Aside0.mk A90
          clear A90
          replace H := Option.bind_eq_some_iff.mp H
          obtain ⟨t336, A100, H⟩ := H
          replace H : (sweep_town_isPath.j0 k l0 l1 (decide (t335 > t336))) = some r := H
          have A10 := Aside0.mk A100
          clear A100
          have H' := Aside0.mk H
          clear H
          go_wp2_with (first | (go_at_call 75; (with_reducible refine (slices_Min_int_int.calls k _ _ l1 t334 _ ?side1 ?side2 A6.out).mono ?_); (case side1 => repeat (first | exact (Kd.C_below HR1.out HB.out) | (with_reducible refine Kd.C_alloc ?_ _) | (with_reducible refine Kd.C_drewN ?_ _) | (with_reducible refine Kd.C_drew ?_))); (case side2 => exact HC1.out); rintro e w11 ⟨rfl, hb⟩; have n0_ := Aside0.mk (below_step (by repeat (first | (with_reducible first | exact HB.out | apply below_alloc | apply pw_below_drewN | apply below_drew1) | exact HB.out)) hb); clear HB; have HB := n0_; clear n0_; (try clear hb); (try clear hb2); (try clear hk); (try clear hi)) | (go_at_call 76; (with_reducible refine (slices_Max_int_int.calls k _ _ l1 t335 _ ?side1 ?side2 A9.out).mono ?_); (case side1 => repeat (first | exact (Kd.C_below HR1.out HB.out) | (with_reducible refine Kd.C_alloc ?_ _) | (with_reducible refine Kd.C_drewN ?_ _) | (with_reducible refine Kd.C_drew ?_))); (case side2 => exact HC1.out); rintro e w12 ⟨rfl, hb⟩; have n0_ := Aside0.mk (below_step (by repeat (first | (with_reducible first | exact HB.out | apply below_alloc | apply pw_below_drewN | apply below_drew1) | exact HB.out)) hb); clear HB; have HB := n0_; clear n0_; (try clear hb); (try clear hb2); (try clear hk); (try clear hi)) | (go_at_call 61; (with_reducible refine (sweep_town_all.calls _ _ l0 t336 _ ?side1 ?side2 A10.out).mono ?_); (case side1 => repeat (first | exact (Kd.C_below HR0.out HB.out) | (with_reducible refine Kd.C_alloc ?_ _) | (with_reducible refine Kd.C_drewN ?_ _) | (with_reducible refine Kd.C_drew ?_))); (case side2 => exact HC0.out); rintro e w' ⟨rfl, ⟨nd, rfl⟩⟩))
          go_meet
          case rel => exact ⟨_, (decide (t335 > t336)), (by first | rfl | (simp; done) | (simp [*]; done)), H', ⟨by first | omega | exact Nat.le_refl _⟩, ⟨by repeat (first | (with_reducible first | exact HB.out | apply below_alloc | apply pw_below_drewN | apply below_drew1) | exact HB.out)⟩⟩
  case rest =>
    clear HC3
    try clear c1
    try clear p2
    try clear c4
    try clear c4b0
    try clear c4b1
    try clear c5
    try clear c5b0
    try clear c5b1
    try clear c6
    try clear c7
    try clear c7b0
    obtain ⟨kq, x29_2, rfl, HA, HJ2, HB⟩ := hcut
    cases kq with
    | zero => exact absurd HA.out (by simp [sweep_town_isPath.j0])
    | succ kj2 =>
      have H := HA.out
      clear HA
      simp only [sweep_town_isPath.j0] at H
      by_cases c13 : x29_2 = true
      · subst c13
        have H1 : (some false) = some r := by rw [if_pos rfl] at H; exact H
        clear H
        have H := H1
        clear H1
        obtain rfl := Option.some.inj H
        go_wp2
        go_ret
        exact ⟨by first | rfl | (simp [errW_none, errW_some] <;> rfl) | (simp [*, errW_none, errW_some] <;> rfl), by repeat (first | (with_reducible first | exact HB.out | apply below_alloc | apply pw_below_drewN | apply below_drew1) | exact HB.out)⟩
      · replace c13 := Bool.eq_false_iff.mpr c13
        subst c13
        have H1 : (sweep_town_isPath.l0 kj2 l1 l0 (l0.length : Int) 0) = some r := by rw [if_neg (show ¬ (false = true) by decide)] at H; exact H
        clear H
        have H := H1
        clear H1
        have H' := Aside0.mk H
        clear H
        go_wp2
        go_loopg [32] kj2 (fun kq v32 w' => ∃ (x32_2 : Int), v32 = .int .i64 x32_2 ∧ Aside0 (sweep_town_isPath.l0 kq l1 l0 (l0.length : Int) x32_2 = some r) ∧ Aside0 (kq ≤ kj2) ∧ Aside0 (Below w.heap.size w w'))
        case atStart => exact ⟨(0), (by first | rfl | (simp; done) | (simp [*]; done)), H', ⟨Nat.le_refl _⟩, ⟨by repeat (first | (with_reducible first | exact HB.out | apply below_alloc | apply pw_below_drewN | apply below_drew1) | exact HB.out)⟩⟩
        case round =>
          clear H'
          try clear c1
          try clear p2
          try clear c4
          try clear c4b0
          try clear c4b1
          try clear c5
          try clear c5b0
          try clear c5b1
          try clear c6
          try clear c7
          try clear c7b0
          try clear c13
          try clear p2
          obtain ⟨x32_2, rfl, HA, HK2, HB⟩ := hrel
          cases gk with
          | zero => exact absurd HA.out (by simp [sweep_town_isPath.l0])
          | succ k2 =>
            have H := HA.out
            clear HA
            simp only [sweep_town_isPath.l0] at H
            by_cases c14 : x32_2 < (l0.length : Int)
            · rw [if_pos c14] at H
              have c14b0 : decide (x32_2 < (l0.length : Int)) = true := decide_eq_true c14
              clear c14
              by_cases c15 : 0 ≤ x32_2
              · rw [if_pos c15] at H
                have c15b0 : decide (0 ≤ x32_2) = true := decide_eq_true c15
                clear c15
                by_cases c16 : x32_2 < (l0.length : Int)
                · rw [if_pos c16] at H
                  have c16b0 : decide (x32_2 < (l0.length : Int)) = true := decide_eq_true c16
                  clear c16
                  have H' := Aside0.mk H
                  clear H
                  have p337 : 0 ≤ (x32_2 : Int) := of_decide_eq_true (by first | (with_reducible assumption) | assumption)
                  have q337 : x32_2 < (l0.length : Int) := of_decide_eq_true (by first | (with_reducible assumption) | assumption)
                  obtain ⟨ad337, e337, hx337_0⟩ := Kd.at_int HR0.out x32_2 p337 q337
                  cases e337
                  replace hx337_0 := (HB.out.cell (World.block_lt_of_cell? w _ hx337_0)).trans hx337_0
                  replace p337 := eq_true p337
                  replace q337 := eq_true q337
                  go_wp2
                  go_loopg [6, 7, 39] k2 (fun kq v6 v7 v39 w' => ∃ (x6_3 : Int) (x7_3 : Int) (x39_3 : Int), v6 = .int .i64 x6_3 ∧ v7 = .int .i64 x7_3 ∧ v39 = .int .i64 x39_3 ∧ Aside0 (sweep_town_isPath.l1 kq l1 x32_2 x6_3 x7_3 l0 (l0.length : Int) x32_2 l1 (l1.length : Int) x39_3 = some r) ∧ Aside0 (kq ≤ k2) ∧ Aside0 (Below w.heap.size w w'))
                  case atStart => exact ⟨(rd l0 x32_2), (0), (0), (by first | rfl | (simp; done) | (simp [*]; done)), (by first | rfl | (simp; done) | (simp [*]; done)), (by first | rfl | (simp; done) | (simp [*]; done)), H', ⟨Nat.le_refl _⟩, ⟨by repeat (first | (with_reducible first | exact HB.out | apply below_alloc | apply pw_below_drewN | apply below_drew1) | exact HB.out)⟩⟩
                  case round =>
                    clear H'
                    try clear c1
                    try clear p2
                    try clear p3
                    try clear q3
                    try clear hx3
                    try clear c4
                    try clear c4b0
                    try clear c4b1
                    try clear c5
                    try clear c5b0
                    try clear c5b1
                    try clear c6
                    try clear c7
                    try clear c7b0
                    try clear c13
                    try clear c14
                    try clear c14b0
                    try clear c15
                    try clear c15b0
                    try clear c16
                    try clear c16b0
                    try clear hx337_0
                    try clear p2
                    try clear p337
                    try clear q337
                    obtain ⟨x6_3, x7_3, x39_3, rfl, rfl, rfl, HA, HK3, HB⟩ := hrel
                    cases gk with
                    | zero => exact absurd HA.out (by simp [sweep_town_isPath.l1])
                    | succ k3 =>
                      have H := HA.out
                      clear HA
                      simp only [sweep_town_isPath.l1] at H
                      by_cases c17 : x39_3 < (l1.length : Int)
                      · rw [if_pos c17] at H
                        have c17b0 : decide (x39_3 < (l1.length : Int)) = true := decide_eq_true c17
                        clear c17
                        by_cases c18 : 0 ≤ x39_3
                        · rw [if_pos c18] at H
                          have c18b0 : decide (0 ≤ x39_3) = true := decide_eq_true c18
                          clear c18
                          by_cases c19 : x39_3 < (l1.length : Int)
                          · rw [if_pos c19] at H
                            have c19b0 : decide (x39_3 < (l1.length : Int)) = true := decide_eq_true c19
                            clear c19
                            have HC20 := Aside0.mk H
                            clear H
                            have p338 : 0 ≤ (x39_3 : Int) := of_decide_eq_true (by first | (with_reducible assumption) | assumption)
                            have q338 : x39_3 < (l1.length : Int) := of_decide_eq_true (by first | (with_reducible assumption) | assumption)
                            obtain ⟨ad338, e338, hx338_0⟩ := Kd.at_int HR1.out x39_3 p338 q338
                            cases e338
                            replace hx338_0 := (HB.out.cell (World.block_lt_of_cell? w _ hx338_0)).trans hx338_0
                            replace p338 := eq_true p338
                            replace q338 := eq_true q338
                            go_upto_region 10 with (fail)
                            go_cut [63] (fun v63 wc => ∃ (kq : Nat) (x63_19 : Bool), v63 = .bool x63_19 ∧ Aside0 (sweep_town_isPath.j3 kq l1 x32_2 x6_3 x7_3 (rd l1 x39_3) l0 (l0.length : Int) x32_2 l1 (l1.length : Int) x39_3 x63_19 = some r) ∧ Aside0 (kq ≤ k3) ∧ Aside0 (Below w.heap.size w wc))
                            case first =>
                              have H := HC20.out
                              clear HC20
                              by_cases c21 : 0 ≤ x32_2
                              · rw [if_pos c21] at H
                                have c21b0 := eq_true c21
                                have c21b1 : decide (0 ≤ x32_2) = true := decide_eq_true c21
                                clear c21
                                obtain ⟨ji22, hji22⟩ : ∃ j_ : Int, (shr .i64 (rd l1 x39_3) x32_2) = j_ := ⟨_, rfl⟩
                                replace H : (if (Go.bits .and .i64 (ji22) 1) = 1 then (if x39_3 = 0 then (sweep_town_isPath.j3 k3 l1 x32_2 x6_3 x7_3 (rd l1 x39_3) l0 (l0.length : Int) x32_2 l1 (l1.length : Int) x39_3 true) else (if 0 ≤ (wrap64 (x39_3 - 1)) then (if (wrap64 (x39_3 - 1)) < (l1.length : Int) then (sweep_town_isPath.j3 k3 l1 x32_2 x6_3 x7_3 (rd l1 x39_3) l0 (l0.length : Int) x32_2 l1 (l1.length : Int) x39_3 ((Go.bits .and .i64 (shr .i64 (rd l1 (wrap64 (x39_3 - 1))) x32_2) 1) == 0)) else (none)) else (none))) else (sweep_town_isPath.j3 k3 l1 x32_2 x6_3 x7_3 (rd l1 x39_3) l0 (l0.length : Int) x32_2 l1 (l1.length : Int) x39_3 false)) = some r := by first | (rw [hji22] at H; exact H) | (simp only [hji22] at H ⊢; exact H)
                                have hji22_ : ((rd l1 x39_3) / 2 ^ min x32_2.toNat 64) = ji22 := hji22
                                have hji22z : x32_2 ≤ 64 → ((rd l1 x39_3) / 2 ^ x32_2.toNat) = ji22 := shr_small hji22
                                by_cases c23 : (Go.bits .and .i64 (ji22) 1) = 1
                                · rw [if_pos c23] at H
                                  have c23b0 : ((Go.bits .and .i64 (ji22) 1) == 1) = true := beq_iff_eq.mpr c23
                                  have c23b1 : ((Go.bits .and .i64 (ji22) 1) != 1) = false := bne_eq_false_iff_eq.mpr c23
                                  clear c23
                                  (first | rw [c23b0] | (simp only [i64_w, i32_w]; rw [c23b0]) | skip)
                                  by_cases c24 : x39_3 = 0
                                  · rw [if_pos c24] at H
                                    have c24b0 : (x39_3 == 0) = true := beq_iff_eq.mpr c24
                                    have c24b1 : (x39_3 != 0) = false := bne_eq_false_iff_eq.mpr c24
                                    clear c24
                                    have H' := Aside0.mk H
                                    clear H
                                    go_wp2
                                    go_meet
                                    case rel => exact ⟨_, (true), (by first | rfl | (simp; done) | (simp [*]; done)), H', ⟨by have := HJ2.out; have := HK2.out; have := HK3.out; first | omega | exact Nat.le_refl _⟩, ⟨by repeat (first | (with_reducible first | exact HB.out | apply below_alloc | apply pw_below_drewN | apply below_drew1) | exact HB.out)⟩⟩
                                  · rw [if_neg c24] at H
                                    have c24b0 : (x39_3 == 0) = false := beq_eq_false_iff_ne.mpr c24
                                    have c24b1 : (x39_3 != 0) = true := bne_iff_ne.mpr c24
                                    obtain ⟨ji25, hji25⟩ : ∃ j_ : Int, (wrap64 (x39_3 - 1)) = j_ := ⟨_, rfl⟩
                                    replace H : (if 0 ≤ (ji25) then (if (ji25) < (l1.length : Int) then (sweep_town_isPath.j3 k3 l1 x32_2 x6_3 x7_3 (rd l1 x39_3) l0 (l0.length : Int) x32_2 l1 (l1.length : Int) x39_3 ((Go.bits .and .i64 (shr .i64 (rd l1 (ji25)) x32_2) 1) == 0)) else (none)) else (none)) = some r := by first | (rw [hji25] at H; exact H) | (simp only [hji25] at H ⊢; exact H)
                                    have hji25w : (IntKind.i64.wrap (x39_3 - 1)) = ji25 := (i64_w _).trans hji25
                                    by_cases c26 : 0 ≤ (ji25)
                                    · rw [if_pos c26] at H
                                      have c26b0 : decide (0 ≤ (ji25)) = true := decide_eq_true c26
                                      clear c26
                                      by_cases c27 : (ji25) < (l1.length : Int)
                                      · rw [if_pos c27] at H
                                        have c27b0 : decide ((ji25) < (l1.length : Int)) = true := decide_eq_true c27
                                        clear c27
                                        have c28b0 := eq_true (of_decide_eq_true (by first | (with_reducible assumption) | assumption) : 0 ≤ x32_2)
                                        obtain ⟨ji29, hji29⟩ : ∃ j_ : Int, (shr .i64 (rd l1 (ji25)) x32_2) = j_ := ⟨_, rfl⟩
                                        replace H : (sweep_town_isPath.j3 k3 l1 x32_2 x6_3 x7_3 (rd l1 x39_3) l0 (l0.length : Int) x32_2 l1 (l1.length : Int) x39_3 ((Go.bits .and .i64 (ji29) 1) == 0)) = some r := by first | (rw [hji29] at H; exact H) | (simp only [hji29] at H ⊢; exact H)
                                        have hji29_ : ((rd l1 (ji25)) / 2 ^ min x32_2.toNat 64) = ji29 := hji29
                                        have hji29z : x32_2 ≤ 64 → ((rd l1 (ji25)) / 2 ^ x32_2.toNat) = ji29 := shr_small hji29
                                        have H' := Aside0.mk H
                                        clear H
                                        have p339 : 0 ≤ ((ji25) : Int) := of_decide_eq_true (by first | (with_reducible assumption) | assumption)
                                        have q339 : (ji25) < (l1.length : Int) := of_decide_eq_true (by first | (with_reducible assumption) | assumption)
                                        obtain ⟨ad339, e339, hx339_0⟩ := Kd.at_int HR1.out (ji25) p339 q339
                                        obtain rfl : ad338 = ad339 := (by injection e339)
                                        replace hx339_0 := (HB.out.cell (World.block_lt_of_cell? w _ hx339_0)).trans hx339_0
                                        replace p339 := eq_true p339
                                        replace q339 := eq_true q339
                                        go_wp2
                                        go_meet
                                        case rel => exact ⟨_, (((Go.bits .and .i64 (ji29) 1) == 0)), (by first | rfl | (simp; done) | (simp only [← hji29] <;> (first | rfl | simp)) | (simp [*]; done)), H', ⟨by have := HJ2.out; have := HK2.out; have := HK3.out; first | omega | exact Nat.le_refl _⟩, ⟨by repeat (first | (with_reducible first | exact HB.out | apply below_alloc | apply pw_below_drewN | apply below_drew1) | exact HB.out)⟩⟩
                                      · rw [if_neg c27] at H
                                        exact absurd H (by simp)
                                    · rw [if_neg c26] at H
                                      exact absurd H (by simp)
                                · rw [if_neg c23] at H
                                  have c23b0 : ((Go.bits .and .i64 (ji22) 1) == 1) = false := beq_eq_false_iff_ne.mpr c23
                                  have c23b1 : ((Go.bits .and .i64 (ji22) 1) != 1) = true := bne_iff_ne.mpr c23
                                  (first | rw [c23b0] | (simp only [i64_w, i32_w]; rw [c23b0]) | skip)
                                  have H' := Aside0.mk H
                                  clear H
                                  go_wp2
                                  go_meet
                                  case rel => exact ⟨_, (false), (by first | rfl | (simp; done) | (simp [*]; done)), H', ⟨by have := HJ2.out; have := HK2.out; have := HK3.out; first | omega | exact Nat.le_refl _⟩, ⟨by repeat (first | (with_reducible first | exact HB.out | apply below_alloc | apply pw_below_drewN | apply below_drew1) | exact HB.out)⟩⟩
                              · rw [if_neg c21] at H
                                exact absurd H (by simp)
                            case rest =>
                              clear HC20
                              try clear c1
                              try clear c2
                              try clear p2
                              try clear p3
                              try clear q3
                              try clear hx3
                              try clear c4
                              try clear c4b0
                              try clear c4b1
                              try clear c5
                              try clear c5b0
                              try clear c5b1
                              try clear c6
                              try clear p6
                              try clear c7
                              try clear c7b0
                              try clear c13
                              try clear c14
                              try clear c14b0
                              try clear c15
                              try clear c15b0
                              try clear c16
                              try clear c16b0
                              try clear c17
                              try clear c17b0
                              try clear c18
                              try clear c18b0
                              try clear c19
                              try clear c19b0
                              try clear c21
                              try clear c21b0
                              try clear c21b1
                              try clear c23
                              try clear c23b0
                              try clear c23b1
                              try clear c24
                              try clear c24b0
                              try clear c24b1
                              try clear c26
                              try clear c26b0
                              try clear c27
                              try clear c27b0
                              try clear c28
                              try clear c28b0
                              try clear hx337_0
                              try clear hx338_0
                              try clear hx339_0
                              try clear p2
                              try clear p3
                              try clear p337
                              try clear p338
                              try clear p339
                              try clear q3
                              try clear q337
                              try clear q338
                              try clear q339
                              obtain ⟨kq, x63_19, rfl, HA, HJ19, HB⟩ := hcut
                              cases kq with
                              | zero => exact absurd HA.out (by simp [sweep_town_isPath.j3])
                              | succ kj19 =>
                                have H := HA.out
                                clear HA
                                simp only [sweep_town_isPath.j3] at H
                                by_cases c30 : x63_19 = true
                                · subst c30
                                  have H1 : (if 0 ≤ x32_2 then (if (Go.bits .and .i64 (shr .i64 (rd l1 x39_3) x32_2) 1) = 1 then (sweep_town_isPath.l1 kj19 l1 x32_2 (Go.bits .andNot .i64 x6_3 (rd l1 x39_3)) (wrap64 (x7_3 + 1)) l0 (l0.length : Int) x32_2 l1 (l1.length : Int) (wrap64 (x39_3 + 1))) else (sweep_town_isPath.l1 kj19 l1 x32_2 x6_3 (wrap64 (x7_3 + 1)) l0 (l0.length : Int) x32_2 l1 (l1.length : Int) (wrap64 (x39_3 + 1)))) else (none)) = some r := by rw [if_pos rfl] at H; exact H
                                  clear H
                                  have H := H1
                                  clear H1
                                  by_cases c31 : 0 ≤ x32_2
                                  · rw [if_pos c31] at H
                                    have c31b0 := eq_true c31
                                    have c31b1 : decide (0 ≤ x32_2) = true := decide_eq_true c31
                                    clear c31
                                    obtain ⟨ji32, hji32⟩ : ∃ j_ : Int, (shr .i64 (rd l1 x39_3) x32_2) = j_ := ⟨_, rfl⟩
                                    replace H : (if (Go.bits .and .i64 (ji32) 1) = 1 then (sweep_town_isPath.l1 kj19 l1 x32_2 (Go.bits .andNot .i64 x6_3 (rd l1 x39_3)) (wrap64 (x7_3 + 1)) l0 (l0.length : Int) x32_2 l1 (l1.length : Int) (wrap64 (x39_3 + 1))) else (sweep_town_isPath.l1 kj19 l1 x32_2 x6_3 (wrap64 (x7_3 + 1)) l0 (l0.length : Int) x32_2 l1 (l1.length : Int) (wrap64 (x39_3 + 1)))) = some r := by first | (rw [hji32] at H; exact H) | (simp only [hji32] at H ⊢; exact H)
                                    have hji32_ : ((rd l1 x39_3) / 2 ^ min x32_2.toNat 64) = ji32 := hji32
                                    have hji32z : x32_2 ≤ 64 → ((rd l1 x39_3) / 2 ^ x32_2.toNat) = ji32 := shr_small hji32
                                    by_cases c33 : (Go.bits .and .i64 (ji32) 1) = 1
                                    · rw [if_pos c33] at H
                                      have c33b0 : ((Go.bits .and .i64 (ji32) 1) == 1) = true := beq_iff_eq.mpr c33
                                      have c33b1 : ((Go.bits .and .i64 (ji32) 1) != 1) = false := bne_eq_false_iff_eq.mpr c33
                                      clear c33
                                      have H' := Aside0.mk H
                                      clear H
                                      go_wp2
                                      go_roundg kj19
                                      case measure => have := HJ2.out; have := HK2.out; have := HK3.out; have := HJ19.out; omega
                                      case rel => exact ⟨(Go.bits .andNot .i64 x6_3 (rd l1 x39_3)), (wrap64 (x7_3 + 1)), (wrap64 (x39_3 + 1)), (by first | rfl | (simp; done) | (simp [*]; done)), (by first | rfl | (simp; done) | (simp [*]; done)), (by first | rfl | (simp; done) | (simp [*]; done)), H', ⟨by have := HJ2.out; have := HK2.out; have := HK3.out; have := HJ19.out; omega⟩, ⟨by repeat (first | (with_reducible first | exact HB.out | apply below_alloc | apply pw_below_drewN | apply below_drew1) | exact HB.out)⟩⟩
                                    · rw [if_neg c33] at H
                                      have c33b0 : ((Go.bits .and .i64 (ji32) 1) == 1) = false := beq_eq_false_iff_ne.mpr c33
                                      have c33b1 : ((Go.bits .and .i64 (ji32) 1) != 1) = true := bne_iff_ne.mpr c33
                                      have H' := Aside0.mk H
                                      clear H
                                      go_wp2
                                      go_roundg kj19
                                      case measure => have := HJ2.out; have := HK2.out; have := HK3.out; have := HJ19.out; omega
                                      case rel => exact ⟨(x6_3), (wrap64 (x7_3 + 1)), (wrap64 (x39_3 + 1)), (by first | rfl | (simp; done) | (simp [*]; done)), (by first | rfl | (simp; done) | (simp [*]; done)), (by first | rfl | (simp; done) | (simp [*]; done)), H', ⟨by have := HJ2.out; have := HK2.out; have := HK3.out; have := HJ19.out; omega⟩, ⟨by repeat (first | (with_reducible first | exact HB.out | apply below_alloc | apply pw_below_drewN | apply below_drew1) | exact HB.out)⟩⟩
                                  · rw [if_neg c31] at H
                                    exact absurd H (by simp)
                                · replace c30 := Bool.eq_false_iff.mpr c30
                                  subst c30
                                  have H1 : (if 0 ≤ x32_2 then (if (Go.bits .and .i64 (shr .i64 (rd l1 x39_3) x32_2) 1) = 1 then (sweep_town_isPath.l1 kj19 l1 x32_2 (Go.bits .andNot .i64 x6_3 (rd l1 x39_3)) x7_3 l0 (l0.length : Int) x32_2 l1 (l1.length : Int) (wrap64 (x39_3 + 1))) else (sweep_town_isPath.l1 kj19 l1 x32_2 x6_3 x7_3 l0 (l0.length : Int) x32_2 l1 (l1.length : Int) (wrap64 (x39_3 + 1)))) else (none)) = some r := by rw [if_neg (show ¬ (false = true) by decide)] at H; exact H
                                  clear H
                                  have H := H1
                                  clear H1
                                  by_cases c34 : 0 ≤ x32_2
                                  · rw [if_pos c34] at H
                                    have c34b0 := eq_true c34
                                    have c34b1 : decide (0 ≤ x32_2) = true := decide_eq_true c34
                                    clear c34
                                    obtain ⟨ji35, hji35⟩ : ∃ j_ : Int, (shr .i64 (rd l1 x39_3) x32_2) = j_ := ⟨_, rfl⟩
                                    replace H : (if (Go.bits .and .i64 (ji35) 1) = 1 then (sweep_town_isPath.l1 kj19 l1 x32_2 (Go.bits .andNot .i64 x6_3 (rd l1 x39_3)) x7_3 l0 (l0.length : Int) x32_2 l1 (l1.length : Int) (wrap64 (x39_3 + 1))) else (sweep_town_isPath.l1 kj19 l1 x32_2 x6_3 x7_3 l0 (l0.length : Int) x32_2 l1 (l1.length : Int) (wrap64 (x39_3 + 1)))) = some r := by first | (rw [hji35] at H; exact H) | (simp only [hji35] at H ⊢; exact H)
                                    have hji35_ : ((rd l1 x39_3) / 2 ^ min x32_2.toNat 64) = ji35 := hji35
                                    have hji35z : x32_2 ≤ 64 → ((rd l1 x39_3) / 2 ^ x32_2.toNat) = ji35 := shr_small hji35
                                    by_cases c36 : (Go.bits .and .i64 (ji35) 1) = 1
                                    · rw [if_pos c36] at H
                                      have c36b0 : ((Go.bits .and .i64 (ji35) 1) == 1) = true := beq_iff_eq.mpr c36
                                      have c36b1 : ((Go.bits .and .i64 (ji35) 1) != 1) = false := bne_eq_false_iff_eq.mpr c36
                                      clear c36
                                      have H' := Aside0.mk H
                                      clear H
                                      go_wp2
                                      go_roundg kj19
                                      case measure => have := HJ2.out; have := HK2.out; have := HK3.out; have := HJ19.out; omega
                                      case rel => exact ⟨(Go.bits .andNot .i64 x6_3 (rd l1 x39_3)), (x7_3), (wrap64 (x39_3 + 1)), (by first | rfl | (simp; done) | (simp [*]; done)), (by first | rfl | (simp; done) | (simp [*]; done)), (by first | rfl | (simp; done) | (simp [*]; done)), H', ⟨by have := HJ2.out; have := HK2.out; have := HK3.out; have := HJ19.out; omega⟩, ⟨by repeat (first | (with_reducible first | exact HB.out | apply below_alloc | apply pw_below_drewN | apply below_drew1) | exact HB.out)⟩⟩
                                    · rw [if_neg c36] at H
                                      have c36b0 : ((Go.bits .and .i64 (ji35) 1) == 1) = false := beq_eq_false_iff_ne.mpr c36
                                      have c36b1 : ((Go.bits .and .i64 (ji35) 1) != 1) = true := bne_iff_ne.mpr c36
                                      have H' := Aside0.mk H
                                      clear H
                                      go_wp2
                                      go_roundg kj19
                                      case measure => have := HJ2.out; have := HK2.out; have := HK3.out; have := HJ19.out; omega
                                      case rel => exact ⟨(x6_3), (x7_3), (wrap64 (x39_3 + 1)), (by first | rfl | (simp; done) | (simp [*]; done)), (by first | rfl | (simp; done) | (simp [*]; done)), (by first | rfl | (simp; done) | (simp [*]; done)), H', ⟨by have := HJ2.out; have := HK2.out; have := HK3.out; have := HJ19.out; omega⟩, ⟨by repeat (first | (with_reducible first | exact HB.out | apply below_alloc | apply pw_below_drewN | apply below_drew1) | exact HB.out)⟩⟩
                                  · rw [if_neg c34] at H
                                    exact absurd H (by simp)
                          · rw [if_neg c19] at H
                            exact absurd H (by simp)
                        · rw [if_neg c18] at H
                          exact absurd H (by simp)
                      · rw [if_neg c17] at H
                        have c17b0 : decide (x39_3 < (l1.length : Int)) = false := decide_eq_false c17
                        clear c17
                        by_cases c37 : x7_3 = 1
                        · rw [if_pos c37] at H
                          have c37b0 : (x7_3 == 1) = true := beq_iff_eq.mpr c37
                          have c37b1 : (x7_3 != 1) = false := bne_eq_false_iff_eq.mpr c37
                          clear c37
                          by_cases c38 : x6_3 = 0
                          · rw [if_pos c38] at H
                            have c38b0 : (x6_3 == 0) = true := beq_iff_eq.mpr c38
                            have c38b1 : (x6_3 != 0) = false := bne_eq_false_iff_eq.mpr c38
                            clear c38
                            have H' := Aside0.mk H
                            clear H
                            go_wp2
                            go_roundg k3
                            case measure => have := HJ2.out; have := HK2.out; have := HK3.out; omega
                            case rel => exact ⟨(wrap64 (x32_2 + 1)), (by first | rfl | (simp; done) | (simp [*]; done)), H', ⟨by have := HJ2.out; have := HK2.out; have := HK3.out; omega⟩, ⟨by repeat (first | (with_reducible first | exact HB.out | apply below_alloc | apply pw_below_drewN | apply below_drew1) | exact HB.out)⟩⟩
                          · rw [if_neg c38] at H
                            have c38b0 : (x6_3 == 0) = false := beq_eq_false_iff_ne.mpr c38
                            have c38b1 : (x6_3 != 0) = true := bne_iff_ne.mpr c38
                            obtain rfl := Option.some.inj H
                            go_wp2
                            go_ret
                            exact ⟨by first | rfl | (simp [errW_none, errW_some] <;> rfl) | (simp [*, errW_none, errW_some] <;> rfl), by repeat (first | (with_reducible first | exact HB.out | apply below_alloc | apply pw_below_drewN | apply below_drew1) | exact HB.out)⟩
                        · rw [if_neg c37] at H
                          have c37b0 : (x7_3 == 1) = false := beq_eq_false_iff_ne.mpr c37
                          have c37b1 : (x7_3 != 1) = true := bne_iff_ne.mpr c37
                          obtain rfl := Option.some.inj H
                          go_wp2
                          go_ret
                          exact ⟨by first | rfl | (simp [errW_none, errW_some] <;> rfl) | (simp [*, errW_none, errW_some] <;> rfl), by repeat (first | (with_reducible first | exact HB.out | apply below_alloc | apply pw_below_drewN | apply below_drew1) | exact HB.out)⟩
                · rw [if_neg c16] at H
                  exact absurd H (by simp)
              · rw [if_neg c15] at H
                exact absurd H (by simp)
            · rw [if_neg c14] at H
              have c14b0 : decide (x32_2 < (l0.length : Int)) = false := decide_eq_false c14
              clear c14
              obtain rfl := Option.some.inj H
              go_wp2
              go_ret
              exact ⟨by first | rfl | (simp [errW_none, errW_some] <;> rfl) | (simp [*, errW_none, errW_some] <;> rfl), by repeat (first | (with_reducible first | exact HB.out | apply below_alloc | apply pw_below_drewN | apply below_drew1) | exact HB.out)⟩

end Go.Proofs.YtijfddobandcdaaDoor.X
end
