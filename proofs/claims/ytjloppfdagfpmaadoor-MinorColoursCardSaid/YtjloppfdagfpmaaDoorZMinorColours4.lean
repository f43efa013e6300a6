/- Part 4 of what MinorColours rests on: contracts of the functions that it reaches, and what they compute, in plain words. -/
import Derived.Test.YtjloppfdagfpmaaDoorZMinorColours1
import Derived.Test.YtjloppfdagfpmaaDoorZMinorColours3
import Derived.Test.YtjloppfdagfpmaaDoorZMinorColours0
import Derived.Laws.EntriesVeiled
import Derived.Test.YtjloppfdagfpmaaDoorZMinorColours2
import Derived.WalkSpells
import Derived.ArgAppend
import Derived.SizedLaws
import Derived.ChangeSlices
set_option linter.unusedVariables false
set_option linter.unusedSimpArgs false
section
namespace Go.Proofs.YtjloppfdagfpmaaDoor.T
open Go.RowKit YtjloppfdagfpmaaDoorW.PrintWords YtjloppfdagfpmaaDoorW.PrintLast YtjloppfdagfpmaaDoorW.PrintMore
def Fil (adj : Nat → Nat → Prop) (v x y : Nat) : Prop := x ≠ y ∧ x ≠ v ∧ y ≠ v ∧ (adj x y ∨ (adj x v ∧ adj v y))
theorem fil_symm {adj : Nat → Nat → Prop} (hs : ∀ x y, adj x y → adj y x) {v : Nat} : ∀ x y, Fil adj v x y → Fil adj v y x := by
 rintro x y ⟨h1, h2, h3, h | ⟨h, h'⟩⟩
 ·exact ⟨h1.symm, h3, h2, .inl (hs _ _ h)⟩
 ·exact ⟨h1.symm, h3, h2, .inr ⟨hs _ _ h', hs _ _ h⟩⟩
theorem way_fil {adj : Nat → Nat → Prop} (hi : ∀ x, ¬ adj x x) {S : Nat → Prop} {v x y : Nat} (hx : x ≠ v) (hyv : y ≠ v) (hyx : y ≠ x) (hv : ¬ S v) (h : Way adj (fun u => S u ∨ u = v) x y) : Way (Fil adj v) S x y := by
 have key : ∀ y, Way adj (fun u => S u ∨ u = v) x y → (y ≠ v → y = x ∨ Way (Fil adj v) S x y) ∧ (y = v → adj x v ∨ ∃ z, z ≠ v ∧ z ≠ x ∧ Way (Fil adj v) S x z ∧ S z ∧ adj z v) := by
  intro y h
  induction h with
  | @one u ha =>
   refine ⟨fun hu => ?_, fun hu => .inl (hu ▸ ha)⟩
   exact .inr (.one ⟨fun e => hi x (e ▸ ha), hx, hu, .inl ha⟩)
  | @more z u hz hS ha ih =>
   refine ⟨fun hu => ?_, fun hu => ?_⟩
   ·by_cases hux : u = x
    ·exact .inl hux
    ·right
     by_cases hzv : z = v
     ·subst hzv
      rcases ih.2 rfl with h | ⟨q, hq1, hq2, hq3, hq4, hq5⟩
      ·exact .one ⟨fun e => hux e.symm, hx, hu, .inr ⟨h, ha⟩⟩
      ·by_cases e : q = u
       ·subst e; exact hq3
       ·exact .more hq3 hq4 ⟨e, hq1, hu, .inr ⟨hq5, ha⟩⟩
     ·rcases ih.1 hzv with e | hw
      ·subst e; exact .one ⟨fun e => hux e.symm, hx, hu, .inl ha⟩
      ·exact .more hw (hS.resolve_right hzv) ⟨fun e => hi u (e ▸ ha), hzv, hu, .inl ha⟩
   ·subst hu
    have hzv : z ≠ u := fun e => hi u (e ▸ ha)
    by_cases hzx : z = x
    ·subst hzx; exact .inl ha
    ·exact .inr ⟨z, hzv, hzx, (ih.1 hzv).resolve_left hzx, hS.resolve_right hzv, ha⟩
 exact ((key y h).1 hyv).resolve_left hyx
theorem elim_fil {V : Nat → Prop} {adj : Nat → Nat → Prop} (hi : ∀ x, ¬ adj x x) {k v : Nat} (hv : V v) (hk : AtMost k (adj v)) {S : Nat → Prop} (h : Elim (fun x => V x ∧ x ≠ v) (Fil adj v) k S) : Elim V adj k (fun u => S u ∨ u = v) := by
 induction h with
 | nil =>
  refine (Elim.snoc v Elim.nil hv id (hk.mono (Nat.le_refl _) fun u hu => ?_)).ext fun u => Iff.rfl
  have key : ∀ u, Way adj (fun _ => False) v u → adj v u := by
   intro u hw
   cases hw with
   | one h => exact h
   | more _ h _ => exact h.elim
  exact key u hu.1
 | @snoc S w h1 hw hSw ha ih =>
  have hSv : ¬ S v := fun hc => (h1.sub v hc).2 rfl
  refine (Elim.snoc w ih hw.1 (fun hc => hc.elim hSw hw.2) (ha.mono (Nat.le_refl _) fun u hu => ?_)).ext fun u => ?_
  ·obtain ⟨hu1, hu2, hu3⟩ := hu
   rw [not_or] at hu2
   exact ⟨way_fil hi hw.2 hu2.2 hu3 hSv hu1, hu2.1, hu3⟩
  ·constructor
   ·rintro ((h | h) | h)
    ·exact .inl (.inl h)
    ·exact .inr h
    ·exact .inl (.inr h)
   ·rintro ((h | h) | h)
    ·exact .inl (.inl h)
    ·exact .inr h
    ·exact .inl (.inr h)
theorem mnr_mono {V : Nat → Prop} {adj adj' : Nat → Nat → Prop} {k : Nat} {pe : Nat → Nat → Prop} {W : Nat → Prop} (hV : ∀ x, W x → V x) (h : ∀ x y, adj' x y → adj x y) (hm : Mnr W adj' k pe) : Mnr V adj k pe :=
 mnr_map (fun x u => u = x) (fun x hx => ⟨conn_one adj x, fun u hu => by rw [hu]; exact hV x hx⟩) (fun x y u _ _ h1 h2 => h1.symm.trans h2) (fun x y _ _ ha => ⟨x, y, rfl, rfl, h x y ha⟩) hm
theorem fil_mnr {V : Nat → Prop} {adj : Nat → Nat → Prop} (hs : ∀ x y, adj x y → adj y x) (hi : ∀ x, ¬ adj x x) {v : Nat} (hv : V v) (h2 : AtMost 2 (adj v)) {k : Nat} {pe : Nat → Nat → Prop} (h : Mnr (fun x => V x ∧ x ≠ v) (Fil adj v) k pe) : Mnr V adj k pe := by
 by_cases h1 : AtMost 1 (adj v)
 ·refine mnr_mono (fun x hx => hx.1) (fun x y hxy => ?_) h
  obtain ⟨hne, _, _, ha | ⟨ha, hb⟩⟩ := hxy
  ·exact ha
  ·exfalso
   obtain ⟨l, hl, hm⟩ := h1
   have m1 := hm x (hs _ _ ha)
   have m2 := hm y hb
   have := nodup_le (l := [x, y]) (m := l) (by simp [hne]) (by
    intro z hz
    simp at hz
    rcases hz with rfl | rfl
    ·exact m1
    ·exact m2)
   simp at this
   omega
 ·obtain ⟨a, ha, _⟩ := not_atMost h1 [] (by simp)
  have hne : a ≠ v := fun e => hi v (e ▸ ha)
  refine ctr_mnr (u := a) (v := v) hs (hs _ _ ha) hv hne ?_
  refine mnr_mono (fun x hx => hx) (fun x y hxy => ?_) h
  obtain ⟨h3, h4, h5, hb | ⟨hb, hc⟩⟩ := hxy
  ·exact ⟨h3, h4, h5, .inl hb⟩
  ·refine ⟨h3, h4, h5, .inr ?_⟩
   by_cases e1 : x = a
   ·exact .inl ⟨e1, hc⟩
   ·by_cases e2 : y = a
    ·exact .inr ⟨e2, hs _ _ hb⟩
    ·exfalso
     obtain ⟨l, hl, hm⟩ := h2
     have := nodup_le (l := [x, y, a]) (m := l) (by simp; exact ⟨⟨h3, e1⟩, e2⟩) (by
      intro z hz
      simp at hz
      rcases hz with rfl | rfl | rfl
      ·exact hm _ (hs _ _ hb)
      ·exact hm _ hc
      ·exact hm _ ha)
     simp at this
     omega
theorem elim_of {k : Nat} (hk : k ≤ 2) (core : ∀ (V : List Nat) (adj : Nat → Nat → Prop), V ≠ [] → (∀ x y, adj x y → adj y x) → (∀ x, ¬ adj x x) → (∀ x y, adj x y → x ∈ V) → (∀ x, x ∈ V → ¬ AtMost k (adj x)) → Mnr (fun x => x ∈ V) adj (k + 2) (fun i j => i ≠ j)) :
  ∀ (n : Nat) (V : List Nat) (adj : Nat → Nat → Prop), V.length = n → (∀ x y, adj x y → adj y x) → (∀ x, ¬ adj x x) → (∀ x y, adj x y → x ∈ V) → ¬ Mnr (fun x => x ∈ V) adj (k + 2) (fun i j => i ≠ j) → Elim (fun x => x ∈ V) adj k (fun x => x ∈ V) := by
 intro n
 induction n using Nat.strongRecOn with
 | _ n ih =>
  intro V adj hl hs hi hV hno
  by_cases hne : V = []
  ·subst hne
   exact Elim.nil.ext fun u => by simp
  ·have : ∃ v, v ∈ V ∧ AtMost k (adj v) := by
    apply Classical.byContradiction
    intro hn
    exact hno (core V adj hne hs hi hV fun x hx hm => hn ⟨x, hx, hm⟩)
   obtain ⟨v, hv, hm⟩ := this
   have e : (fun x => x ∈ V ∧ x ≠ v) = fun x => x ∈ V.filter (fun x => decide (x ≠ v)) := funext fun x => propext (by simp)
   have less : (V.filter (fun x => decide (x ≠ v))).length < V.length := List.length_filter_lt_length_iff_exists.2 ⟨v, hv, by simp⟩
   have h1 := ih _ (by omega) (V.filter fun x => decide (x ≠ v)) (Fil adj v) rfl (fil_symm hs) (fun x h => h.1 rfl) (by
    rintro x y ⟨h1, h2, h3, h | ⟨h, h'⟩⟩
    ·simp; exact ⟨hV _ _ h, h2⟩
    ·simp; exact ⟨hV _ _ h, h2⟩) (fun h => hno (fil_mnr hs hi hv (hm.mono hk fun u h => h) (by rw [e]; exact h)))
   rw [← e] at h1
   refine (elim_fil hi hv hm h1).ext fun u => ?_
   constructor
   ·rintro (h | h)
    ·exact h.1
    ·rw [h]; exact hv
   ·intro h
    by_cases e : u = v
    ·exact .inr e
    ·exact .inl ⟨h, e⟩
theorem range_mem (n : Nat) : (fun x => x ∈ List.range n) = fun x => x < n := funext fun x => propext List.mem_range
theorem no_k4 {m : Nat} {G : List Nat} (hG : Gr m G) (h : ¬ Mnr (fun x => x < G.length) (Adj G) 4 (fun i j => i ≠ j)) : Elim (fun x => x < G.length) (Adj G) 2 (fun x => x < G.length) := by
 rw [← range_mem] at h ⊢
 exact elim_of (by omega) (fun V adj h1 h2 h3 h4 h5 => deg3_k4 _ V adj rfl h1 h2 h3 h4 h5) _ _ _ rfl (fun x y h => hG.adj_symm h) (fun x h => hG.adj_irr h) (fun x y h => List.mem_range.2 (hG.adj_lt' h)) h
theorem diff_tb (X v j : Nat) : (diff X (2 ^ v)).testBit j = (X.testBit j && !decide (j = v)) := by
 rw [Bool.eq_iff_iff, Bool.and_eq_true, Bool.not_eq_true', decide_eq_false_iff_not]
 have h := diff_bset X (2 ^ v) j
 rw [two_pow_bit] at h
 exact h
theorem pc_split {X v : Nat} (h : bset X v) : ∀ n, pc X n = pc (diff X (2 ^ v)) n + (if v < n then 1 else 0)
 | 0 => rfl
 | n + 1 => by
  have ih := pc_split h n
  simp only [pc]
  rw [diff_tb, ih]
  by_cases e : n = v
  ·subst e
   have : X.testBit n = true := h
   simp [this]
  ·by_cases h3 : v < n
   ·simp [e, h3, show v < n + 1 by omega]; omega
   ·simp [e, h3, show ¬ v < n + 1 by omega]
theorem diff_pc {X v n : Nat} (hv : bset X v) (hvn : v < n) : pc X n = pc (diff X (2 ^ v)) n + 1 := by rw [pc_split hv n, if_pos hvn]
end Go.Proofs.YtjloppfdagfpmaaDoor.T
end
section
namespace Go.Proofs.YtjloppfdagfpmaaDoor.X
open Go.RowKit YtjloppfdagfpmaaDoorW.PrintWords YtjloppfdagfpmaaDoorW.PrintLast YtjloppfdagfpmaaDoorW.PrintMore YtjloppfdagfpmaaDoor.T
attribute [local go_sem] max2_int min2_int max_two min_two max_three min_three max_four min_four
theorem goesC_ {P : Program} {ops : Array Oper} {Q : Exit → Act → World → Prop} {oi : Oper} {N : Option Tmp} {a : Act} {w : World} {K : Act → World → Prop} {f : FuncId} {fn : Func} {as_ : Array Operand} {ts : Array TypeId} (hf : P.funcs[f]? = some fn) (hname : (fn.name == "runtime.NumGoroutine") = false) (hb : fn.body.isSome = true) (args caps all : Array Value) (s : Operand)
  (hw : Region.wanted oi (yielded ops a.tmps) = true) (hN : oi.dst = N) (hop : oi.op = .call { callee := .value s, args := as_, argTypes := ts }) (hs : a.eval s = .func (.func f) #[] caps) (hargs : as_.map a.eval = args) (hall : args ++ caps = all)
  (h : Calls P f all w fun e w' => ∃ v, e = .returned v ∧ K (a.put N v) w') : if Region.wanted oi (yielded ops a.tmps) = true then Oper.wp P oi a w K Q else K (a.put N undef) w := by
 subst hall
 refine call_ f (args ++ caps) hw hN ?_ h
 have he := enters_ hf hname hb (args ++ caps) w
 unfold execOp
 simp [hop, resolve, Deferred.ofValue, invoke, hs, hargs, he]
structure Keep2 (a b : World) (l r : Option Nat) : Prop where
 os : b.os = a.os
 tape : b.tape = a.tape
 output : b.output = a.output
 size : a.heap.size ≤ b.heap.size
 block : ∀ k, k < a.heap.size → some k ≠ l → some k ≠ r → b.heap[k]? = a.heap[k]?
theorem Keep2.of_grown {a b : World} {q : Option Nat} (h : a.grownBy b q) : Keep2 a b q none := ⟨h.os, h.tape, h.output, h.size, fun k hk h1 _ => h.block k hk h1⟩
theorem Keep2.of_below {a b : World} (h : Below a.heap.size a b) (l r : Option Nat) : Keep2 a b l r := ⟨h.os, h.tape, h.output, h.size, fun k hk _ _ => h.block k hk⟩
theorem Keep2.step {a b c : World} {l r p q : Option Nat} (h : Keep2 a b l r) (k : Keep2 b c p q) (hp : ∀ j, p = some j → a.heap.size ≤ j ∨ some j = l ∨ some j = r) (hq : ∀ j, q = some j → a.heap.size ≤ j ∨ some j = l ∨ some j = r) : Keep2 a c l r :=
 ⟨k.os.trans h.os, k.tape.trans h.tape, k.output.trans h.output, Nat.le_trans h.size k.size, fun i hi h1 h2 => (k.block i (Nat.lt_of_lt_of_le hi h.size) (fun e => by rcases hp i e.symm with h3 | h3 | h3 <;> first | omega | exact h1 h3 | exact h2 h3) (fun e => by rcases hq i e.symm with h3 | h3 | h3 <;> first | omega | exact h1 h3 | exact h2 h3)).trans (h.block i hi h1 h2)⟩
def FB (s : Nat) (u v : Value) : Prop := v.ownBlock = u.ownBlock ∨ ∀ b, v.ownBlock = some b → s ≤ b
theorem FB.refl (s : Nat) (u : Value) : FB s u u := .inl rfl
theorem FB.trans {s t : Nat} {u v z : Value} (h : FB s u v) (k : FB t v z) (hst : s ≤ t) : FB s u z := by
 rcases k with k | k
 ·rcases h with h | h
  ·exact .inl (k.trans h)
  ·exact .inr fun b hb => h b (by rw [← k]; exact hb)
 ·exact .inr fun b hb => Nat.le_trans hst (k b hb)
theorem FB.row {s : Nat} {l r : Option Nat} {u v : Value} (h : FB s u v) (hr : r = u.ownBlock) : ∀ j, v.ownBlock = some j → s ≤ j ∨ some j = l ∨ some j = r := by
 intro j hj
 rcases h with h | h
 ·exact .inr (.inr (by rw [← hj, h, hr]))
 ·exact .inl (h j hj)
structure OI (W0 W : World) (lB : Nat) (M : List Nat) (v : Value) : Prop where
 blk : W.heap[lB]? = some (.cells #[v] 22 (0, 0))
 own : W.ownsRow W0.heap.size 3 1 v M.length ((gi M).map (Value.int .i64))
 grown : W0.grownBy W (some lB)
theorem OI.low {W0 W V : World} {lB : Nat} {M : List Nat} {v : Value} (h : OI W0 W lB M v) (hb : Below W.heap.size W V) : OI W0 V lB M v :=
 ⟨blk_below h.blk hb, own_kept h.own (grown_of_below hb none) (fun _ _ e => by cases e), grown_new h.grown (grown_of_below hb none) (fun _ e => by cases e)⟩
theorem OI.cell {W0 W : World} {lB : Nat} {M : List Nat} {v : Value} (h : OI W0 W lB M v) : W.cell? ⟨lB, 0, none⟩ = some v := (blk_cell h.blk 0).trans rfl
theorem OI.push {W0 W w8 : World} {lB x : Nat} {M : List Nat} {v : Value} {o : Obj} {g c : Nat} (h : OI W0 W lB M v) (hlB : lB < W0.heap.size) (hg : (W.alloc o).grownBy w8 v.ownBlock)
  (ho : w8.ownsRow W0.heap.size 3 1 (.slice (some ⟨g, 0, none⟩) (M.length + 1) c) (M.length + 1) ((gi M).map (Value.int .i64) ++ [.int .i64 (x : Int)])) :
  OI W0 (w8.setCell ⟨lB, 0, none⟩ (.slice (some ⟨g, 0, none⟩) (M.length + 1) c)) lB (M ++ [x]) (.slice (some ⟨g, 0, none⟩) (M.length + 1) c) := by
 have h1 := h.grown.size
 have hne : some lB ≠ v.ownBlock := fun e => by have := own_base2 h.own lB e.symm; omega
 have hb8 := blk_grown (blk_alloc h.blk o) hg hne
 refine ⟨?_, ?_, ?_⟩
 ·have := blk_set hb8 0 (.slice (some ⟨g, 0, none⟩) (M.length + 1) c)
  rw [this]
  rfl
 ·have e : (M ++ [x]).length = M.length + 1 := by simp
  rw [e, show (gi (M ++ [x])).map (Value.int .i64) = (gi M).map (Value.int .i64) ++ [.int .i64 (x : Int)] by simp [gi]]
  exact own_kept ho (grownBy_set w8 ⟨lB, 0, none⟩ _) (fun b hb e => by
   have := own_base2 ho b hb
   have e2 : b = lB := Option.some.inj e
   omega)
 ·refine grown_new (grown_new (grown_new h.grown (World.grownBy_alloc W o none) (fun _ e => by cases e)) hg (fun j e => .inl (own_base2 h.own j e))) (grownBy_set w8 ⟨lB, 0, none⟩ _) (fun j e => .inr e.symm)
theorem OI.pop {W0 W : World} {lB x : Nat} {M : List Nat} {g n c : Nat} (h : OI W0 W lB (M ++ [x]) (.slice (some ⟨g, 0, none⟩) n c)) (hlB : lB < W0.heap.size) (hn : n = M.length + 1) :
  OI W0 (W.setCell ⟨lB, 0, none⟩ (.slice (some ⟨g, 0, none⟩) M.length c)) lB M (.slice (some ⟨g, 0, none⟩) M.length c) := by
 subst hn
 refine ⟨?_, ?_, ?_⟩
 ·have := blk_set h.blk 0 (.slice (some ⟨g, 0, none⟩) M.length c)
  rw [this]
  rfl
 ·have h2 := h.own
  rw [show (M ++ [x]).length = M.length + 1 by simp, show (gi (M ++ [x])).map (Value.int .i64) = (gi M).map (Value.int .i64) ++ [.int .i64 (x : Int)] by simp [gi]] at h2
  have h3 := ownsRow_pop (xs := (gi M).map (Value.int .i64)) (by simp [gi]) h2
  exact own_kept h3 (grownBy_set W ⟨lB, 0, none⟩ _) (fun b hb e => by
   have := own_base2 h3 b hb
   have e2 : b = lB := Option.some.inj e
   omega)
 ·exact grown_new h.grown (grownBy_set W ⟨lB, 0, none⟩ _) (fun j e => .inr e.symm)
theorem OI.cap {W0 W : World} {lB x : Nat} {M : List Nat} {v : Value} (h : OI W0 W lB (M ++ [x]) v) : ∃ g c, v = .slice (some ⟨g, 0, none⟩) (M.length + 1) c ∧ M.length + 1 ≤ c := by
 have h2 := h.own
 rw [show (M ++ [x]).length = M.length + 1 by simp] at h2
 rcases h2.2 with ⟨_, h0⟩ | ⟨g, cap, cur, e, _, _, hc, _⟩
 ·omega
 ·exact ⟨g, cap, e, hc⟩
theorem OI.row {W0 W : World} {lB : Nat} {M : List Nat} {A : Option Addr} {c : Nat} (h : OI W0 W lB M (.slice A M.length c)) : M.length ≤ c ∧ Kd.C (Kd.int .i64) W A M.length (gi M) := by
 have hro := h.own
 have hlen : M.length = (gi M).length := (gi_length M).symm
 rw [hlen] at hro ⊢
 exact C_of_row hro
theorem diff_pcO {left v : Nat} (hv : left.testBit v = true) (hv9 : v < 9) : pc (diff left (2 ^ v)) 9 + 1 = pc left 9 := by
 rw [diff_pc (v := v) (n := 9) hv hv9]
theorem pc_none : ∀ x : Fin 512, pc x.val 9 = 0 → x.val = 0 := by decide +kernel
theorem crosses_calls {G M : List Nat} (hG : Gr 9 G) (hM : ∀ x ∈ M, x < G.length) (hM2 : M.length ≤ 1000) (h0 : 0 < M.length) (Ag : Option Addr) (cg : Nat) (hcg : G.length ≤ cg) (A : Option Addr) (c : Nat) (hc : M.length ≤ c) (w : World) (h1 : Kd.C (Kd.int .i64) w Ag (gi G).length (gi G)) (h2 : Kd.C (Kd.int .i64) w A M.length (gi M)) :
  Calls Tryd.prog 83 #[.slice Ag G.length cg, .slice A M.length c] w fun e w' => e = .returned (.bool (crossB G M)) ∧ Drawn0 w w' := by
 obtain ⟨K, hK⟩ := crosses_ev hG.most (fun x hx => by
  obtain ⟨i, hi, rfl⟩ := List.mem_iff_getElem.1 hx
  have := hG.lt i hi
  rw [List.getD_eq_getElem?_getD, List.getElem?_eq_getElem hi] at this
  exact small G hG.most this) hM hM2 h0
 have := minor_town_crosses.calls K Ag cg (gi G) A c (gi M) _ w h1 (by rw [gi_length]; exact hcg) (by rw [gi_length]; exact h2) (by rw [gi_length]; exact hc) (hK K (Nat.le_refl _))
 rw [gi_length, gi_length] at this
 exact this
set_option maxHeartbeats 16000000 in
set_option maxRecDepth 100000 in
theorem outer_grow (lB tB gB : Nat) (W0 : World) (hlB : lB < W0.heap.size) (Ag : Option Addr) (cg : Nat) (G : List Nat) (hG : Gr 9 G) (hcg : G.length ≤ cg)
  (hlow : ∀ W, W0.grownBy W (some lB) → GL W ∧ Kd.C (Kd.int .i64) W Ag (gi G).length (gi G) ∧ W.cell? ⟨tB, 0, none⟩ = some (.slice Ag G.length cg) ∧ W.cell? ⟨gB, 0, none⟩ = some (.func (.func 96) #[] #[.pointer (some ⟨lB, 0, none⟩), .pointer (some ⟨tB, 0, none⟩), .pointer (some ⟨gB, 0, none⟩)])) :
  ∀ (d : Nat) (M : List Nat) (left : Nat) (v : Value) (w : World), pc left 9 = d → left < 2 ^ G.length → (∀ x ∈ M, x < G.length) → M.length + d ≤ 100 → OI W0 w lB M v →
  Calls Tryd.prog 96 #[.int .i64 (left : Int), .pointer (some ⟨lB, 0, none⟩), .pointer (some ⟨tB, 0, none⟩), .pointer (some ⟨gB, 0, none⟩)] w fun e w' => e = .returned (.bool (outN G d M left).isSome) ∧ ∃ v', OI W0 w' lB ((outN G d M left).getD M) v' ∧ FB w.heap.size v v' ∧ Keep2 w w' (some lB) v.ownBlock := by
 intro d
 induction d with
 | zero =>
  intro M left v w hd hl hM hML hI
  have h0 : left = 0 := by
   exact pc_none ⟨left, small G hG.most hl⟩ hd
  subst h0
  have HI := Aside0.mk hI
  have HLOW := Aside0.mk hlow
  clear hI hlow hM
  go_enter Tryd.func96, Tryd.ntmps96
  go_wp2
  go_ret
  exact ⟨rfl, _, HI.out, FB.refl _ _, Keep2.of_below (Below.refl _ _) _ _⟩
 | succ d ih =>
  intro M left v w hd hl hM hML hI
  have hlne : left ≠ 0 := by
   rintro rfl
   rw [show pc 0 9 = 0 from rfl] at hd
   omega
  have hl512 := small G hG.most hl
  have hel : (els left 9).length ≤ 9 := by rw [els_length]; exact pc_le _ 9
  have hk0 : ((left : Int) == 0) = false := beq_eq_false_iff_ne.2 (by omega)
  have IH := Aside0.mk ih
  have HI := Aside0.mk hI
  have HLOW := Aside0.mk hlow
  have HM := Aside0.mk hM
  have HG := Aside0.mk hG
  have HL := Aside0.mk hl
  obtain ⟨R, hR⟩ : ∃ R, outN G (d + 1) M left = R := ⟨_, rfl⟩
  obtain ⟨F, hF⟩ : ∃ F : Nat → Option (List Nat), F = fun x => if crossB G (M ++ [x]) = true then none else outN G d (M ++ [x]) (diff left (2 ^ x)) := ⟨_, rfl⟩
  have hRF : ((els left 9).drop 0).findSome? F = R := by rw [← hR, hF]; rfl
  have HFE : Aside0 (∀ x, F x = if crossB G (M ++ [x]) = true then none else outN G d (M ++ [x]) (diff left (2 ^ x))) := ⟨fun x => by rw [hF]⟩
  have HRF := Aside0.mk hRF
  have HND : Aside0 (∀ W, Below w.heap.size w W → Calls Tryd.prog 69 #[.int .i64 (left : Int)] W fun e w' => ∃ A c, e = .returned (.slice A (els left 9).length c) ∧ (∀ V, Keep2 w' V (some lB) v.ownBlock → Kd.C (Kd.int .i64) V A (els left 9).length (gi (els left 9))) ∧ Below W.heap.size W w') := ⟨fun W hW => by
   obtain ⟨K, hK⟩ := nodes_ev left hl512
   refine (minor_nodes.calls K (left : Int) _ W (HLOW.out W (HI.out.low hW).grown).1 (hK K (Nat.le_refl _))).mono ?_
   rintro e w' ⟨u, rfl, hu, hb⟩
   obtain ⟨A, c, eu, hc, hC⟩ := Kd.R_reads hu
   subst eu
   rw [gi_length] at hu
   refine ⟨A, c, by rw [gi_length], fun V hV => ?_, hb⟩
   have hs := HI.out.grown.size
   have hs2 := hW.size
   have h3 := Kd.R_step (w1 := V) (Kd.R_bound hu) (fun k hk hk2 => hV.block k hk2 (fun e => by have := hk.2.1; have e2 := Option.some.inj e; omega) (fun e => by have := own_lt2 HI.out.own k e.symm; have := hk.2.1; omega))
   obtain ⟨A2, c2, e2, _, hC2⟩ := Kd.R_reads h3
   injection e2 with e3 e4 e5
   rw [gi_length] at hC2
   rw [e3]; exact hC2⟩
  rw [hR]
  clear hI hlow hM hG hl hF hRF hR ih hlne
  go_enter Tryd.func96, Tryd.ntmps96
  go_wp2_with (go_at_call 69; refine (HND.out _ (by repeat (first | exact Below.refl _ _ | refine pw_below_drewN ?_ _))).mono ?_; rintro e w1 ⟨An, cn, rfl, hCn, hb1⟩; have HCN := Aside0.mk hCn; have HB1 := Aside0.mk hb1; clear hCn hb1)
  go_loopg [13] (els left 9).length (fun kq v13 w' => ∃ (i : Nat) (v1 : Value), v13 = .int .i64 (i : Int) ∧ i + kq = (els left 9).length ∧ Aside0 (((els left 9).drop i).findSome? F = R) ∧ Aside0 (OI W0 w' lB M v1 ∧ FB w1.heap.size v v1 ∧ Keep2 w1 w' (some lB) v.ownBlock))
  case atStart => exact ⟨0, v, rfl, by omega, HRF, ⟨HI.out.low HB1.out, FB.refl _ _, Keep2.of_below (Below.refl _ _) _ _⟩⟩
  case round =>
   clear HRF
   obtain ⟨i, v1, rfl, hi, HA, HX⟩ := hrel
   by_cases hil : i < (els left 9).length
   ·have hi1 : ((i : Int) < ((els left 9).length : Int)) = True := eq_true (by omega)
    have hi2 : decide ((i : Int) < ((els left 9).length : Int)) = true := decide_eq_true (by omega)
    cases gk with
    | zero => omega
    | succ gi' =>
    obtain ⟨hX1, hX2, hX3⟩ := HX.out
    obtain ⟨ad, e1, hgx⟩ := Kd.at_int (HCN.out wr hX3) (i : Int) (by omega) (by omega)
    subst e1
    rw [rd_gi, Int.toNat_natCast] at hgx
    have ha := HA.out
    rw [List.drop_eq_getElem_cons hil, List.findSome?_cons] at ha
    have hxm : (els left 9)[i] ∈ els left 9 := List.getElem_mem hil
    have hxe : (els left 9).getD i 0 = (els left 9)[i] := by rw [List.getD_eq_getElem?_getD, List.getElem?_eq_getElem hil]; rfl
    rw [hxe] at hgx
    generalize (els left 9)[i] = x at *
    obtain ⟨hx9, hxb⟩ := mem_els.1 hxm
    have hxG : x < G.length := bit_lt HL.out hxb
    have HFX := Aside0.mk (HFE.out x)
    obtain ⟨A4, c4, e4⟩ := ownsRow_form2 hX1.own
    subst e4
    have hy0 : wr.cell? ⟨lB, 0, none⟩ = some (.slice A4 M.length c4) := hX1.cell
    have hgr := hX1.grown.size
    obtain ⟨N, ⟨hS1, hS2, hS3⟩, hNv⟩ := shJ x (by omega)
    have hdl : diff left (2 ^ x) < 2 ^ G.length := Nat.lt_of_le_of_lt (diff_le _ _) HL.out
    have hand : Go.bits .andNot .i64 (left : Int) N = ((diff left (2 ^ x) : Nat) : Int) := by
     rw [hNv, b_andNot _ _ (by omega) (Nat.pow_lt_pow_right (by omega) (by omega))]
    have hpc := diff_pcO hxb hx9
    have hMx : ∀ y ∈ M ++ [x], y < G.length := fun y hy => by
     rcases List.mem_append.1 hy with hy | hy
     ·exact HM.out y hy
     ·rw [List.mem_singleton.1 hy]; exact hxG
    have hMl : (M ++ [x]).length = M.length + 1 := by simp
    have HCR : Aside0 (∀ W A c, OI W0 W lB (M ++ [x]) (.slice A (M.length + 1) c) → Calls Tryd.prog 83 #[.slice Ag G.length cg, .slice A (M.length + 1) c] W fun e w' => e = .returned (.bool (crossB G (M ++ [x]))) ∧ Drawn0 W w') := ⟨fun W A c hW => by
     obtain ⟨q1, q2, q3, q4⟩ := HLOW.out W hW.grown
     rw [← hMl] at hW ⊢
     exact crosses_calls HG.out hMx (by omega) (by omega) Ag cg hcg A c hW.row.1 W q2 hW.row.2⟩
    have HREC : Aside0 (∀ W u, OI W0 W lB (M ++ [x]) u → Calls Tryd.prog 96 #[.int .i64 ((diff left (2 ^ x) : Nat) : Int), .pointer (some ⟨lB, 0, none⟩), .pointer (some ⟨tB, 0, none⟩), .pointer (some ⟨gB, 0, none⟩)] W fun e w' => e = .returned (.bool (outN G d (M ++ [x]) (diff left (2 ^ x))).isSome) ∧ ∃ v', OI W0 w' lB ((outN G d (M ++ [x]) (diff left (2 ^ x))).getD (M ++ [x])) v' ∧ FB W.heap.size u v' ∧ Keep2 W w' (some lB) u.ownBlock) := ⟨fun W u hW => IH.out (M ++ [x]) (diff left (2 ^ x)) u W (by omega) hdl hMx (by omega) hW⟩
    have HAH := Aside0.mk ha
    have HX1 := Aside0.mk hX1
    have HX2 := Aside0.mk hX2
    have HX3 := Aside0.mk hX3
    generalize diff left (2 ^ x) = left' at *
    clear ha hxm hxe HA HX hX1 hX2 hX3 hpc hdl hNv hxG hxb hMx
    obtain ⟨i3, hi3, hq0, hq1, hq2⟩ := info_parts info3
    cases hcb : crossB G (M ++ [x])
    ·rw [hcb] at HCR
     have HFY := Aside0.mk (show F x = outN G d (M ++ [x]) left' by rw [HFX.out, hcb, if_neg (by simp)])
     clear hcb HFX IH HG HM HFE HL
     cases hrec : outN G d (M ++ [x]) left' with
     | none =>
      rw [hrec] at HREC HFY
      have HA2 : Aside0 (((els left 9).drop (i + 1)).findSome? F = R) := ⟨by
       have := HAH.out
       rw [HFY.out] at this
       exact this⟩
      clear HFY HAH hrec
      go_wp2_with (at_builtin; refine wpList_append_own_at _ rfl _ _ 22 rfl W0.heap.size 3 i3 (.int .i64 0) 1 8 Tryd.underlying22 hi3 hq0 hq1 hq2 rfl (by decide) (.slice A4 M.length c4) M.length ((gi M).map (Value.int .i64)) rfl (HX1.out.own.alloc _) ⟨wr.heap.size, 0, none⟩ 1 1 [.int .i64 (x : Int)] rfl rfl (cell_one_new _ _ _) (by simp [Value.oneCell']) (by unfold maxLen; omega) (by omega) (by have := HX1.out.grown.size; simp; omega) ?_; intro v8 w8 hown8 hg8 _ hfb8; obtain ⟨g8, cap8, rfl⟩ := own_succ hown8; have hne8 : some lB ≠ (Value.slice A4 M.length c4).ownBlock := (fun e => by have := own_base2 HX1.out.own lB e.symm; omega); have hb8 := blk_grown (blk_alloc HX1.out.blk _) hg8 hne8; have hc8 : w8.cell? ⟨lB, 0, none⟩ = some (.slice A4 M.length c4) := (blk_cell hb8 0).trans rfl; have hf8 := blk_frozen hb8 0; have HX8 := Aside0.mk (HX1.out.push hlB hg8 hown8); have HG8 := Aside0.mk hg8; have HFB8 := Aside0.mk hfb8; clear hb8 hown8 hg8 hfb8)
      obtain ⟨wS, hwS⟩ : ∃ W : World, W = w8.setCell ⟨lB, 0, none⟩ (.slice (some ⟨g8, 0, none⟩) (M.length + 1) cap8) := ⟨_, rfl⟩
      rw [← hwS] at HX8
      rw [← hwS]
      have HK8 : Aside0 (Keep2 wr wS (some lB) (Value.slice A4 M.length c4).ownBlock) := ⟨((Keep2.of_below (below_alloc (Below.refl _ wr) _) (some lB) (Value.slice A4 M.length c4).ownBlock).step (Keep2.of_grown HG8.out) (fun j e => .inr (.inr e.symm)) (fun j e => by cases e)).step (by rw [hwS]; exact Keep2.of_grown (grownBy_set _ _ _)) (fun j e => .inr (.inl e.symm)) (fun j e => by cases e)⟩
      have HF8 : Aside0 (FB wr.heap.size (.slice A4 M.length c4) (.slice (some ⟨g8, 0, none⟩) (M.length + 1) cap8)) := ⟨by
       rcases HFB8.out with h | h
       ·exact .inl h
       ·exact .inr fun b' hb' => by
         have hb' := h.symm.trans hb'
         have := Option.some.inj hb'
         simp at this
         omega⟩
      obtain ⟨q1, q2, q3, q4⟩ := HLOW.out wS HX8.out.grown
      have q5 := HX8.out.cell
      have t0d : wS.drew.cell? ⟨tB, 0, none⟩ = some (.slice Ag G.length cg) := q3
      have l0d : wS.drew.cell? ⟨lB, 0, none⟩ = some (.slice (some ⟨g8, 0, none⟩) (M.length + 1) cap8) := q5
      have g0d : wS.drew.cell? ⟨gB, 0, none⟩ = some (.func (.func 96) #[] #[.pointer (some ⟨lB, 0, none⟩), .pointer (some ⟨tB, 0, none⟩), .pointer (some ⟨gB, 0, none⟩)]) := q4
      have bSd : Below wS.heap.size wS wS.drew := below_drew (Below.refl _ _)
      have CCR : Aside0 (∀ W, (W.cell? ⟨tB, 0, none⟩ = some (.slice Ag G.length cg) ∧ W.cell? ⟨lB, 0, none⟩ = some (.slice (some ⟨g8, 0, none⟩) (M.length + 1) cap8) ∧ W.cell? ⟨gB, 0, none⟩ = some (.func (.func 96) #[] #[.pointer (some ⟨lB, 0, none⟩), .pointer (some ⟨tB, 0, none⟩), .pointer (some ⟨gB, 0, none⟩)]) ∧ Below wS.heap.size wS W) → Calls Tryd.prog 83 #[.slice Ag G.length cg, .slice (some ⟨g8, 0, none⟩) (M.length + 1) cap8] W fun e w' => e = .returned (.bool false) ∧ w'.cell? ⟨tB, 0, none⟩ = some (.slice Ag G.length cg) ∧ w'.cell? ⟨lB, 0, none⟩ = some (.slice (some ⟨g8, 0, none⟩) (M.length + 1) cap8) ∧ w'.cell? ⟨gB, 0, none⟩ = some (.func (.func 96) #[] #[.pointer (some ⟨lB, 0, none⟩), .pointer (some ⟨tB, 0, none⟩), .pointer (some ⟨gB, 0, none⟩)]) ∧ Below wS.heap.size wS w') := ⟨by
       rintro W ⟨s0, s1, s2, s3⟩
       refine (HCR.out W _ _ (HX8.out.low s3)).mono ?_
       rintro e w' ⟨rfl, hdr⟩
       have hb := hdr.below
       exact ⟨rfl, (hb.cell (World.block_lt_of_cell? W _ s0)).trans s0, (hb.cell (World.block_lt_of_cell? W _ s1)).trans s1, (hb.cell (World.block_lt_of_cell? W _ s2)).trans s2, below_step s3 hb⟩⟩
      clear hwS hc8 hf8 HG8 HFB8 hy0 hgx q1 q2 q3 q4 q5
      refine start_ (n := 12) (S := fun w' => w'.cell? ⟨tB, 0, none⟩ = some (.slice Ag G.length cg) ∧ w'.cell? ⟨lB, 0, none⟩ = some (.slice (some ⟨g8, 0, none⟩) (M.length + 1) cap8) ∧ w'.cell? ⟨gB, 0, none⟩ = some (.func (.func 96) #[] #[.pointer (some ⟨lB, 0, none⟩), .pointer (some ⟨tB, 0, none⟩), .pointer (some ⟨gB, 0, none⟩)]) ∧ Below wS.heap.size wS w') (ds := [10]) (Qbz 12 0) (by kernel_rfl) rfl rfl ⟨t0d, l0d, g0d, bSd⟩ (fun hHeld => ?_)
      refine take_ (i := 0) (N := some 21) (v := ?_) (a' := ?_) (Qbz 12 1) rfl rfl (by kernel_rfl) (fun _ _ _ h => h) (Or.inl ⟨by rfl, ?_⟩) hHeld ?_ ?_;rotate_left;(·rintro w' ⟨s0, s1, s2, s3⟩;go_simp;with_reducible rfl);rotate_left;(·simp only [Act.put, Qp1, Qp2, Qp3, i64_w, i32_w];rfl)
      refine take_ (i := 1) (N := some 22) (v := ?_) (a' := ?_) (Qbz 12 3) rfl rfl (by kernel_rfl) (fun _ _ _ h => h) (Or.inl ⟨by rfl, ?_⟩) hHeld ?_ ?_;rotate_left;(·rintro w' ⟨s0, s1, s2, s3⟩;go_simp;with_reducible rfl);rotate_left;(·simp only [Act.put, Qp1, Qp2, Qp3, i64_w, i32_w];rfl)
      refine one_ (i := 2) (N := some 23) (Qbz 12 7) rfl rfl (by kernel_rfl) (by decide) (fun K hK => ?_)
      refine goes_ Tryd.func83 (by kernel_rfl) rfl #[.slice Ag G.length cg, .slice (some ⟨g8, 0, none⟩) (M.length + 1) cap8] (by rfl) rfl rfl (by simp only [List.map_toArray, List.map_cons, List.map_nil]; rfl) ?_
      with_reducible refine (CCR.out _ hHeld).mono ?_
      rintro e w9 ⟨rfl, k0, k1, k2, kB⟩
      refine ⟨_, rfl, ?_⟩
      refine hK.out _ _ ⟨k0, k1, k2, kB⟩ (fun hHeld => ?_)
      clear hK K
      refine norm_ (a' := ?_) ?_ ?_
      rotate_left
      ·show Act.put _ (some 23) _ = _
       simp only [Act.put, Qp1, Qp2, Qp3, i64_w, i32_w]
       rfl
      refine Qpu 3 24 ?_ ?_ (Qbz 12 15) (by kernel_rfl) ?_
      refine Qpu 4 25 ?_ ?_ (Qbz 12 31) (by kernel_rfl) ?_
      refine Qpu 6 27 ?_ ?_ (Qbz 12 95) (by kernel_rfl) ?_
      refine Qpu 7 28 ?_ ?_ (Qbz 12 223) (by kernel_rfl) ?_
      refine Qpu 8 29 ?_ ?_ (Qbz 12 479) (by kernel_rfl) ?_
      refine Qpu 9 30 ?_ ?_ (Qbz 12 991) (by kernel_rfl) ?_
      refine take_ (i := 5) (N := some 26) (v := ?_) (a' := ?_) (Qbz 12 1023) rfl rfl (by kernel_rfl) (fun _ _ _ h => h) (Or.inl ⟨by rfl, ?_⟩) hHeld ?_ ?_;rotate_left;(·rintro w' ⟨s0, s1, s2, s3⟩;go_simp;with_reducible rfl);rotate_left;(·simp only [Act.put, Qp1, Qp2, Qp3, i64_w, i32_w];rfl)
      refine last_ (i := 10) (N := some 31) (Qbz 12 2047) rfl rfl (by kernel_rfl) (by decide) (fun K hK => ?_)
      refine goesC_ Tryd.func96 (by kernel_rfl) rfl #[.int .i64 (left' : Int)] #[.pointer (some ⟨lB, 0, none⟩), .pointer (some ⟨tB, 0, none⟩), .pointer (some ⟨gB, 0, none⟩)] #[.int .i64 (left' : Int), .pointer (some ⟨lB, 0, none⟩), .pointer (some ⟨tB, 0, none⟩), .pointer (some ⟨gB, 0, none⟩)] (.tmp 26) (by rfl) rfl rfl (by rfl) (by simp only [List.map_toArray, List.map_cons, List.map_nil]; rfl) rfl ?_
      with_reducible refine (HREC.out _ _ (HX8.out.low hHeld.2.2.2)).mono ?_
      rintro e w10 ⟨rfl, v10, hO10, hF10, hK10⟩
      have hbl10 := (World.block_lt_of_cell? w9 _ k1)
      have hS9 := kB.size
      obtain ⟨g10, c10, rfl, hcap10⟩ := hO10.cap
      have hl10 : w10.cell? ⟨lB, 0, none⟩ = some (.slice (some ⟨g10, 0, none⟩) (M.length + 1) c10) := hO10.cell
      have hf10 := blk_frozen hO10.blk 0
      have HO10 := Aside0.mk hO10
      have HF10 := Aside0.mk hF10
      have HK10 := Aside0.mk hK10
      have HB9 := Aside0.mk kB
      clear hO10 hF10 hK10 kB
      have hkc1 : decide ((M.length : Int) ≤ (c10 : Int)) = true := decide_eq_true (by omega)
      have hkc2 : ((M.length : Int) ≤ (c10 : Int)) = True := eq_true (by omega)
      refine ⟨_, rfl, ?_⟩
      refine hK.out _ _ ?_
      clear hK K
      refine norm_ (a' := ?_) ?_ ?_
      rotate_left
      ·show Act.put _ (some 31) _ = _
       simp only [Act.put, Qp1, Qp2, Qp3, i64_w, i32_w]
       rfl
      refine Qpu 11 32 ?_ ?_ (Qbz 12 4095) (by kernel_rfl) ?_
      refine done_ (by kernel_rfl) ?_
      go_wp2
      go_roundg gi'
      case measure => omega
      case rel =>
       have k1 := HX3.out.step HK8.out (fun j e => .inr (.inl e.symm)) (FB.row HX2.out rfl)
       have k2 := k1.step (Keep2.of_below HB9.out none none) (fun j e => by cases e) (fun j e => by cases e)
       have f1 := HX2.out.trans HF8.out HX3.out.size
       have k3 := k2.step HK10.out (fun j e => .inr (.inl e.symm)) (f1.row rfl)
       have k4 := k3.step (Keep2.of_grown (grownBy_set w10 ⟨lB, 0, none⟩ (Value.slice (some ⟨g10, 0, none⟩) M.length c10))) (fun j e => .inr (.inl e.symm)) (fun j e => by cases e)
       have f2 := f1.trans HF10.out k2.size
       exact ⟨i + 1, _, by go_num, by omega, HA2, ⟨⟨HO10.out.pop hlB rfl, f2, k4⟩⟩⟩
     | some Rr =>
      rw [hrec] at HREC HFY
      have hr2 : R = some Rr := by
       have := HAH.out
       rw [HFY.out] at this
       exact this.symm
      subst hr2
      clear HFY HAH hrec
      go_wp2_with (at_builtin; refine wpList_append_own_at _ rfl _ _ 22 rfl W0.heap.size 3 i3 (.int .i64 0) 1 8 Tryd.underlying22 hi3 hq0 hq1 hq2 rfl (by decide) (.slice A4 M.length c4) M.length ((gi M).map (Value.int .i64)) rfl (HX1.out.own.alloc _) ⟨wr.heap.size, 0, none⟩ 1 1 [.int .i64 (x : Int)] rfl rfl (cell_one_new _ _ _) (by simp [Value.oneCell']) (by unfold maxLen; omega) (by omega) (by have := HX1.out.grown.size; simp; omega) ?_; intro v8 w8 hown8 hg8 _ hfb8; obtain ⟨g8, cap8, rfl⟩ := own_succ hown8; have hne8 : some lB ≠ (Value.slice A4 M.length c4).ownBlock := (fun e => by have := own_base2 HX1.out.own lB e.symm; omega); have hb8 := blk_grown (blk_alloc HX1.out.blk _) hg8 hne8; have hc8 : w8.cell? ⟨lB, 0, none⟩ = some (.slice A4 M.length c4) := (blk_cell hb8 0).trans rfl; have hf8 := blk_frozen hb8 0; have HX8 := Aside0.mk (HX1.out.push hlB hg8 hown8); have HG8 := Aside0.mk hg8; have HFB8 := Aside0.mk hfb8; clear hb8 hown8 hg8 hfb8)
      obtain ⟨wS, hwS⟩ : ∃ W : World, W = w8.setCell ⟨lB, 0, none⟩ (.slice (some ⟨g8, 0, none⟩) (M.length + 1) cap8) := ⟨_, rfl⟩
      rw [← hwS] at HX8
      rw [← hwS]
      have HK8 : Aside0 (Keep2 wr wS (some lB) (Value.slice A4 M.length c4).ownBlock) := ⟨((Keep2.of_below (below_alloc (Below.refl _ wr) _) (some lB) (Value.slice A4 M.length c4).ownBlock).step (Keep2.of_grown HG8.out) (fun j e => .inr (.inr e.symm)) (fun j e => by cases e)).step (by rw [hwS]; exact Keep2.of_grown (grownBy_set _ _ _)) (fun j e => .inr (.inl e.symm)) (fun j e => by cases e)⟩
      have HF8 : Aside0 (FB wr.heap.size (.slice A4 M.length c4) (.slice (some ⟨g8, 0, none⟩) (M.length + 1) cap8)) := ⟨by
       rcases HFB8.out with h | h
       ·exact .inl h
       ·exact .inr fun b' hb' => by
         have hb' := h.symm.trans hb'
         have := Option.some.inj hb'
         simp at this
         omega⟩
      obtain ⟨q1, q2, q3, q4⟩ := HLOW.out wS HX8.out.grown
      have q5 := HX8.out.cell
      have t0d : wS.drew.cell? ⟨tB, 0, none⟩ = some (.slice Ag G.length cg) := q3
      have l0d : wS.drew.cell? ⟨lB, 0, none⟩ = some (.slice (some ⟨g8, 0, none⟩) (M.length + 1) cap8) := q5
      have g0d : wS.drew.cell? ⟨gB, 0, none⟩ = some (.func (.func 96) #[] #[.pointer (some ⟨lB, 0, none⟩), .pointer (some ⟨tB, 0, none⟩), .pointer (some ⟨gB, 0, none⟩)]) := q4
      have bSd : Below wS.heap.size wS wS.drew := below_drew (Below.refl _ _)
      have CCR : Aside0 (∀ W, (W.cell? ⟨tB, 0, none⟩ = some (.slice Ag G.length cg) ∧ W.cell? ⟨lB, 0, none⟩ = some (.slice (some ⟨g8, 0, none⟩) (M.length + 1) cap8) ∧ W.cell? ⟨gB, 0, none⟩ = some (.func (.func 96) #[] #[.pointer (some ⟨lB, 0, none⟩), .pointer (some ⟨tB, 0, none⟩), .pointer (some ⟨gB, 0, none⟩)]) ∧ Below wS.heap.size wS W) → Calls Tryd.prog 83 #[.slice Ag G.length cg, .slice (some ⟨g8, 0, none⟩) (M.length + 1) cap8] W fun e w' => e = .returned (.bool false) ∧ w'.cell? ⟨tB, 0, none⟩ = some (.slice Ag G.length cg) ∧ w'.cell? ⟨lB, 0, none⟩ = some (.slice (some ⟨g8, 0, none⟩) (M.length + 1) cap8) ∧ w'.cell? ⟨gB, 0, none⟩ = some (.func (.func 96) #[] #[.pointer (some ⟨lB, 0, none⟩), .pointer (some ⟨tB, 0, none⟩), .pointer (some ⟨gB, 0, none⟩)]) ∧ Below wS.heap.size wS w') := ⟨by
       rintro W ⟨s0, s1, s2, s3⟩
       refine (HCR.out W _ _ (HX8.out.low s3)).mono ?_
       rintro e w' ⟨rfl, hdr⟩
       have hb := hdr.below
       exact ⟨rfl, (hb.cell (World.block_lt_of_cell? W _ s0)).trans s0, (hb.cell (World.block_lt_of_cell? W _ s1)).trans s1, (hb.cell (World.block_lt_of_cell? W _ s2)).trans s2, below_step s3 hb⟩⟩
      clear hwS hc8 hf8 HG8 HFB8 hy0 hgx q1 q2 q3 q4 q5
      refine start_ (n := 12) (S := fun w' => w'.cell? ⟨tB, 0, none⟩ = some (.slice Ag G.length cg) ∧ w'.cell? ⟨lB, 0, none⟩ = some (.slice (some ⟨g8, 0, none⟩) (M.length + 1) cap8) ∧ w'.cell? ⟨gB, 0, none⟩ = some (.func (.func 96) #[] #[.pointer (some ⟨lB, 0, none⟩), .pointer (some ⟨tB, 0, none⟩), .pointer (some ⟨gB, 0, none⟩)]) ∧ Below wS.heap.size wS w') (ds := [10]) (Qbz 12 0) (by kernel_rfl) rfl rfl ⟨t0d, l0d, g0d, bSd⟩ (fun hHeld => ?_)
      refine take_ (i := 0) (N := some 21) (v := ?_) (a' := ?_) (Qbz 12 1) rfl rfl (by kernel_rfl) (fun _ _ _ h => h) (Or.inl ⟨by rfl, ?_⟩) hHeld ?_ ?_;rotate_left;(·rintro w' ⟨s0, s1, s2, s3⟩;go_simp;with_reducible rfl);rotate_left;(·simp only [Act.put, Qp1, Qp2, Qp3, i64_w, i32_w];rfl)
      refine take_ (i := 1) (N := some 22) (v := ?_) (a' := ?_) (Qbz 12 3) rfl rfl (by kernel_rfl) (fun _ _ _ h => h) (Or.inl ⟨by rfl, ?_⟩) hHeld ?_ ?_;rotate_left;(·rintro w' ⟨s0, s1, s2, s3⟩;go_simp;with_reducible rfl);rotate_left;(·simp only [Act.put, Qp1, Qp2, Qp3, i64_w, i32_w];rfl)
      refine one_ (i := 2) (N := some 23) (Qbz 12 7) rfl rfl (by kernel_rfl) (by decide) (fun K hK => ?_)
      refine goes_ Tryd.func83 (by kernel_rfl) rfl #[.slice Ag G.length cg, .slice (some ⟨g8, 0, none⟩) (M.length + 1) cap8] (by rfl) rfl rfl (by simp only [List.map_toArray, List.map_cons, List.map_nil]; rfl) ?_
      with_reducible refine (CCR.out _ hHeld).mono ?_
      rintro e w9 ⟨rfl, k0, k1, k2, kB⟩
      refine ⟨_, rfl, ?_⟩
      refine hK.out _ _ ⟨k0, k1, k2, kB⟩ (fun hHeld => ?_)
      clear hK K
      refine norm_ (a' := ?_) ?_ ?_
      rotate_left
      ·show Act.put _ (some 23) _ = _
       simp only [Act.put, Qp1, Qp2, Qp3, i64_w, i32_w]
       rfl
      refine Qpu 3 24 ?_ ?_ (Qbz 12 15) (by kernel_rfl) ?_
      refine Qpu 4 25 ?_ ?_ (Qbz 12 31) (by kernel_rfl) ?_
      refine Qpu 6 27 ?_ ?_ (Qbz 12 95) (by kernel_rfl) ?_
      refine Qpu 7 28 ?_ ?_ (Qbz 12 223) (by kernel_rfl) ?_
      refine Qpu 8 29 ?_ ?_ (Qbz 12 479) (by kernel_rfl) ?_
      refine Qpu 9 30 ?_ ?_ (Qbz 12 991) (by kernel_rfl) ?_
      refine take_ (i := 5) (N := some 26) (v := ?_) (a' := ?_) (Qbz 12 1023) rfl rfl (by kernel_rfl) (fun _ _ _ h => h) (Or.inl ⟨by rfl, ?_⟩) hHeld ?_ ?_;rotate_left;(·rintro w' ⟨s0, s1, s2, s3⟩;go_simp;with_reducible rfl);rotate_left;(·simp only [Act.put, Qp1, Qp2, Qp3, i64_w, i32_w];rfl)
      refine last_ (i := 10) (N := some 31) (Qbz 12 2047) rfl rfl (by kernel_rfl) (by decide) (fun K hK => ?_)
      refine goesC_ Tryd.func96 (by kernel_rfl) rfl #[.int .i64 (left' : Int)] #[.pointer (some ⟨lB, 0, none⟩), .pointer (some ⟨tB, 0, none⟩), .pointer (some ⟨gB, 0, none⟩)] #[.int .i64 (left' : Int), .pointer (some ⟨lB, 0, none⟩), .pointer (some ⟨tB, 0, none⟩), .pointer (some ⟨gB, 0, none⟩)] (.tmp 26) (by rfl) rfl rfl (by rfl) (by simp only [List.map_toArray, List.map_cons, List.map_nil]; rfl) rfl ?_
      with_reducible refine (HREC.out _ _ (HX8.out.low hHeld.2.2.2)).mono ?_
      rintro e w10 ⟨rfl, v10, hO10, hF10, hK10⟩
      have HO10 := Aside0.mk hO10
      have HF10 := Aside0.mk hF10
      have HK10 := Aside0.mk hK10
      have HB9 := Aside0.mk kB
      clear hO10 hF10 hK10 kB
      refine ⟨_, rfl, ?_⟩
      refine hK.out _ _ ?_
      clear hK K
      refine norm_ (a' := ?_) ?_ ?_
      rotate_left
      ·show Act.put _ (some 31) _ = _
       simp only [Act.put, Qp1, Qp2, Qp3, i64_w, i32_w]
       rfl
      refine Qpu 11 32 ?_ ?_ (Qbz 12 4095) (by kernel_rfl) ?_
      refine done_ (by kernel_rfl) ?_
      go_wp2
      go_ret
      have k0 := (Keep2.of_below HB1.out (some lB) v.ownBlock).step HX3.out (fun j e => .inr (.inl e.symm)) (fun j e => .inr (.inr e.symm))
      have f0 := (FB.refl w.heap.size v).trans HX2.out HB1.out.size
      have k1 := k0.step HK8.out (fun j e => .inr (.inl e.symm)) (f0.row rfl)
      have k2 := k1.step (Keep2.of_below HB9.out none none) (fun j e => by cases e) (fun j e => by cases e)
      have f1 := f0.trans HF8.out k0.size
      have k3 := k2.step HK10.out (fun j e => .inr (.inl e.symm)) (f1.row rfl)
      have f2 := f1.trans HF10.out k2.size
      exact ⟨rfl, v10, HO10.out, f2, k3⟩
    ·rw [hcb] at HCR
     have HA2 : Aside0 (((els left 9).drop (i + 1)).findSome? F = R) := ⟨by
      have := HAH.out
      rw [HFX.out, hcb] at this
      simpa using this⟩
     clear hcb HFX HAH HREC IH HG HM HFE HL
     go_wp2_with (at_builtin; refine wpList_append_own_at _ rfl _ _ 22 rfl W0.heap.size 3 i3 (.int .i64 0) 1 8 Tryd.underlying22 hi3 hq0 hq1 hq2 rfl (by decide) (.slice A4 M.length c4) M.length ((gi M).map (Value.int .i64)) rfl (HX1.out.own.alloc _) ⟨wr.heap.size, 0, none⟩ 1 1 [.int .i64 (x : Int)] rfl rfl (cell_one_new _ _ _) (by simp [Value.oneCell']) (by unfold maxLen; omega) (by omega) (by have := HX1.out.grown.size; simp; omega) ?_; intro v8 w8 hown8 hg8 _ hfb8; obtain ⟨g8, cap8, rfl⟩ := own_succ hown8; have hne8 : some lB ≠ (Value.slice A4 M.length c4).ownBlock := (fun e => by have := own_base2 HX1.out.own lB e.symm; omega); have hb8 := blk_grown (blk_alloc HX1.out.blk _) hg8 hne8; have hc8 : w8.cell? ⟨lB, 0, none⟩ = some (.slice A4 M.length c4) := (blk_cell hb8 0).trans rfl; have hf8 := blk_frozen hb8 0; have HX8 := Aside0.mk (HX1.out.push hlB hg8 hown8); have HG8 := Aside0.mk hg8; have HFB8 := Aside0.mk hfb8; clear hb8 hown8 hg8 hfb8)
     obtain ⟨wS, hwS⟩ : ∃ W : World, W = w8.setCell ⟨lB, 0, none⟩ (.slice (some ⟨g8, 0, none⟩) (M.length + 1) cap8) := ⟨_, rfl⟩
     rw [← hwS] at HX8
     rw [← hwS]
     have HK8 : Aside0 (Keep2 wr wS (some lB) (Value.slice A4 M.length c4).ownBlock) := ⟨((Keep2.of_below (below_alloc (Below.refl _ wr) _) (some lB) (Value.slice A4 M.length c4).ownBlock).step (Keep2.of_grown HG8.out) (fun j e => .inr (.inr e.symm)) (fun j e => by cases e)).step (by rw [hwS]; exact Keep2.of_grown (grownBy_set _ _ _)) (fun j e => .inr (.inl e.symm)) (fun j e => by cases e)⟩
     have HF8 : Aside0 (FB wr.heap.size (.slice A4 M.length c4) (.slice (some ⟨g8, 0, none⟩) (M.length + 1) cap8)) := ⟨by
      rcases HFB8.out with h | h
      ·exact .inl h
      ·exact .inr fun b' hb' => by
        have hb' := h.symm.trans hb'
        have := Option.some.inj hb'
        simp at this
        omega⟩
     obtain ⟨q1, q2, q3, q4⟩ := HLOW.out wS HX8.out.grown
     have q5 := HX8.out.cell
     have t0d : wS.drew.cell? ⟨tB, 0, none⟩ = some (.slice Ag G.length cg) := q3
     have l0d : wS.drew.cell? ⟨lB, 0, none⟩ = some (.slice (some ⟨g8, 0, none⟩) (M.length + 1) cap8) := q5
     have g0d : wS.drew.cell? ⟨gB, 0, none⟩ = some (.func (.func 96) #[] #[.pointer (some ⟨lB, 0, none⟩), .pointer (some ⟨tB, 0, none⟩), .pointer (some ⟨gB, 0, none⟩)]) := q4
     have bSd : Below wS.heap.size wS wS.drew := below_drew (Below.refl _ _)
     have CCR : Aside0 (∀ W, (W.cell? ⟨tB, 0, none⟩ = some (.slice Ag G.length cg) ∧ W.cell? ⟨lB, 0, none⟩ = some (.slice (some ⟨g8, 0, none⟩) (M.length + 1) cap8) ∧ W.cell? ⟨gB, 0, none⟩ = some (.func (.func 96) #[] #[.pointer (some ⟨lB, 0, none⟩), .pointer (some ⟨tB, 0, none⟩), .pointer (some ⟨gB, 0, none⟩)]) ∧ Below wS.heap.size wS W) → Calls Tryd.prog 83 #[.slice Ag G.length cg, .slice (some ⟨g8, 0, none⟩) (M.length + 1) cap8] W fun e w' => e = .returned (.bool true) ∧ w'.cell? ⟨tB, 0, none⟩ = some (.slice Ag G.length cg) ∧ w'.cell? ⟨lB, 0, none⟩ = some (.slice (some ⟨g8, 0, none⟩) (M.length + 1) cap8) ∧ w'.cell? ⟨gB, 0, none⟩ = some (.func (.func 96) #[] #[.pointer (some ⟨lB, 0, none⟩), .pointer (some ⟨tB, 0, none⟩), .pointer (some ⟨gB, 0, none⟩)]) ∧ Below wS.heap.size wS w') := ⟨by
      rintro W ⟨s0, s1, s2, s3⟩
      refine (HCR.out W _ _ (HX8.out.low s3)).mono ?_
      rintro e w' ⟨rfl, hdr⟩
      have hb := hdr.below
      exact ⟨rfl, (hb.cell (World.block_lt_of_cell? W _ s0)).trans s0, (hb.cell (World.block_lt_of_cell? W _ s1)).trans s1, (hb.cell (World.block_lt_of_cell? W _ s2)).trans s2, below_step s3 hb⟩⟩
     clear hwS hc8 hf8 HG8 HFB8 hy0 hgx q1 q2 q3 q4 q5
     refine start_ (n := 12) (S := fun w' => w'.cell? ⟨tB, 0, none⟩ = some (.slice Ag G.length cg) ∧ w'.cell? ⟨lB, 0, none⟩ = some (.slice (some ⟨g8, 0, none⟩) (M.length + 1) cap8) ∧ w'.cell? ⟨gB, 0, none⟩ = some (.func (.func 96) #[] #[.pointer (some ⟨lB, 0, none⟩), .pointer (some ⟨tB, 0, none⟩), .pointer (some ⟨gB, 0, none⟩)]) ∧ Below wS.heap.size wS w') (ds := []) (Qbz 12 0) (by kernel_rfl) rfl rfl ⟨t0d, l0d, g0d, bSd⟩ (fun hHeld => ?_)
     refine take_ (i := 0) (N := some 21) (v := ?_) (a' := ?_) (Qbz 12 1) rfl rfl (by kernel_rfl) (fun _ _ _ h => h) (Or.inl ⟨by rfl, ?_⟩) hHeld ?_ ?_;rotate_left;(·rintro w' ⟨s0, s1, s2, s3⟩;go_simp;with_reducible rfl);rotate_left;(·simp only [Act.put, Qp1, Qp2, Qp3, i64_w, i32_w];rfl)
     refine take_ (i := 1) (N := some 22) (v := ?_) (a' := ?_) (Qbz 12 3) rfl rfl (by kernel_rfl) (fun _ _ _ h => h) (Or.inl ⟨by rfl, ?_⟩) hHeld ?_ ?_;rotate_left;(·rintro w' ⟨s0, s1, s2, s3⟩;go_simp;with_reducible rfl);rotate_left;(·simp only [Act.put, Qp1, Qp2, Qp3, i64_w, i32_w];rfl)
     refine one_ (i := 2) (N := some 23) (Qbz 12 7) rfl rfl (by kernel_rfl) (by decide) (fun K hK => ?_)
     refine goes_ Tryd.func83 (by kernel_rfl) rfl #[.slice Ag G.length cg, .slice (some ⟨g8, 0, none⟩) (M.length + 1) cap8] (by rfl) rfl rfl (by simp only [List.map_toArray, List.map_cons, List.map_nil]; rfl) ?_
     with_reducible refine (CCR.out _ hHeld).mono ?_
     rintro e w9 ⟨rfl, k0, k1, k2, kB⟩
     refine ⟨_, rfl, ?_⟩
     refine hK.out _ _ ⟨k0, k1, k2, kB⟩ (fun hHeld => ?_)
     clear hK K
     refine norm_ (a' := ?_) ?_ ?_
     rotate_left
     ·show Act.put _ (some 23) _ = _
      simp only [Act.put, Qp1, Qp2, Qp3, i64_w, i32_w]
      rfl
     refine Qpu 3 24 ?_ ?_ (Qbz 12 15) (by kernel_rfl) ?_
     refine Qpu 4 25 ?_ ?_ (Qbz 12 31) (by kernel_rfl) ?_
     refine Qpn 5 26 ?_ (Qbz 12 63) (by kernel_rfl) ?_
     refine Qpn 6 27 ?_ (Qbz 12 127) (by kernel_rfl) ?_
     refine Qpn 7 28 ?_ (Qbz 12 255) (by kernel_rfl) ?_
     refine Qpn 8 29 ?_ (Qbz 12 511) (by kernel_rfl) ?_
     refine Qpn 9 30 ?_ (Qbz 12 1023) (by kernel_rfl) ?_
     refine Qpn 10 31 ?_ (Qbz 12 2047) (by kernel_rfl) ?_
     refine Qpu 11 32 ?_ ?_ (Qbz 12 4095) (by kernel_rfl) ?_
     refine done_ (by kernel_rfl) ?_
     obtain ⟨s0, s1, s2, s3⟩ := hHeld
     have HB9 := Aside0.mk s3
     have hO9 := HX8.out.low s3
     obtain ⟨g10, c10, e10, hcap10⟩ := hO9.cap
     injection e10 with e11 e12 e13
     obtain rfl : g8 = g10 := by injection e11 with e11; injection e11
     subst e13
     have hl10 := s1
     have hf10 := blk_frozen hO9.blk 0
     have HO9 := Aside0.mk hO9
     have hkc1 : decide ((M.length : Int) ≤ (cap8 : Int)) = true := decide_eq_true (by omega)
     have hkc2 : ((M.length : Int) ≤ (cap8 : Int)) = True := eq_true (by omega)
     clear s0 s1 s2 s3 hO9 e11 e12
     go_wp2
     go_roundg gi'
     case measure => omega
     case rel =>
      have k1 := HX3.out.step HK8.out (fun j e => .inr (.inl e.symm)) (FB.row HX2.out rfl)
      have k2 := k1.step (Keep2.of_below HB9.out none none) (fun j e => by cases e) (fun j e => by cases e)
      have f1 := HX2.out.trans HF8.out HX3.out.size
      have k4 := k2.step (Keep2.of_grown (grownBy_set w9 ⟨lB, 0, none⟩ (Value.slice (some ⟨g8, 0, none⟩) M.length cap8))) (fun j e => .inr (.inl e.symm)) (fun j e => by cases e)
      exact ⟨i + 1, _, by go_num, by omega, HA2, ⟨⟨HO9.out.pop hlB rfl, f1, k4⟩⟩⟩
   ·have hi1 : ((i : Int) < ((els left 9).length : Int)) = False := eq_false (by omega)
    have hi2 : decide ((i : Int) < ((els left 9).length : Int)) = false := decide_eq_false (by omega)
    have ha := HA.out
    rw [List.drop_eq_nil_of_le (by omega)] at ha
    have hr : R = none := ha.symm
    subst hr
    clear ha HA
    obtain ⟨hX1, hX2, hX3⟩ := HX.out
    have HF := Aside0.mk (show OI W0 wr lB M v1 ∧ FB w.heap.size v v1 ∧ Keep2 w wr (some lB) v.ownBlock from ⟨hX1, (FB.refl w.heap.size v).trans hX2 HB1.out.size, (Keep2.of_below HB1.out (some lB) v.ownBlock).step hX3 (fun j e => .inr (.inl e.symm)) (fun j e => .inr (.inr e.symm))⟩)
    clear hX1 hX2 hX3 HX
    go_wp2
    go_ret
    exact ⟨rfl, v1, HF.out⟩
def outF (G : List Nat) (s : Nat) : Option (List Nat) := outN G (pc s 9) [] s
theorem outN_len (G : List Nat) : ∀ d M left l, outN G d M left = some l → l.length = M.length + d
 | 0, M, left, l, h => by
  rw [outN] at h
  rw [← Option.some.inj h]; rfl
 | d + 1, M, left, l, h => by
  rw [outN] at h
  obtain ⟨v, hv, hf⟩ := List.exists_of_findSome?_eq_some h
  split at hf
  ·cases hf
  ·have := outN_len G d _ _ l hf
   simp at this
   omega
set_option maxHeartbeats 8000000 in
set_option maxRecDepth 100000 in
theorem outer_calls (Ag : Option Addr) (cg : Nat) (G : List Nat) (hG : Gr 9 G) (hcg : G.length ≤ cg) (s : Nat) (hs : s < 2 ^ G.length) (hs0 : s ≠ 0) (w : World) (hGL : GL w) (hrg : Kd.C (Kd.int .i64) w Ag (gi G).length (gi G)) :
  Calls Tryd.prog 82 #[.slice Ag G.length cg, .int .i64 (s : Int)] w fun e w' => ∃ v, e = .returned v ∧ (match outF G s with | none => v = .slice none 0 0 | some l => l ≠ [] ∧ v ≠ .slice none 0 0 ∧ Kd.R (Kd.int .i64) 3 w' w.heap.size (fun _ => True) v (gi l)) ∧ Below w.heap.size w w' := by
 have hs512 := small G hG.most hs
 have hpc0 : 0 < pc s 9 := Nat.pos_of_ne_zero fun h => hs0 (pc_none ⟨s, hs512⟩ h)
 have hpc9 := pc_le s 9
 have hk0 : ((s : Int) == 0) = false := beq_eq_false_iff_ne.2 (by omega)
 obtain ⟨lB, hlB⟩ : ∃ lB, lB = w.heap.size + 1 := ⟨_, rfl⟩
 obtain ⟨W0, hW0⟩ : ∃ W0 : World, W0 = ((w.alloc (.cells #[.slice Ag G.length cg] 79)).alloc (.cells #[.slice none 0 0] 22)).alloc (.cells #[.func (.func 96) #[] #[.pointer (some ⟨w.heap.size + 1, 0, none⟩), .pointer (some ⟨w.heap.size, 0, none⟩), .pointer (some ⟨w.heap.size + 1 + 1, 0, none⟩)]] 43) := ⟨_, rfl⟩
 have hsz : W0.heap.size = w.heap.size + 3 := by rw [hW0]; simp
 have hb0 : W0.heap[w.heap.size]? = some (.cells #[.slice Ag G.length cg] 79 (0, 0)) := by
  rw [hW0]
  exact blk_alloc (blk_alloc (show (w.heap.push _)[w.heap.size]? = _ from Array.getElem?_push_size) _) _
 have hb1 : W0.heap[w.heap.size + 1]? = some (.cells #[.slice none 0 0] 22 (0, 0)) := by
  rw [hW0]
  refine blk_alloc ?_ _
  have : (w.alloc (.cells #[.slice Ag G.length cg] 79)).heap.size = w.heap.size + 1 := by simp
  rw [← this]
  exact (show (Array.push _ _)[_]? = _ from Array.getElem?_push_size)
 have hb2 : W0.heap[w.heap.size + 1 + 1]? = some (.cells #[.func (.func 96) #[] #[.pointer (some ⟨w.heap.size + 1, 0, none⟩), .pointer (some ⟨w.heap.size, 0, none⟩), .pointer (some ⟨w.heap.size + 1 + 1, 0, none⟩)]] 43 (0, 0)) := by
  rw [hW0]
  have : ((w.alloc (.cells #[.slice Ag G.length cg] 79)).alloc (.cells #[.slice none 0 0] 22)).heap.size = w.heap.size + 1 + 1 := by simp
  rw [← this]
  exact (show (Array.push _ _)[_]? = _ from Array.getElem?_push_size)
 have hBW : Below w.heap.size w W0 := by
  rw [hW0]
  exact below_alloc (below_alloc (below_alloc (Below.refl _ _) _) _) _
 have HOG : Aside0 (Calls Tryd.prog 96 #[.int .i64 (s : Int), .pointer (some ⟨w.heap.size + 1, 0, none⟩), .pointer (some ⟨w.heap.size, 0, none⟩), .pointer (some ⟨w.heap.size + 1 + 1, 0, none⟩)] W0 fun e w' => e = .returned (.bool (outF G s).isSome) ∧ ∃ v', OI W0 w' (w.heap.size + 1) ((outF G s).getD []) v') := ⟨by
  refine (outer_grow (w.heap.size + 1) w.heap.size (w.heap.size + 1 + 1) W0 (by omega) Ag cg G hG hcg (fun W hW => ?_) (pc s 9) [] s (.slice none 0 0) W0 rfl hs (fun x hx => by cases hx) (by simp; omega) ⟨hb1, ⟨rfl, .inl ⟨rfl, rfl⟩⟩, World.grownBy.refl _ _⟩).mono ?_
  ·have hB : Below w.heap.size w W := ⟨hW.os.trans hBW.os, hW.tape.trans hBW.tape, hW.output.trans hBW.output, Nat.le_trans hBW.size hW.size, fun k hk => (hW.block k (by omega) (fun e => by have := Option.some.inj e; omega)).trans (hBW.block k hk)⟩
   have c0 := blk_grown hb0 hW (fun e => by have := Option.some.inj e; omega)
   have c2 := blk_grown hb2 hW (fun e => by have := Option.some.inj e; omega)
   exact ⟨GL_below hGL hB, Kd.C_below hrg hB, (blk_cell c0 0).trans rfl, (blk_cell c2 0).trans rfl⟩
  ·rintro e w' ⟨rfl, v', h, _, _⟩
   exact ⟨rfl, v', h⟩⟩
 rw [hW0] at HOG
 have HFIN : Aside0 (∀ w' v', OI W0 w' (w.heap.size + 1) ((outF G s).getD []) v' → Below w.heap.size w w' ∧ (∀ l, outF G s = some l → l ≠ [] ∧ v' ≠ .slice none 0 0 ∧ Kd.R (Kd.int .i64) 3 w' w.heap.size (fun _ => True) v' (gi l))) := ⟨fun w' v' h => by
  refine ⟨⟨h.grown.os.trans hBW.os, h.grown.tape.trans hBW.tape, h.grown.output.trans hBW.output, Nat.le_trans hBW.size h.grown.size, fun k hk => (h.grown.block k (by omega) (fun e => by have := Option.some.inj e; omega)).trans (hBW.block k hk)⟩, fun l hl => ?_⟩
  have hlen := outN_len G _ _ _ _ hl
  rw [hl] at h
  have ho := h.own
  simp only [Option.getD_some] at ho
  refine ⟨fun e => by rw [e] at hlen; simp at hlen; omega, fun e => ?_, ?_⟩
  ·rcases ho.2 with ⟨_, h0⟩ | ⟨g, cap, cur, e2, _⟩
   ·simp at hlen; omega
   ·rw [e] at e2; cases e2
  ·rw [← gi_length l] at ho
   exact Kd.R_lower (Kd.R_of_own (ok := fun _ => True) ho (fun _ _ => trivial)) (by omega)⟩
 rw [hW0] at HFIN
 clear hb0 hb1 hb2 hBW hsz hW0 hlB lB hs hG hGL hrg
 cases hout : outF G s with
 | none =>
  rw [hout] at HOG HFIN
  go_enter Tryd.func82, Tryd.ntmps82
  go_wp2_with (go_at_call 96; refine HOG.out.mono ?_; rintro e w9 ⟨rfl, v9, hO9⟩; have hl9 := hO9.cell; have HO9 := Aside0.mk hO9; clear hO9)
  go_ret
  exact ⟨_, rfl, rfl, (HFIN.out _ _ HO9.out).1⟩
 | some l =>
  rw [hout] at HOG HFIN
  go_enter Tryd.func82, Tryd.ntmps82
  go_wp2_with (go_at_call 96; refine HOG.out.mono ?_; rintro e w9 ⟨rfl, v9, hO9⟩; have hl9 := hO9.cell; have HO9 := Aside0.mk hO9; clear hO9)
  go_ret
  exact ⟨_, rfl, (HFIN.out _ _ HO9.out).2 l rfl, (HFIN.out _ _ HO9.out).1⟩
end Go.Proofs.YtjloppfdagfpmaaDoor.X
end
section
namespace Go.Proofs.YtjloppfdagfpmaaDoor.X
open Go.RowKit YtjloppfdagfpmaaDoorW.PrintWords YtjloppfdagfpmaaDoorW.PrintLast YtjloppfdagfpmaaDoorW.PrintMore YtjloppfdagfpmaaDoor.T
theorem outer_calls2 (Ag : Option Addr) (cg : Nat) (G : List Nat) (hG : Gr 9 G) (hcg : G.length ≤ cg) (s : Nat) (hs : s < 2 ^ G.length) (hs0 : s ≠ 0) (w : World) (hGL : GL w) (hrg : Kd.C (Kd.int .i64) w Ag (gi G).length (gi G)) :
  Calls Tryd.prog 82 #[.slice Ag G.length cg, .int .i64 (s : Int)] w fun e w' => ∃ v, e = .returned v ∧ Kd.R (Kd.int .i64) 3 w' w.heap.size (fun _ => True) v ((outF G s).elim [] gi) ∧ ((outF G s = none ∧ v = .slice none 0 0) ∨ ((outF G s).isSome = true ∧ ∃ a n c, v = .slice (some a) n c)) ∧ Below w.heap.size w w' := by
 refine (outer_calls Ag cg G hG hcg s hs hs0 w hGL hrg).mono ?_
 rintro e w' ⟨v, rfl, h, hb⟩
 cases ho : outF G s with
 | none =>
  rw [ho] at h
  simp only at h
  subst h
  exact ⟨_, rfl, Kd.R_nil _ _ _ _ _, .inl ⟨rfl, rfl⟩, hb⟩
 | some l =>
  rw [ho] at h
  obtain ⟨h1, h2, h3⟩ := h
  refine ⟨v, rfl, h3, .inr ⟨rfl, ?_⟩, hb⟩
  obtain ⟨A, c, rfl, hc, hC⟩ := Kd.R_reads h3
  cases A with
  | none =>
   obtain ⟨_, inner, ho2, _⟩ := h3
   rcases ho2.2 with ⟨e1, _⟩ | ⟨g, cap, cur, e2, _⟩
   ·exact absurd e1 h2
   ·cases e2
  | some a => exact ⟨a, _, c, rfl⟩
def minor_Outer.f (g : List Int) : Option (List Int × Int) :=
 if g.length < 1000 then some (if chk 8 g = true then ((outF (g.map Int.toNat) (2 ^ g.length - 1)).elim ([], 4) fun M => (gi M, 0)) else ([], 2)) else none
set_option maxHeartbeats 4000000 in
set_option maxRecDepth 100000 in
theorem minor_Outer.calls (A0 : Option Addr) (c0 : Nat) (l0 : List Int) (r1 : List Int) (r2 : Int) (w : World) (hGL : GL w) (hr0 : Kd.C (Kd.int .i64) w A0 l0.length l0) (hc0 : l0.length ≤ c0) (h : minor_Outer.f l0 = some (r1, r2)) :
  Calls Tryd.prog 47 #[.slice A0 l0.length c0] w fun e w' => ∃ v, e = .returned (.tuple #[v, .int .i64 r2]) ∧ Kd.R (Kd.int .i64) 3 w' w.heap.size (fun _ => True) v r1 ∧ Below w.heap.size w w' := by
 unfold minor_Outer.f at h
 by_cases hlen : l0.length < 1000
 ·rw [if_pos hlen] at h
  have h := Option.some.inj h
  have HC1 : Aside0 (∀ W, Below w.heap.size w W → Calls Tryd.prog 63 #[.slice A0 l0.length c0, .int .i64 8] W fun e w' => ∃ v, e = .returned (.tuple #[v, .bool (chk 8 l0)]) ∧ (chk 8 l0 = true → ∃ A1 c1, v = .slice A1 l0.length c1 ∧ l0.length ≤ c1 ∧ Kd.C (Kd.int .i64) w' A1 l0.length l0) ∧ Below W.heap.size W w') := ⟨fun W hW => read_any 8 (by omega) (by omega) A0 c0 W (Kd.C_below hr0 hW) hc0⟩
  have HGL := Aside0.mk hGL
  cases hg : chk 8 l0
  ·rw [hg] at h HC1
   injection h with h1 h2
   subst h1 h2
   clear hg hr0
   go_enter Tryd.func47, Tryd.ntmps47
   go_wp2_with (go_at_call 63; refine (HC1.out _ (Below.refl _ _)).mono ?_; rintro e w1 ⟨v1, rfl, _, hb1⟩; have HB1 := Aside0.mk hb1; clear hb1)
   go_ret2
   exact ⟨_, rfl, Kd.R_nil _ _ _ _ _, HB1.out⟩
  ·rw [hg] at h HC1
   obtain ⟨G, rfl, hG⟩ := (chk_iff 8 (by omega) _).1 hg
   rw [gi_toNat] at h
   simp only [gi_length] at HC1 hr0 hc0 h ⊢
   have hn := hG.most
   have hn1 := hG.pos
   have h2n := Nat.two_pow_pos G.length
   obtain ⟨A, hA⟩ : ∃ A, 2 ^ G.length - 1 = A := ⟨_, rfl⟩
   have hAlt : A < 2 ^ G.length := by omega
   have hA0 : A ≠ 0 := by
    have : 2 ^ 1 ≤ 2 ^ G.length := Nat.pow_le_pow_right (by omega) hn1
    omega
   rw [hA] at h
   have HAL : Aside0 (∀ W B c, G.length ≤ c → Kd.C (Kd.int .i64) W B G.length (gi G) → Calls Tryd.prog 66 #[.slice B G.length c] W fun e w' => e = .returned (.int .i64 (A : Int)) ∧ Drawn0 W w') := ⟨fun W B c hc hB => by
    have := minor_town_all.calls B c (gi G) _ W (by rw [gi_length]; exact hB) (by rw [gi_length]; exact hc) (all_eq G (by omega))
    rw [gi_length, hA] at this
    exact this⟩
   have HOU : Aside0 (∀ W B c, Below w.heap.size w W → G.length ≤ c → Kd.C (Kd.int .i64) W B G.length (gi G) → Calls Tryd.prog 82 #[.slice B G.length c, .int .i64 (A : Int)] W fun e w' => ∃ v, e = .returned v ∧ Kd.R (Kd.int .i64) 3 w' W.heap.size (fun _ => True) v ((outF G A).elim [] gi) ∧ ((outF G A = none ∧ v = .slice none 0 0) ∨ ((outF G A).isSome = true ∧ ∃ a n c, v = .slice (some a) n c)) ∧ Below W.heap.size W w') := ⟨fun W B c hW hc hB =>
    outer_calls2 B c G (gr_mono hG (by omega)) hc A hAlt hA0 W (GL_below HGL.out hW) (by rw [gi_length]; exact hB)⟩
   clear hg hr0 hG hGL hA hAlt hA0 h2n
   have heq_ := fun (w : World) (a : Option Addr) (n c : Nat) => Lib.run_eql_slice_nil (P := Tryd.prog) w 22 3 a n c 0 0 Tryd.underlying22
   cases hf : outF G A with
   | none =>
    rw [hf] at HOU h
    injection h with h1 h2
    subst h1 h2
    clear hf
    go_enter Tryd.func47, Tryd.ntmps47
    go_wp2_with (first
     | (go_at_call 63; refine (HC1.out _ (Below.refl _ _)).mono ?_; rintro e w1 ⟨v1, rfl, hv1, hb1⟩; obtain ⟨A5, c5, rfl, hc5, hC5⟩ := hv1 trivial; have HB1 := Aside0.mk hb1; have HC5 := Aside0.mk hC5; clear hb1 hv1 hC5)
     | (go_at_call 66; refine (HAL.out _ _ _ hc5 HC5.out).mono ?_; rintro e w2 ⟨rfl, hd2⟩; have HB2 := Aside0.mk hd2.below; clear hd2)
     | (go_at_call 82; refine (HOU.out _ _ _ (below_step HB1.out HB2.out) hc5 (Kd.C_below HC5.out HB2.out)).mono ?_; rintro e w3 ⟨v3, rfl, _, hv3, hb3⟩; have hv4 : v3 = .slice none 0 0 := hv3.elim (fun h => h.2) (fun h => by cases h.1); subst hv4; have HB3 := Aside0.mk (below_step (below_step HB1.out HB2.out) hb3); clear hb3))
    go_ret2
    exact ⟨_, rfl, Kd.R_nil _ _ _ _ _, HB3.out⟩
   | some M =>
    rw [hf] at HOU h
    injection h with h1 h2
    subst h1 h2
    clear hf
    go_enter Tryd.func47, Tryd.ntmps47
    go_wp2_with (first
     | (go_at_call 63; refine (HC1.out _ (Below.refl _ _)).mono ?_; rintro e w1 ⟨v1, rfl, hv1, hb1⟩; obtain ⟨A5, c5, rfl, hc5, hC5⟩ := hv1 trivial; have HB1 := Aside0.mk hb1; have HC5 := Aside0.mk hC5; clear hb1 hv1 hC5)
     | (go_at_call 66; refine (HAL.out _ _ _ hc5 HC5.out).mono ?_; rintro e w2 ⟨rfl, hd2⟩; have HB2 := Aside0.mk hd2.below; clear hd2)
     | (go_at_call 82; refine (HOU.out _ _ _ (below_step HB1.out HB2.out) hc5 (Kd.C_below HC5.out HB2.out)).mono ?_; rintro e w3 ⟨v3, rfl, hR3, hv3, hb3⟩; obtain ⟨a3, n3, c3, rfl⟩ : ∃ a n c, v3 = .slice (some a) n c := hv3.elim (fun h => by cases h.1) (fun h => h.2); have HB3 := Aside0.mk (below_step (below_step HB1.out HB2.out) hb3); have HR3 := Aside0.mk hR3; have HB4 := Aside0.mk (below_step HB1.out HB2.out); clear hb3 hR3))
    go_ret2
    exact ⟨_, rfl, Kd.R_lower HR3.out HB4.out.size, HB3.out⟩
 ·rw [if_neg hlen] at h
  cases h
end Go.Proofs.YtjloppfdagfpmaaDoor.X
end
section
namespace Go.Proofs.YtjloppfdagfpmaaDoor.X
open Go.RowKit YtjloppfdagfpmaaDoorW.PrintWords YtjloppfdagfpmaaDoorW.PrintLast YtjloppfdagfpmaaDoorW.PrintMore
attribute [local go_sem] max2_int min2_int max_two min_two max_three min_three max_four min_four
noncomputable section
def width_Decompose.f (k : Nat) (l0 : List Int) : Option (List Int × List Int × Int) := (width_read.f k l0).bind fun bt804 => (if bt804.2 = true then ((width_town_decompose.f k bt804.1).bind fun bt808 => (some (bt808.1, bt808.2, 0))) else (some (([] : List Int), ([] : List Int), 2)))
set_option maxHeartbeats 8000000 in
set_option maxRecDepth 100000 in
theorem width_Decompose.calls (k : Nat) (A0 : Option Addr) (c0 : Nat) (l0 : List Int) (r1 : List Int) (r2 : List Int) (r3 : Int) (w : World) (hGL : GL w) (hr0 : Kd.C (Kd.int .i64) w A0 l0.length l0) (hc0 : l0.length ≤ c0) (h : width_Decompose.f k l0 = some (r1, r2, r3)) :
  Calls Tryd.prog 59 #[.slice A0 l0.length c0] w fun e w' => ∃ v0_ v1_ : Value, e = .returned (.tuple #[.agg #[v0_, v1_], .int .i64 r3]) ∧ Kd.R (Kd.int .i64) 3 w' w.heap.size (fun k_ => some k_ ≠ (v1_ : Value).ownBlock) v0_ r1 ∧ Kd.R (Kd.int .i64) 3 w' w.heap.size (fun k_ => some k_ ≠ (v0_ : Value).ownBlock) v1_ r2 ∧ Below w.heap.size w w' := by
 have HGL := Aside0.mk hGL
 clear hGL
 have hu75 := Tryd.underlying75
 have HR0 := Aside0.mk hr0
 have HC0 := Aside0.mk hc0
 clear hr0 hc0
 have HB := Aside0.mk (Below.refl w.heap.size w)
 have H : ((width_read.f k l0).bind fun bt804 => (if bt804.2 = true then ((width_town_decompose.f k bt804.1).bind fun bt808 => (some (bt808.1, bt808.2, 0))) else (some (([] : List Int), ([] : List Int), 2)))) = some (r1, r2, r3) := h
 clear h
 replace H := Option.bind_eq_some_iff.mp H
 obtain ⟨⟨t804, t807⟩, A20, H⟩ := H
 replace H : (if t807 = true then ((width_town_decompose.f k t804).bind fun bt808 => (some (bt808.1, bt808.2, 0))) else (some (([] : List Int), ([] : List Int), 2))) = some (r1, r2, r3) := H
 have A2 := Aside0.mk A20
 clear A20
 by_cases c3 : t807 = true
 ·subst c3
  have H1 : ((width_town_decompose.f k t804).bind fun bt808 => (some (bt808.1, bt808.2, 0))) = some (r1, r2, r3) := by rw [if_pos rfl] at H; exact H
  clear H
  have H := H1
  clear H1
  replace H := Option.bind_eq_some_iff.mp H
  obtain ⟨⟨t808, t811⟩, A40, H⟩ := H
  replace H : (some (t808, t811, 0)) = some (r1, r2, r3) := H
  have A4 := Aside0.mk A40
  clear A40
  simp only [Option.some.injEq, Prod.mk.injEq] at H
  obtain ⟨rfl, rfl, rfl⟩ := H
  go_enter Tryd.func59, Tryd.ntmps59
  go_wp2_with (first | ((with_reducible refine gate_dst (N := 2) rfl ?_); refine box_event ?hg (N := 2) ?hd (cs := #[.slice none 0 0, .slice none 0 0]) (t := 75) ?hr ?_; (case hd => rfl); (case hg => rfl); (case hr => first | (go_simp; done) | (go_simp; rfl)); intro gb803 hg w5 hbox hb; have n0_ := Aside0.mk (below_step (Qaw) hb); have n1_ := Aside0.mk (hbox); have n2_ := Aside0.mk ((by rw [hg]; exact (below_size (Qaw)) : w.heap.size ≤ gb803)); have n3_ := Aside0.mk ((by rw [hg]; exact (below_size (Qaw)) : w.heap.size ≤ gb803)); clear HB; have HB := n0_; have BK803 := n1_; have GW803 := n2_; have GE803 := n3_; clear n0_ n1_ n2_ n3_; clear hb hbox hg) | ((with_reducible refine gate_callee (f := 86) rfl ?_); refine goesL_ (some 8) rfl rfl Tryd.func86 (by kernel_rfl) rfl #[.slice A0 l0.length c0] rfl (Qls) ?_; (with_reducible refine (width_read.calls k (fun k_ => k_ < w.heap.size) _ _ l0 t804 true _ ?side1 A2.out).mono ?_); (case side1 => exact Kd.V_mk HC0.out (Kd.F_below (Kd.C_F (Kd.heap_int .i64) HR0.out) (Qag GE803.out))); rintro e w6 ⟨v805, rfl, ho0, hb⟩; refine ⟨_, rfl, ?_⟩; have n0_ := Aside0.mk (Kd.V_lower (Kd.V_mono (ok' := fun k_ => k_ ≠ gb803) ho0 (fun k_ hk_ => Or.elim hk_ (fun hs_ => fun e_ => Nat.not_le.2 hs_ (by rw [e_]; exact GW803.out)) (fun hn_ => (Kd.freshB (g := gb803) (o := .cells #[.slice none 0 0, .slice none 0 0] 75 (0, 0)) (Qbl BK803.out) k_ hn_)))) (below_size (Qag GE803.out))); have n1_ := Aside0.mk (blk_below (g := gb803) (o := .cells #[.slice none 0 0, .slice none 0 0] 75 (0, 0)) (Qbl BK803.out) hb); have n2_ := Aside0.mk (below_step (Qag GE803.out) hb); clear BK803; clear HB; have HO806 := n0_; have BK803 := n1_; have HB := n2_; clear n0_ n1_ n2_; (try clear hb); (try clear hb2); (try clear hk); (try clear hi); (try clear ho0); obtain ⟨Ao7, co7, eo7⟩ := Kd.V_slice HO806.out; subst eo7) | ((with_reducible refine gate_callee (f := 88) rfl ?_); refine goesL_ (some 15) rfl rfl Tryd.func88 (by kernel_rfl) rfl #[.slice Ao7 t804.length co7] rfl (Qls) ?_; (with_reducible refine (width_town_decompose.calls (hGL := (Qlg)) k _ _ t804 t808 t811 _ ?side1 ?side2 A4.out).mono ?_); (case side1 => exact Qsc (Kd.V_reads' HO806.out).2.2); (case side2 => exact (Kd.V_reads' HO806.out).2.1); rintro e w8 ⟨v809, v812, rfl, ho0, ho1, hb⟩; refine ⟨_, rfl, ?_⟩; have n0_ := Aside0.mk (Kd.V_mono (Kd.V_told (Kd.V_told (Kd.V_old (by (with_reducible repeat (first | apply Kd.V_alloc | apply Kd.V_drewN | apply Kd.V_drew)); exact HO806.out) hb) (Kd.R_base ho0)) (Kd.R_base ho1)) (fun _ h_ => h_.1)); have n1_ := Aside0.mk (Kd.R_lower ho0 (below_size (Qag GE803.out))); have n2_ := Aside0.mk (Kd.R_lower ho1 (below_size (Qag GE803.out))); have n3_ := Aside0.mk (blk_below (g := gb803) (o := .cells #[.slice none 0 0, .slice none 0 0] 75 (0, 0)) (Qbl BK803.out) hb); have n4_ := Aside0.mk (below_step (Qag GE803.out) hb); clear HO806; clear BK803; clear HB; have HO806 := n0_; have HO810 := n1_; have HO813 := n2_; have BK803 := n3_; have HB := n4_; clear n0_ n1_ n2_ n3_ n4_; (try clear hb); (try clear hb2); (try clear hk); (try clear hi); (try clear ho0); (try clear ho1); obtain ⟨Ao9, co9, eo9⟩ := Kd.R_slice HO810.out; subst eo9; have hcz10_0 : w8.cell? ⟨gb803, 0, none⟩ = some (.slice none 0 0) := (blk_cell BK803.out 0).trans rfl; have hcz10_1 : w8.cell? ⟨gb803, 1, none⟩ = some (.slice none 0 0) := (blk_cell BK803.out 1).trans rfl; have hfz10_0 := blk_frozen BK803.out 0; have hfz10_1 := blk_frozen BK803.out 1; obtain ⟨Ao11, co11, eo11⟩ := Kd.R_slice HO813.out; subst eo11))
  refine bodyPost_ret (results_ct rfl _ _ gb803 75 #[.slice Ao9 t808.length co9, .slice Ao11 t811.length co11] (0, 0) _ rfl (by (with_reducible repeat (first | refine blk_drewN ?_ _ | refine blk_drew ?_ | refine blk_alloc ?_ _)); refine blk_put (cs := #[.slice Ao9 t808.length co9, .slice none 0 0]) ?_ 1 _ rfl; (with_reducible repeat (first | refine blk_drewN ?_ _ | refine blk_drew ?_ | refine blk_alloc ?_ _)); refine blk_put (cs := #[.slice none 0 0, .slice none 0 0]) ?_ 0 _ rfl; (with_reducible repeat (first | refine blk_drewN ?_ _ | refine blk_drew ?_ | refine blk_alloc ?_ _)); exact BK803.out) Tryd.underlying75 rfl (by kernel_rfl)) rfl ?_
  exact ⟨_, _, by first | rfl | (simp [errW_none, errW_some] <;> rfl) | (simp [*, errW_none, errW_some] <;> rfl), by (with_reducible repeat (first | apply Kd.R_alloc | apply Kd.R_drewN | apply Kd.R_drew)); exact Kd.R_mono (Kd.R_far (p := ⟨gb803, 1, none⟩) (Kd.R_far (p := ⟨gb803, 0, none⟩) (Kd.R_types HO810.out BK803.out (by decide)) (fun _ hk => hk.2) (.slice Ao9 t808.length co9)) (fun _ hk => hk.2) (.slice Ao11 t811.length co11)) (fun _ hk => hk.1), by (with_reducible repeat (first | apply Kd.R_alloc | apply Kd.R_drewN | apply Kd.R_drew)); exact Kd.R_mono (Kd.R_far (p := ⟨gb803, 1, none⟩) (Kd.R_far (p := ⟨gb803, 0, none⟩) (Kd.R_types HO813.out BK803.out (by decide)) (fun _ hk => hk.2) (.slice Ao9 t808.length co9)) (fun _ hk => hk.2) (.slice Ao11 t811.length co11)) (fun _ hk => hk.1), by repeat (first | (with_reducible first | exact HB.out | apply below_alloc | apply pw_below_drewN | apply below_drew1 | refine below_set ?_ GE803.out) | exact HB.out)⟩
 ·replace c3 := Bool.eq_false_iff.mpr c3
  subst c3
  have H1 : (some (([] : List Int), ([] : List Int), 2)) = some (r1, r2, r3) := by rw [if_neg (show ¬ (false = true) by decide)] at H; exact H
  clear H
  have H := H1
  clear H1
  simp only [Option.some.injEq, Prod.mk.injEq] at H
  obtain ⟨rfl, rfl, rfl⟩ := H
  go_enter Tryd.func59, Tryd.ntmps59
  go_wp2_with (first | ((with_reducible refine gate_dst (N := 2) rfl ?_); refine box_event ?hg (N := 2) ?hd (cs := #[.slice none 0 0, .slice none 0 0]) (t := 75) ?hr ?_; (case hd => rfl); (case hg => rfl); (case hr => first | (go_simp; done) | (go_simp; rfl)); intro gb803 hg w12 hbox hb; have n0_ := Aside0.mk (below_step (Qaw) hb); have n1_ := Aside0.mk (hbox); have n2_ := Aside0.mk ((by rw [hg]; exact (below_size (Qaw)) : w.heap.size ≤ gb803)); have n3_ := Aside0.mk ((by rw [hg]; exact (below_size (Qaw)) : w.heap.size ≤ gb803)); clear HB; have HB := n0_; have BK803 := n1_; have GW803 := n2_; have GE803 := n3_; clear n0_ n1_ n2_ n3_; clear hb hbox hg) | ((with_reducible refine gate_callee (f := 86) rfl ?_); refine goesL_ (some 8) rfl rfl Tryd.func86 (by kernel_rfl) rfl #[.slice A0 l0.length c0] rfl (Qls) ?_; (with_reducible refine (width_read.calls k (fun k_ => k_ < w.heap.size) _ _ l0 t804 false _ ?side1 A2.out).mono ?_); (case side1 => exact Kd.V_mk HC0.out (Kd.F_below (Kd.C_F (Kd.heap_int .i64) HR0.out) (Qag GE803.out))); rintro e w13 ⟨v805, rfl, ho0, hb⟩; refine ⟨_, rfl, ?_⟩; have n0_ := Aside0.mk (Kd.V_lower (Kd.V_mono (ok' := fun k_ => k_ ≠ gb803) ho0 (fun k_ hk_ => Or.elim hk_ (fun hs_ => fun e_ => Nat.not_le.2 hs_ (by rw [e_]; exact GW803.out)) (fun hn_ => (Kd.freshB (g := gb803) (o := .cells #[.slice none 0 0, .slice none 0 0] 75 (0, 0)) (Qbl BK803.out) k_ hn_)))) (below_size (Qag GE803.out))); have n1_ := Aside0.mk (blk_below (g := gb803) (o := .cells #[.slice none 0 0, .slice none 0 0] 75 (0, 0)) (Qbl BK803.out) hb); have n2_ := Aside0.mk (below_step (Qag GE803.out) hb); clear BK803; clear HB; have HO806 := n0_; have BK803 := n1_; have HB := n2_; clear n0_ n1_ n2_; (try clear hb); (try clear hb2); (try clear hk); (try clear hi); (try clear ho0); have hcz14_0 : w13.cell? ⟨gb803, 0, none⟩ = some (.slice none 0 0) := (blk_cell BK803.out 0).trans rfl; have hcz14_1 : w13.cell? ⟨gb803, 1, none⟩ = some (.slice none 0 0) := (blk_cell BK803.out 1).trans rfl; have hfz14_0 := blk_frozen BK803.out 0; have hfz14_1 := blk_frozen BK803.out 1))
  refine bodyPost_ret (results_ct rfl _ _ gb803 75 #[.slice none 0 0, .slice none 0 0] (0, 0) _ rfl (by (with_reducible repeat (first | refine blk_drewN ?_ _ | refine blk_drew ?_ | refine blk_alloc ?_ _)); refine blk_put (cs := #[.slice none 0 0, .slice none 0 0]) ?_ 1 _ rfl; (with_reducible repeat (first | refine blk_drewN ?_ _ | refine blk_drew ?_ | refine blk_alloc ?_ _)); refine blk_put (cs := #[.slice none 0 0, .slice none 0 0]) ?_ 0 _ rfl; (with_reducible repeat (first | refine blk_drewN ?_ _ | refine blk_drew ?_ | refine blk_alloc ?_ _)); exact BK803.out) Tryd.underlying75 rfl (by kernel_rfl)) rfl ?_
  exact ⟨_, _, by first | rfl | (simp [errW_none, errW_some] <;> rfl) | (simp [*, errW_none, errW_some] <;> rfl), by first | exact Kd.R_nil _ _ _ _ _ | exact Kd.N_nil _ _ _ _ _ | exact Kd.V_nil _ _ _ _ _ | exact Kd.Q_nil _ _ _ _ _ | exact Kd.S_nil _ _ _ _ _, by first | exact Kd.R_nil _ _ _ _ _ | exact Kd.N_nil _ _ _ _ _ | exact Kd.V_nil _ _ _ _ _ | exact Kd.Q_nil _ _ _ _ _ | exact Kd.S_nil _ _ _ _ _, by repeat (first | (with_reducible first | exact HB.out | apply below_alloc | apply pw_below_drewN | apply below_drew1 | refine below_set ?_ GE803.out) | exact HB.out)⟩
end
noncomputable section
def lampblacklaw07_MinorColours.f (k : Nat) (l0 : List Int) : Option (Bool) := (lampblacklaw07_Few.f l0).bind fun t820 => ((minor_Outer.f t820).bind fun bt823 => (if bt823.2 = 0 then ((lampblacklaw07_Few.f l0).bind fun t829 => ((width_Decompose.f k t829).bind fun bt832 => ((lampblacklaw07_Few.f l0).bind fun t840 => ((width_Count.f t840 bt832.1 bt832.2.1 3).bind fun bt843 => (if bt832.2.2 = 0 then (if bt843.2 = 0 then (if bt843.1 > 0 then ((lampblacklaw07_awake.f k).bind fun t845 => (some t845)) else (some false)) else (some false)) else (some false)))))) else (if bt823.2 = 2 then ((lampblacklaw07_awake.f k).bind fun t827 => (some t827)) else (if bt823.2 = 4 then ((lampblacklaw07_awake.f k).bind fun t828 => (some t828)) else (some false)))))
def lampblacklaw07_MinorColours.T5 : Bool × List (List Nat × List Nat) := (true, [([], []), ([0], [0]), ([], []), ([1, 2, 1], [1, 2]), ([3], [3]), ([4], [4]), ([4], [4]), ([5, 3, 0, 1, 2, 3, 4, 5], [5]), ([6, 7, 0, 1, 2, 3, 4, 5, 6, 7], [6])])
def lampblacklaw07_MinorColours.B5 : List Nat := [0, 1, 0, 7, 15, 31, 31, 63, 255]
theorem lampblacklaw07_MinorColours.tab5 : rtab .any (opsOf Tryd.f15 5) = lampblacklaw07_MinorColours.T5 := by kernel_rfl
theorem lampblacklaw07_MinorColours.bits5 : waitsOk lampblacklaw07_MinorColours.T5.2 lampblacklaw07_MinorColours.B5 = true := by kernel_rfl
set_option maxHeartbeats 8000000 in
set_option maxRecDepth 100000 in
theorem lampblacklaw07_MinorColours.calls (k : Nat) (A0 : Option Addr) (c0 : Nat) (l0 : List Int) (r : Bool) (w : World) (hGL : GL w) (hr0 : Kd.C (Kd.int .i64) w A0 l0.length l0) (hc0 : l0.length ≤ c0) (h : lampblacklaw07_MinorColours.f k l0 = some r) (hrt : r = true) :
  Calls Tryd.prog 15 #[.slice A0 l0.length c0] w fun e w' => e = .returned (.bool r) ∧ Below w.heap.size w w' := by
 have HRT := Aside0.mk hrt
 clear hrt
 have HGL := Aside0.mk hGL
 clear hGL
 have hu75 := Tryd.underlying75
 have HR0 := Aside0.mk hr0
 have HC0 := Aside0.mk hc0
 clear hr0 hc0
 have HB := Aside0.mk (Below.refl w.heap.size w)
 have H : ((lampblacklaw07_Few.f l0).bind fun t820 => ((minor_Outer.f t820).bind fun bt823 => (if bt823.2 = 0 then ((lampblacklaw07_Few.f l0).bind fun t829 => ((width_Decompose.f k t829).bind fun bt832 => ((lampblacklaw07_Few.f l0).bind fun t840 => ((width_Count.f t840 bt832.1 bt832.2.1 3).bind fun bt843 => (if bt832.2.2 = 0 then (if bt843.2 = 0 then (if bt843.1 > 0 then ((lampblacklaw07_awake.f k).bind fun t845 => (some t845)) else (some false)) else (some false)) else (some false)))))) else (if bt823.2 = 2 then ((lampblacklaw07_awake.f k).bind fun t827 => (some t827)) else (if bt823.2 = 4 then ((lampblacklaw07_awake.f k).bind fun t828 => (some t828)) else (some false)))))) = some r := h
 clear h
 replace H := Option.bind_eq_some_iff.mp H
 obtain ⟨t820, A20, H⟩ := H
 replace H : ((minor_Outer.f t820).bind fun bt823 => (if bt823.2 = 0 then ((lampblacklaw07_Few.f l0).bind fun t829 => ((width_Decompose.f k t829).bind fun bt832 => ((lampblacklaw07_Few.f l0).bind fun t840 => ((width_Count.f t840 bt832.1 bt832.2.1 3).bind fun bt843 => (if bt832.2.2 = 0 then (if bt843.2 = 0 then (if bt843.1 > 0 then ((lampblacklaw07_awake.f k).bind fun t845 => (some t845)) else (some false)) else (some false)) else (some false)))))) else (if bt823.2 = 2 then ((lampblacklaw07_awake.f k).bind fun t827 => (some t827)) else (if bt823.2 = 4 then ((lampblacklaw07_awake.f k).bind fun t828 => (some t828)) else (some false))))) = some r := H
 have A2 := Aside0.mk A20
 clear A20
 replace H := Option.bind_eq_some_iff.mp H
 obtain ⟨⟨t823, t824⟩, A30, H⟩ := H
 replace H : (if t824 = 0 then ((lampblacklaw07_Few.f l0).bind fun t829 => ((width_Decompose.f k t829).bind fun bt832 => ((lampblacklaw07_Few.f l0).bind fun t840 => ((width_Count.f t840 bt832.1 bt832.2.1 3).bind fun bt843 => (if bt832.2.2 = 0 then (if bt843.2 = 0 then (if bt843.1 > 0 then ((lampblacklaw07_awake.f k).bind fun t845 => (some t845)) else (some false)) else (some false)) else (some false)))))) else (if t824 = 2 then ((lampblacklaw07_awake.f k).bind fun t827 => (some t827)) else (if t824 = 4 then ((lampblacklaw07_awake.f k).bind fun t828 => (some t828)) else (some false)))) = some r := H
 have A3 := Aside0.mk A30
 clear A30
 by_cases c4 : t824 = 0
 ·rw [if_pos c4] at H
  have c4b0 : (t824 == 0) = true := beq_iff_eq.mpr c4
  have c4b1 : (t824 != 0) = false := bne_eq_false_iff_eq.mpr c4
  clear c4
  replace H := Option.bind_eq_some_iff.mp H
  obtain ⟨t829, A50, H⟩ := H
  replace H : ((width_Decompose.f k t829).bind fun bt832 => ((lampblacklaw07_Few.f l0).bind fun t840 => ((width_Count.f t840 bt832.1 bt832.2.1 3).bind fun bt843 => (if bt832.2.2 = 0 then (if bt843.2 = 0 then (if bt843.1 > 0 then ((lampblacklaw07_awake.f k).bind fun t845 => (some t845)) else (some false)) else (some false)) else (some false))))) = some r := H
  have A5 := Aside0.mk A50
  clear A50
  replace H := Option.bind_eq_some_iff.mp H
  obtain ⟨⟨t832, t835, t838⟩, A60, H⟩ := H
  replace H : ((lampblacklaw07_Few.f l0).bind fun t840 => ((width_Count.f t840 t832 t835 3).bind fun bt843 => (if t838 = 0 then (if bt843.2 = 0 then (if bt843.1 > 0 then ((lampblacklaw07_awake.f k).bind fun t845 => (some t845)) else (some false)) else (some false)) else (some false)))) = some r := H
  have A6 := Aside0.mk A60
  clear A60
  replace H := Option.bind_eq_some_iff.mp H
  obtain ⟨t840, A70, H⟩ := H
  replace H : ((width_Count.f t840 t832 t835 3).bind fun bt843 => (if t838 = 0 then (if bt843.2 = 0 then (if bt843.1 > 0 then ((lampblacklaw07_awake.f k).bind fun t845 => (some t845)) else (some false)) else (some false)) else (some false))) = some r := H
  have A7 := Aside0.mk A70
  clear A70
  replace H := Option.bind_eq_some_iff.mp H
  obtain ⟨⟨t843, t844⟩, A80, H⟩ := H
  replace H : (if t838 = 0 then (if t844 = 0 then (if t843 > 0 then ((lampblacklaw07_awake.f k).bind fun t845 => (some t845)) else (some false)) else (some false)) else (some false)) = some r := H
  have A8 := Aside0.mk A80
  clear A80
  by_cases c9 : t838 = 0
  ·rw [if_pos c9] at H
   have c9b0 : (t838 == 0) = true := beq_iff_eq.mpr c9
   have c9b1 : (t838 != 0) = false := bne_eq_false_iff_eq.mpr c9
   clear c9
   by_cases c10 : t844 = 0
   ·rw [if_pos c10] at H
    have c10b0 : (t844 == 0) = true := beq_iff_eq.mpr c10
    have c10b1 : (t844 != 0) = false := bne_eq_false_iff_eq.mpr c10
    clear c10
    by_cases c11 : t843 > 0
    ·rw [if_pos c11] at H
     have c11b0 : decide (0 < t843) = true := decide_eq_true c11
     clear c11
     replace H := Option.bind_eq_some_iff.mp H
     obtain ⟨t845, A120, H⟩ := H
     replace H : (some t845) = some r := H
     have A12 := Aside0.mk A120
     clear A120
     clear HRT
     obtain rfl := Option.some.inj H
     go_enter Tryd.func15, Tryd.ntmps15
     try go_wp2_with (first | ((with_reducible refine gate_callee (f := 22) rfl ?_); refine goesL_ (some 10) rfl rfl Tryd.func22 (by kernel_rfl) rfl #[.slice A0 l0.length c0] rfl (Qls) ?_; (with_reducible refine (lampblacklaw07_Few.calls _ _ l0 t820 _ ?side1 ?side2 A2.out).mono ?_); (case side1 => exact Qsc HR0.out); (case side2 => exact HC0.out); rintro e w13 ⟨v821, rfl, ho0, hb⟩; refine ⟨_, rfl, ?_⟩; have n0_ := Aside0.mk (Kd.R_lower ho0 (below_size (Qaw))); have n1_ := Aside0.mk (below_step (Qaw) hb); clear HB; have HO822 := n0_; have HB := n1_; clear n0_ n1_; (try clear hb); (try clear hb2); (try clear hk); (try clear hi); (try clear ho0); obtain ⟨Ao14, co14, eo14⟩ := Kd.R_slice HO822.out; subst eo14) | ((with_reducible refine gate_callee (f := 47) rfl ?_); refine goesL_ (some 11) rfl rfl Tryd.func47 (by kernel_rfl) rfl #[.slice Ao14 t820.length co14] rfl (Qls) ?_; (with_reducible refine (minor_Outer.calls (hGL := (Qlg)) _ _ t820 t823 t824 _ ?side1 ?side2 A3.out).mono ?_); (case side1 => exact Qsc (Kd.R_reads' HO822.out).2.2); (case side2 => exact (Kd.R_reads' HO822.out).2.1); rintro e w15 ⟨v825, rfl, ho0, hb⟩; refine ⟨_, rfl, ?_⟩; have n0_ := Aside0.mk (Kd.R_elder' (Qro HO822.out) (Kd.R_base ho0) hb); have n1_ := Aside0.mk (Kd.R_lower (Kd.R_new' ho0 (Kd.R_lt (Qro HO822.out))) (below_size (Qaw))); have n2_ := Aside0.mk (below_step (Qaw) hb); clear HO822; clear HB; have HO822 := n0_; have HO826 := n1_; have HB := n2_; clear n0_ n1_ n2_; (try clear hb); (try clear hb2); (try clear hk); (try clear hi); (try clear ho0)) | ((with_reducible refine gate_callee (f := 22) rfl ?_); refine goesL_ (some 27) rfl rfl Tryd.func22 (by kernel_rfl) rfl #[.slice A0 l0.length c0] rfl (Qls) ?_; (with_reducible refine (lampblacklaw07_Few.calls _ _ l0 t829 _ ?side1 ?side2 A5.out).mono ?_); (case side1 => exact Qsc (Kd.C_below HR0.out HB.out)); (case side2 => exact HC0.out); rintro e w16 ⟨v830, rfl, ho0, hb⟩; refine ⟨_, rfl, ?_⟩; have n0_ := Aside0.mk (Kd.R_elder' (Qro HO822.out) (Kd.R_base ho0) hb); have n1_ := Aside0.mk (Kd.R_elder' (Qro HO826.out) (Kd.R_base ho0) hb); have n2_ := Aside0.mk (Kd.R_lower (Kd.R_new' (Kd.R_new' ho0 (Kd.R_lt (Qro HO822.out))) (Kd.R_lt (Qro HO826.out))) (below_size (Qaw))); have n3_ := Aside0.mk (below_step (Qaw) hb); clear HO822; clear HO826; clear HB; have HO822 := n0_; have HO826 := n1_; have HO831 := n2_; have HB := n3_; clear n0_ n1_ n2_ n3_; (try clear hb); (try clear hb2); (try clear hk); (try clear hi); (try clear ho0); obtain ⟨Ao17, co17, eo17⟩ := Kd.R_slice HO831.out; subst eo17) | ((with_reducible refine gate_callee (f := 59) rfl ?_); refine goesL_ (some 28) rfl rfl Tryd.func59 (by kernel_rfl) rfl #[.slice Ao17 t829.length co17] rfl (Qls) ?_; (with_reducible refine (width_Decompose.calls (hGL := (Qlg)) k _ _ t829 t832 t835 t838 _ ?side1 ?side2 A6.out).mono ?_); (case side1 => exact Qsc (Kd.R_reads' HO831.out).2.2); (case side2 => exact (Kd.R_reads' HO831.out).2.1); rintro e w18 ⟨v833, v836, rfl, ho0, ho1, hb⟩; refine ⟨_, rfl, ?_⟩; have n0_ := Aside0.mk (Kd.R_mono (Kd.R_told (Kd.R_told (Kd.R_old (Qro HO822.out) hb) (Kd.R_base ho0)) (Kd.R_base ho1)) (fun _ h_ => h_.1)); have n1_ := Aside0.mk (Kd.R_mono (Kd.R_told (Kd.R_told (Kd.R_old (Qro HO826.out) hb) (Kd.R_base ho0)) (Kd.R_base ho1)) (fun _ h_ => h_.1)); have n2_ := Aside0.mk (Kd.R_mono (Kd.R_told (Kd.R_told (Kd.R_old (Qro HO831.out) hb) (Kd.R_base ho0)) (Kd.R_base ho1)) (fun _ h_ => h_.1)); have n3_ := Aside0.mk (Kd.R_lower (Kd.R_new' (Kd.R_new' (Kd.R_new' ho0 (Kd.R_lt (Qro HO822.out))) (Kd.R_lt (Qro HO826.out))) (Kd.R_lt (Qro HO831.out))) (below_size (Qaw))); have n4_ := Aside0.mk (Kd.R_lower (Kd.R_new' (Kd.R_new' (Kd.R_new' ho1 (Kd.R_lt (Qro HO822.out))) (Kd.R_lt (Qro HO826.out))) (Kd.R_lt (Qro HO831.out))) (below_size (Qaw))); have n5_ := Aside0.mk (below_step (Qaw) hb); clear HO822; clear HO826; clear HO831; clear HB; have HO822 := n0_; have HO826 := n1_; have HO831 := n2_; have HO834 := n3_; have HO837 := n4_; have HB := n5_; clear n0_ n1_ n2_ n3_ n4_ n5_; (try clear hb); (try clear hb2); (try clear hk); (try clear hi); (try clear ho0); (try clear ho1)) | ((with_reducible refine gate_dst (N := 5) rfl ?_); refine box_event ?hg (N := 5) ?hd (cs := #[.slice none 0 0, .slice none 0 0]) (t := 75) ?hr ?_; (case hd => rfl); (case hg => rfl); (case hr => first | (go_simp; done) | (go_simp; rfl)); intro gb839 hg w19 hbox hb; have n0_ := Aside0.mk (Kd.R_below (Qro HO822.out) hb); have n1_ := Aside0.mk (Kd.R_below (Qro HO826.out) hb); have n2_ := Aside0.mk (Kd.R_below (Qro HO831.out) hb); have n3_ := Aside0.mk (Kd.R_below (Qro HO834.out) hb); have n4_ := Aside0.mk (Kd.R_below (Qro HO837.out) hb); have n5_ := Aside0.mk (below_step (Qaw) hb); have n6_ := Aside0.mk (hbox); have n7_ := Aside0.mk ((by rw [hg]; exact (below_size (Qaw)) : w.heap.size ≤ gb839)); have n8_ := Aside0.mk ((by rw [hg]; exact (below_size (Qaw)) : w.heap.size ≤ gb839)); clear HO822; clear HO826; clear HO831; clear HO834; clear HO837; clear HB; have HO822 := n0_; have HO826 := n1_; have HO831 := n2_; have HO834 := n3_; have HO837 := n4_; have HB := n5_; have BK839 := n6_; have GW839 := n7_; have GE839 := n8_; clear n0_ n1_ n2_ n3_ n4_ n5_ n6_ n7_ n8_; clear hb hbox hg; obtain ⟨Ao20, co20, eo20⟩ := Kd.R_slice HO834.out; subst eo20; have hcz21_0 : w19.cell? ⟨gb839, 0, none⟩ = some (.slice none 0 0) := (blk_cell BK839.out 0).trans rfl; have hcz21_1 : w19.cell? ⟨gb839, 1, none⟩ = some (.slice none 0 0) := (blk_cell BK839.out 1).trans rfl; have hfz21_0 := blk_frozen BK839.out 0; have hfz21_1 := blk_frozen BK839.out 1; obtain ⟨Ao22, co22, eo22⟩ := Kd.R_slice HO837.out; subst eo22))
     have n0_ : Aside0 (Kd.R (Kd.int .i64) 3 ((w19.setCell ⟨gb839, 0, none⟩ (.slice Ao20 t832.length co20)).setCell ⟨gb839, 1, none⟩ (.slice Ao22 t835.length co22)) w.heap.size (fun k_ => some k_ ≠ (v825 : Value).ownBlock ∧ some k_ ≠ (.slice Ao17 t829.length co17 : Value).ownBlock ∧ some k_ ≠ (.slice Ao20 t832.length co20 : Value).ownBlock ∧ some k_ ≠ (.slice Ao22 t835.length co22 : Value).ownBlock) (.slice Ao14 t820.length co14) t820) := ⟨by (with_reducible repeat (first | apply Kd.R_alloc | apply Kd.R_drewN | apply Kd.R_drew)); exact Kd.R_mono (Kd.R_far (p := ⟨gb839, 1, none⟩) (Kd.R_far (p := ⟨gb839, 0, none⟩) (Kd.R_types HO822.out BK839.out (by decide)) (fun _ hk => hk.2) (.slice Ao20 t832.length co20)) (fun _ hk => hk.2) (.slice Ao22 t835.length co22)) (fun _ hk => ⟨hk.1.1.1.1.2, ⟨hk.1.1.1.2, ⟨hk.1.1.2, hk.1.2⟩⟩⟩)⟩
     have n1_ : Aside0 (Kd.R (Kd.int .i64) 3 ((w19.setCell ⟨gb839, 0, none⟩ (.slice Ao20 t832.length co20)).setCell ⟨gb839, 1, none⟩ (.slice Ao22 t835.length co22)) w.heap.size (fun k_ => some k_ ≠ (.slice Ao14 t820.length co14 : Value).ownBlock ∧ some k_ ≠ (.slice Ao17 t829.length co17 : Value).ownBlock ∧ some k_ ≠ (.slice Ao20 t832.length co20 : Value).ownBlock ∧ some k_ ≠ (.slice Ao22 t835.length co22 : Value).ownBlock) v825 t823) := ⟨by (with_reducible repeat (first | apply Kd.R_alloc | apply Kd.R_drewN | apply Kd.R_drew)); exact Kd.R_mono (Kd.R_far (p := ⟨gb839, 1, none⟩) (Kd.R_far (p := ⟨gb839, 0, none⟩) (Kd.R_types HO826.out BK839.out (by decide)) (fun _ hk => hk.2) (.slice Ao20 t832.length co20)) (fun _ hk => hk.2) (.slice Ao22 t835.length co22)) (fun _ hk => ⟨hk.1.1.1.1.2, ⟨hk.1.1.1.2, ⟨hk.1.1.2, hk.1.2⟩⟩⟩)⟩
     have n2_ : Aside0 (Kd.R (Kd.int .i64) 3 ((w19.setCell ⟨gb839, 0, none⟩ (.slice Ao20 t832.length co20)).setCell ⟨gb839, 1, none⟩ (.slice Ao22 t835.length co22)) w.heap.size (fun k_ => some k_ ≠ (.slice Ao14 t820.length co14 : Value).ownBlock ∧ some k_ ≠ (v825 : Value).ownBlock ∧ some k_ ≠ (.slice Ao20 t832.length co20 : Value).ownBlock ∧ some k_ ≠ (.slice Ao22 t835.length co22 : Value).ownBlock) (.slice Ao17 t829.length co17) t829) := ⟨by (with_reducible repeat (first | apply Kd.R_alloc | apply Kd.R_drewN | apply Kd.R_drew)); exact Kd.R_mono (Kd.R_far (p := ⟨gb839, 1, none⟩) (Kd.R_far (p := ⟨gb839, 0, none⟩) (Kd.R_types HO831.out BK839.out (by decide)) (fun _ hk => hk.2) (.slice Ao20 t832.length co20)) (fun _ hk => hk.2) (.slice Ao22 t835.length co22)) (fun _ hk => ⟨hk.1.1.1.1.2, ⟨hk.1.1.1.2, ⟨hk.1.1.2, hk.1.2⟩⟩⟩)⟩
     have n3_ : Aside0 (Kd.R (Kd.int .i64) 3 ((w19.setCell ⟨gb839, 0, none⟩ (.slice Ao20 t832.length co20)).setCell ⟨gb839, 1, none⟩ (.slice Ao22 t835.length co22)) w.heap.size (fun k_ => some k_ ≠ (.slice Ao14 t820.length co14 : Value).ownBlock ∧ some k_ ≠ (v825 : Value).ownBlock ∧ some k_ ≠ (.slice Ao17 t829.length co17 : Value).ownBlock ∧ some k_ ≠ (.slice Ao22 t835.length co22 : Value).ownBlock) (.slice Ao20 t832.length co20) t832) := ⟨by (with_reducible repeat (first | apply Kd.R_alloc | apply Kd.R_drewN | apply Kd.R_drew)); exact Kd.R_mono (Kd.R_far (p := ⟨gb839, 1, none⟩) (Kd.R_far (p := ⟨gb839, 0, none⟩) (Kd.R_types HO834.out BK839.out (by decide)) (fun _ hk => hk.2) (.slice Ao20 t832.length co20)) (fun _ hk => hk.2) (.slice Ao22 t835.length co22)) (fun _ hk => ⟨hk.1.1.1.2, ⟨hk.1.1.2, ⟨hk.1.2, hk.1.1.1.1⟩⟩⟩)⟩
     have n4_ : Aside0 (Kd.R (Kd.int .i64) 3 ((w19.setCell ⟨gb839, 0, none⟩ (.slice Ao20 t832.length co20)).setCell ⟨gb839, 1, none⟩ (.slice Ao22 t835.length co22)) w.heap.size (fun k_ => some k_ ≠ (.slice Ao14 t820.length co14 : Value).ownBlock ∧ some k_ ≠ (v825 : Value).ownBlock ∧ some k_ ≠ (.slice Ao17 t829.length co17 : Value).ownBlock ∧ some k_ ≠ (.slice Ao20 t832.length co20 : Value).ownBlock) (.slice Ao22 t835.length co22) t835) := ⟨by (with_reducible repeat (first | apply Kd.R_alloc | apply Kd.R_drewN | apply Kd.R_drew)); exact Kd.R_mono (Kd.R_far (p := ⟨gb839, 1, none⟩) (Kd.R_far (p := ⟨gb839, 0, none⟩) (Kd.R_types HO837.out BK839.out (by decide)) (fun _ hk => hk.2) (.slice Ao20 t832.length co20)) (fun _ hk => hk.2) (.slice Ao22 t835.length co22)) (fun _ hk => ⟨hk.1.1.1.2, ⟨hk.1.1.2, ⟨hk.1.2, hk.1.1.1.1⟩⟩⟩)⟩
     have n5_ : Aside0 (((w19.setCell ⟨gb839, 0, none⟩ (.slice Ao20 t832.length co20)).setCell ⟨gb839, 1, none⟩ (.slice Ao22 t835.length co22)).heap[gb839]? = some (.cells #[.slice Ao20 t832.length co20, .slice Ao22 t835.length co22] 75 (0, 0))) := ⟨by (with_reducible repeat (first | refine blk_drewN ?_ _ | refine blk_drew ?_ | refine blk_alloc ?_ _)); refine blk_put (cs := #[.slice Ao20 t832.length co20, .slice none 0 0]) ?_ 1 _ rfl; (with_reducible repeat (first | refine blk_drewN ?_ _ | refine blk_drew ?_ | refine blk_alloc ?_ _)); refine blk_put (cs := #[.slice none 0 0, .slice none 0 0]) ?_ 0 _ rfl; (with_reducible repeat (first | refine blk_drewN ?_ _ | refine blk_drew ?_ | refine blk_alloc ?_ _)); exact BK839.out⟩
     have n6_ : Aside0 (Below w.heap.size w ((w19.setCell ⟨gb839, 0, none⟩ (.slice Ao20 t832.length co20)).setCell ⟨gb839, 1, none⟩ (.slice Ao22 t835.length co22))) := ⟨by repeat (first | (with_reducible first | exact HB.out | apply below_alloc | apply pw_below_drewN | apply below_drew1 | refine below_set ?_ GE839.out) | exact HB.out)⟩
     (try clear HO822)
     (try clear HO826)
     (try clear HO831)
     (try clear HO834)
     (try clear HO837)
     (try clear BK839)
     (try clear HB)
     generalize ((w19.setCell ⟨gb839, 0, none⟩ (.slice Ao20 t832.length co20)).setCell ⟨gb839, 1, none⟩ (.slice Ao22 t835.length co22)) = w23 at n0_ n1_ n2_ n3_ n4_ n5_ n6_ ⊢
     have HO822 := n0_
     have HO826 := n1_
     have HO831 := n2_
     have HO834 := n3_
     have HO837 := n4_
     have BK839 := n5_
     have HB := n6_
     clear n0_ n1_ n2_ n3_ n4_ n5_ n6_
     have n0_ := Aside0.mk (Kd.R_drew HO822.out)
     have n1_ := Aside0.mk (Kd.R_drew HO826.out)
     have n2_ := Aside0.mk (Kd.R_drew HO831.out)
     have n3_ := Aside0.mk (Kd.R_drew HO834.out)
     have n4_ := Aside0.mk (Kd.R_drew HO837.out)
     have n5_ := Aside0.mk (blk_drew BK839.out)
     have n6_ := Aside0.mk (below_drew1 HB.out)
     clear HO822
     clear HO826
     clear HO831
     clear HO834
     clear HO837
     clear BK839
     clear HB
     have HO822 := n0_
     have HO826 := n1_
     have HO831 := n2_
     have HO834 := n3_
     have HO837 := n4_
     have BK839 := n5_
     have HB := n6_
     clear n0_ n1_ n2_ n3_ n4_ n5_ n6_
     refine start_ (n := 9) (S := fun w' => w'.cell? ⟨gb839, 0, none⟩ = some (.slice Ao20 t832.length co20) ∧ w'.cell? ⟨gb839, 1, none⟩ = some (.slice Ao22 t835.length co22)) (ds := []) (Qbz 9 0) (by kernel_rfl) rfl rfl ⟨(blk_cell BK839.out 0).trans rfl, (blk_cell BK839.out 1).trans rfl⟩ (fun hHeld => ?_); refine with_tabW lampblacklaw07_MinorColours.tab5 lampblacklaw07_MinorColours.bits5 (fun HT_ HW_ => ?_)
     generalize w23.drew = w24 at HO822 HO826 HO831 HO834 HO837 BK839 HB hHeld ⊢
     refine Qpu 0 32 ?_ ?_ (Qbz 9 1) (Qao) ?_
     refine take_ (i := 2) (N := some 34) (v := ?_) (a' := ?_) (Qbz 9 5) rfl rfl (take_ofW HT_.out HW_.out (by kernel_rfl)) (fun _ _ _ h => h) (Or.inl ⟨by rfl, ?_⟩) hHeld ?_ ?_;rotate_left;(·rintro w' ⟨s0, s1⟩;go_simp;with_reducible rfl);rotate_left;(·simp only [Act.put, Qp1, Qp2, Qp3, i64_w, i32_w];rfl)
     refine one_ (i := 1) (N := some 33) (Qbz 9 7) rfl rfl (one_of HT_.out (by kernel_rfl)) (by decide) (fun K hK => ?_)
     refine goes_ Tryd.func22 (by kernel_rfl) rfl #[.slice A0 l0.length c0] (by rfl) rfl rfl (Qls) ?_
     with_reducible refine (lampblacklaw07_Few.calls _ _ l0 t840 _ ?side1 ?side2 A7.out).mono ?_
     (case side1 => exact Qsc (Kd.C_below HR0.out HB.out))
     (case side2 => exact HC0.out)
     rintro e w25 ⟨v841, rfl, ho0, hb⟩
     refine ⟨_, rfl, ?_⟩
     have n0_ := Aside0.mk (Kd.R_elder' (Qro HO822.out) (Kd.R_base ho0) hb)
     have n1_ := Aside0.mk (Kd.R_elder' (Qro HO826.out) (Kd.R_base ho0) hb)
     have n2_ := Aside0.mk (Kd.R_elder' (Qro HO831.out) (Kd.R_base ho0) hb)
     have n3_ := Aside0.mk (Kd.R_elder' (Qro HO834.out) (Kd.R_base ho0) hb)
     have n4_ := Aside0.mk (Kd.R_elder' (Qro HO837.out) (Kd.R_base ho0) hb)
     have n5_ := Aside0.mk (Kd.R_lower (Kd.R_new' (Kd.R_new' (Kd.R_new' (Kd.R_new' (Kd.R_new' ho0 (Kd.R_lt (Qro HO822.out))) (Kd.R_lt (Qro HO826.out))) (Kd.R_lt (Qro HO831.out))) (Kd.R_lt (Qro HO834.out))) (Kd.R_lt (Qro HO837.out))) (below_size (Qag GE839.out)))
     have n6_ := Aside0.mk (blk_below (g := gb839) (o := .cells #[.slice Ao20 t832.length co20, .slice Ao22 t835.length co22] 75 (0, 0)) (Qbl BK839.out) hb)
     have n7_ := Aside0.mk (below_step (Qag GE839.out) hb)
     clear HO822
     clear HO826
     clear HO831
     clear HO834
     clear HO837
     clear BK839
     clear HB
     have HO822 := n0_
     have HO826 := n1_
     have HO831 := n2_
     have HO834 := n3_
     have HO837 := n4_
     have HO842 := n5_
     have BK839 := n6_
     have HB := n7_
     clear n0_ n1_ n2_ n3_ n4_ n5_ n6_ n7_
     (try clear hb)
     (try clear hb2)
     (try clear hk)
     (try clear hi)
     (try clear ho0)
     obtain ⟨Ao26, co26, eo26⟩ := Kd.R_slice HO842.out
     (first | subst eo26 | (injection eo26 with f1_ f2_ f3_; have f4_ := f1_.symm; have f5_ := f3_.symm; clear f1_ f2_ f3_; subst f4_; subst f5_))
     refine hK.out _ _ ⟨(blk_cell BK839.out 0).trans rfl, (blk_cell BK839.out 1).trans rfl⟩ (fun hHeld => ?_)
     clear hK K
     refine norm_ (a' := ?_) ?_ ?_
     rotate_left
     ·show Act.put _ (some 33) _ = _
      simp only [Act.put, Qp1, Qp2, Qp3, i64_w, i32_w]
      rfl
     refine one_ (i := 3) (N := some 35) (Qbz 9 15) rfl rfl (one_of HT_.out (by kernel_rfl)) (by decide) (fun K hK => ?_)
     refine goes_ Tryd.func60 (by kernel_rfl) rfl #[.slice Ao26 t840.length co26, .agg #[.slice Ao20 t832.length co20, .slice Ao22 t835.length co22], .int .i64 3] (by rfl) rfl rfl (Qls) ?_
     with_reducible refine (width_Count.calls (hGL := (Qlg)) _ _ t840 _ _ t832 _ _ t835 3 t843 t844 _ ?side1 ?side2 ?side3 ?side4 ?side5 ?side6 A8.out).mono ?_
     (case side1 => exact Qsc (Kd.R_reads' HO842.out).2.2)
     (case side2 => exact (Kd.R_reads' HO842.out).2.1)
     (case side3 => exact Qsc (Kd.R_reads' HO834.out).2.2)
     (case side4 => exact (Kd.R_reads' HO834.out).2.1)
     (case side5 => exact Qsc (Kd.R_reads' HO837.out).2.2)
     (case side6 => exact (Kd.R_reads' HO837.out).2.1)
     rintro e w27 ⟨rfl, hb⟩
     refine ⟨_, rfl, ?_⟩
     have n0_ := Aside0.mk (Kd.R_below (Qro HO822.out) hb)
     have n1_ := Aside0.mk (Kd.R_below (Qro HO826.out) hb)
     have n2_ := Aside0.mk (Kd.R_below (Qro HO831.out) hb)
     have n3_ := Aside0.mk (Kd.R_below (Qro HO834.out) hb)
     have n4_ := Aside0.mk (Kd.R_below (Qro HO837.out) hb)
     have n5_ := Aside0.mk (Kd.R_below (Qro HO842.out) hb)
     have n6_ := Aside0.mk (blk_below (g := gb839) (o := .cells #[.slice Ao20 t832.length co20, .slice Ao22 t835.length co22] 75 (0, 0)) (Qbl BK839.out) hb)
     have n7_ := Aside0.mk (below_step (Qag GE839.out) hb)
     clear HO822
     clear HO826
     clear HO831
     clear HO834
     clear HO837
     clear HO842
     clear BK839
     clear HB
     have HO822 := n0_
     have HO826 := n1_
     have HO831 := n2_
     have HO834 := n3_
     have HO837 := n4_
     have HO842 := n5_
     have BK839 := n6_
     have HB := n7_
     clear n0_ n1_ n2_ n3_ n4_ n5_ n6_ n7_
     (try clear hb)
     (try clear hb2)
     (try clear hk)
     (try clear hi)
     refine hK.out _ _ ⟨(blk_cell BK839.out 0).trans rfl, (blk_cell BK839.out 1).trans rfl⟩ (fun hHeld => ?_)
     clear hK K
     refine norm_ (a' := ?_) ?_ ?_
     rotate_left
     ·show Act.put _ (some 35) _ = _
      simp only [Act.put, Qp1, Qp2, Qp3, i64_w, i32_w]
      rfl
     refine Qpu 4 31 ?_ ?_ (Qbz 9 31) (Qao) ?_
     refine Qpu 5 36 ?_ ?_ (Qbz 9 63) (Qao) ?_
     refine Qpu 6 37 ?_ ?_ (Qbz 9 127) (Qao) ?_
     refine Qpu 7 6 ?_ ?_ (Qbz 9 255) (Qao) ?_
     refine Qpu 8 7 ?_ ?_ (Qbz 9 511) (Qao) ?_
     refine done_ (done_of HT_.out (by kernel_rfl)) ?_
     try go_wp2_with (first | (go_at_call 17; (with_reducible refine (lampblacklaw07_awake.calls (hGL := (by repeat (first | (with_reducible exact HGL.out) | (with_reducible exact GL_below HGL.out HB.out) | (refine GL_below HGL.out (Qag GE839.out)) | (with_reducible refine GL_alloc ?_ _) | (with_reducible refine GL_drewN ?_ _) | (with_reducible refine GL_drew ?_)))) k  t845 _ A12.out).mono ?_); rintro e w28 ⟨rfl, hb⟩; have n0_ := Aside0.mk (Kd.R_below (Qro HO822.out) hb); have n1_ := Aside0.mk (Kd.R_below (Qro HO826.out) hb); have n2_ := Aside0.mk (Kd.R_below (Qro HO831.out) hb); have n3_ := Aside0.mk (Kd.R_below (Qro HO834.out) hb); have n4_ := Aside0.mk (Kd.R_below (Qro HO837.out) hb); have n5_ := Aside0.mk (Kd.R_below (Qro HO842.out) hb); have n6_ := Aside0.mk (blk_below (g := gb839) (o := .cells #[.slice Ao20 t832.length co20, .slice Ao22 t835.length co22] 75 (0, 0)) (Qbl BK839.out) hb); have n7_ := Aside0.mk (below_step (Qag GE839.out) hb); clear HO822; clear HO826; clear HO831; clear HO834; clear HO837; clear HO842; clear BK839; clear HB; have HO822 := n0_; have HO826 := n1_; have HO831 := n2_; have HO834 := n3_; have HO837 := n4_; have HO842 := n5_; have BK839 := n6_; have HB := n7_; clear n0_ n1_ n2_ n3_ n4_ n5_ n6_ n7_; (try clear hb); (try clear hb2); (try clear hk); (try clear hi)))
     go_ret
     exact ⟨by first | rfl | (simp [errW_none, errW_some] <;> rfl) | (simp [*, errW_none, errW_some] <;> rfl), by repeat (first | (with_reducible first | exact HB.out | apply below_alloc | apply pw_below_drewN | apply below_drew1 | refine below_set ?_ GE839.out) | exact HB.out)⟩
    ·rw [if_neg c11] at H
     have c11b0 : decide (0 < t843) = false := decide_eq_false c11
     clear c11
     exact absurd ((Option.some.inj H).trans HRT.out) (by decide)
   ·rw [if_neg c10] at H
    have c10b0 : (t844 == 0) = false := beq_eq_false_iff_ne.mpr c10
    have c10b1 : (t844 != 0) = true := bne_iff_ne.mpr c10
    exact absurd ((Option.some.inj H).trans HRT.out) (by decide)
  ·rw [if_neg c9] at H
   have c9b0 : (t838 == 0) = false := beq_eq_false_iff_ne.mpr c9
   have c9b1 : (t838 != 0) = true := bne_iff_ne.mpr c9
   exact absurd ((Option.some.inj H).trans HRT.out) (by decide)
 ·rw [if_neg c4] at H
  have c4b0 : (t824 == 0) = false := beq_eq_false_iff_ne.mpr c4
  have c4b1 : (t824 != 0) = true := bne_iff_ne.mpr c4
  by_cases c74 : t824 = 2
  ·rw [if_pos c74] at H
   have c74b0 : (t824 == 2) = true := beq_iff_eq.mpr c74
   have c74b1 : (t824 != 2) = false := bne_eq_false_iff_eq.mpr c74
   clear c74
   replace H := Option.bind_eq_some_iff.mp H
   obtain ⟨t827, A750, H⟩ := H
   replace H : (some t827) = some r := H
   have A75 := Aside0.mk A750
   clear A750
   clear HRT
   obtain rfl := Option.some.inj H
   go_enter Tryd.func15, Tryd.ntmps15
   go_wp2_with (first | ((with_reducible refine gate_callee (f := 22) rfl ?_); refine goesL_ (some 10) rfl rfl Tryd.func22 (by kernel_rfl) rfl #[.slice A0 l0.length c0] rfl (Qls) ?_; (with_reducible refine (lampblacklaw07_Few.calls _ _ l0 t820 _ ?side1 ?side2 A2.out).mono ?_); (case side1 => exact Qsc HR0.out); (case side2 => exact HC0.out); rintro e w76 ⟨v821, rfl, ho0, hb⟩; refine ⟨_, rfl, ?_⟩; have n0_ := Aside0.mk (Kd.R_lower ho0 (below_size (Qaw))); have n1_ := Aside0.mk (below_step (Qaw) hb); clear HB; have HO822 := n0_; have HB := n1_; clear n0_ n1_; (try clear hb); (try clear hb2); (try clear hk); (try clear hi); (try clear ho0); obtain ⟨Ao77, co77, eo77⟩ := Kd.R_slice HO822.out; subst eo77) | ((with_reducible refine gate_callee (f := 47) rfl ?_); refine goesL_ (some 11) rfl rfl Tryd.func47 (by kernel_rfl) rfl #[.slice Ao77 t820.length co77] rfl (Qls) ?_; (with_reducible refine (minor_Outer.calls (hGL := (Qlg)) _ _ t820 t823 t824 _ ?side1 ?side2 A3.out).mono ?_); (case side1 => exact Qsc (Kd.R_reads' HO822.out).2.2); (case side2 => exact (Kd.R_reads' HO822.out).2.1); rintro e w78 ⟨v825, rfl, ho0, hb⟩; refine ⟨_, rfl, ?_⟩; have n0_ := Aside0.mk (Kd.R_elder' (Qro HO822.out) (Kd.R_base ho0) hb); have n1_ := Aside0.mk (Kd.R_lower (Kd.R_new' ho0 (Kd.R_lt (Qro HO822.out))) (below_size (Qaw))); have n2_ := Aside0.mk (below_step (Qaw) hb); clear HO822; clear HB; have HO822 := n0_; have HO826 := n1_; have HB := n2_; clear n0_ n1_ n2_; (try clear hb); (try clear hb2); (try clear hk); (try clear hi); (try clear ho0)) | (go_at_call 17; (with_reducible refine (lampblacklaw07_awake.calls (hGL := (Qlg)) k  t827 _ A75.out).mono ?_); rintro e w79 ⟨rfl, hb⟩; have n0_ := Aside0.mk (Kd.R_below (Qro HO822.out) hb); have n1_ := Aside0.mk (Kd.R_below (Qro HO826.out) hb); have n2_ := Aside0.mk (below_step (Qaw) hb); clear HO822; clear HO826; clear HB; have HO822 := n0_; have HO826 := n1_; have HB := n2_; clear n0_ n1_ n2_; (try clear hb); (try clear hb2); (try clear hk); (try clear hi)))
   go_ret
   exact ⟨by first | rfl | (simp [errW_none, errW_some] <;> rfl) | (simp [*, errW_none, errW_some] <;> rfl), by repeat (first | (with_reducible first | exact HB.out | apply below_alloc | apply pw_below_drewN | apply below_drew1) | exact HB.out)⟩
  ·rw [if_neg c74] at H
   have c74b0 : (t824 == 2) = false := beq_eq_false_iff_ne.mpr c74
   have c74b1 : (t824 != 2) = true := bne_iff_ne.mpr c74
   by_cases c80 : t824 = 4
   ·rw [if_pos c80] at H
    have c80b0 : (t824 == 4) = true := beq_iff_eq.mpr c80
    have c80b1 : (t824 != 4) = false := bne_eq_false_iff_eq.mpr c80
    clear c80
    replace H := Option.bind_eq_some_iff.mp H
    obtain ⟨t828, A810, H⟩ := H
    replace H : (some t828) = some r := H
    have A81 := Aside0.mk A810
    clear A810
    clear HRT
    obtain rfl := Option.some.inj H
    go_enter Tryd.func15, Tryd.ntmps15
    go_wp2_with (first | ((with_reducible refine gate_callee (f := 22) rfl ?_); refine goesL_ (some 10) rfl rfl Tryd.func22 (by kernel_rfl) rfl #[.slice A0 l0.length c0] rfl (Qls) ?_; (with_reducible refine (lampblacklaw07_Few.calls _ _ l0 t820 _ ?side1 ?side2 A2.out).mono ?_); (case side1 => exact Qsc HR0.out); (case side2 => exact HC0.out); rintro e w82 ⟨v821, rfl, ho0, hb⟩; refine ⟨_, rfl, ?_⟩; have n0_ := Aside0.mk (Kd.R_lower ho0 (below_size (Qaw))); have n1_ := Aside0.mk (below_step (Qaw) hb); clear HB; have HO822 := n0_; have HB := n1_; clear n0_ n1_; (try clear hb); (try clear hb2); (try clear hk); (try clear hi); (try clear ho0); obtain ⟨Ao83, co83, eo83⟩ := Kd.R_slice HO822.out; subst eo83) | ((with_reducible refine gate_callee (f := 47) rfl ?_); refine goesL_ (some 11) rfl rfl Tryd.func47 (by kernel_rfl) rfl #[.slice Ao83 t820.length co83] rfl (Qls) ?_; (with_reducible refine (minor_Outer.calls (hGL := (Qlg)) _ _ t820 t823 t824 _ ?side1 ?side2 A3.out).mono ?_); (case side1 => exact Qsc (Kd.R_reads' HO822.out).2.2); (case side2 => exact (Kd.R_reads' HO822.out).2.1); rintro e w84 ⟨v825, rfl, ho0, hb⟩; refine ⟨_, rfl, ?_⟩; have n0_ := Aside0.mk (Kd.R_elder' (Qro HO822.out) (Kd.R_base ho0) hb); have n1_ := Aside0.mk (Kd.R_lower (Kd.R_new' ho0 (Kd.R_lt (Qro HO822.out))) (below_size (Qaw))); have n2_ := Aside0.mk (below_step (Qaw) hb); clear HO822; clear HB; have HO822 := n0_; have HO826 := n1_; have HB := n2_; clear n0_ n1_ n2_; (try clear hb); (try clear hb2); (try clear hk); (try clear hi); (try clear ho0)) | (go_at_call 17; (with_reducible refine (lampblacklaw07_awake.calls (hGL := (Qlg)) k  t828 _ A81.out).mono ?_); rintro e w85 ⟨rfl, hb⟩; have n0_ := Aside0.mk (Kd.R_below (Qro HO822.out) hb); have n1_ := Aside0.mk (Kd.R_below (Qro HO826.out) hb); have n2_ := Aside0.mk (below_step (Qaw) hb); clear HO822; clear HO826; clear HB; have HO822 := n0_; have HO826 := n1_; have HB := n2_; clear n0_ n1_ n2_; (try clear hb); (try clear hb2); (try clear hk); (try clear hi)))
    go_ret
    exact ⟨by first | rfl | (simp [errW_none, errW_some] <;> rfl) | (simp [*, errW_none, errW_some] <;> rfl), by repeat (first | (with_reducible first | exact HB.out | apply below_alloc | apply pw_below_drewN | apply below_drew1) | exact HB.out)⟩
   ·rw [if_neg c80] at H
    have c80b0 : (t824 == 4) = false := beq_eq_false_iff_ne.mpr c80
    have c80b1 : (t824 != 4) = true := bne_iff_ne.mpr c80
    exact absurd ((Option.some.inj H).trans HRT.out) (by decide)
end
end Go.Proofs.YtjloppfdagfpmaaDoor.X
end
section
namespace Go.Proofs.YtjloppfdagfpmaaDoor.T
open Go.RowKit YtjloppfdagfpmaaDoorW.PrintWords YtjloppfdagfpmaaDoorW.PrintLast YtjloppfdagfpmaaDoorW.PrintMore
theorem mnr_pe {V : Nat → Prop} {adj : Nat → Nat → Prop} {k : Nat} {pe pe' : Nat → Nat → Prop} (hp : ∀ i j, i < k → j < k → pe' i j → pe i j) (h : Mnr V adj k pe) : Mnr V adj k pe' := by
 obtain ⟨M, h1, h2, h3⟩ := h
 exact ⟨M, h1, h2, fun i j hi hj hij => h3 i j hi hj (hp i j hi hj hij)⟩
end Go.Proofs.YtjloppfdagfpmaaDoor.T
end
section
namespace Go.Proofs.YtjloppfdagfpmaaDoor.X
open Go.RowKit YtjloppfdagfpmaaDoorW.PrintWords YtjloppfdagfpmaaDoorW.PrintLast YtjloppfdagfpmaaDoorW.PrintMore
attribute [local go_sem] max2_int min2_int max_two min_two max_three min_three max_four min_four
noncomputable section
def lampblacklaw07_has.f (l0 : List Int) (l1 : List Int) : Option (Bool × Bool) := (lampblacklaw07_Few.f l0).bind fun t164 => ((minor_Model.f t164 l1).bind fun bt167 => (if bt167.2 = 0 then (some ((bt167.2 == 0), true)) else (some ((bt167.2 == 0), (bt167.2 == 4)))))
end
noncomputable section
def lampblackref07_join.f (l0 : List Int) (a1 : Int) (a2 : Int) : Option (List Int) := if 0 ≤ a1 then (if a1 < (l0.length : Int) then (if 0 ≤ a2 then ((some (l0.set (a1 : Int).toNat (Go.bits .or .i64 (rd l0 a1) (shl .i64 1 a2)) : List Int)).bind fun y250 => (if a2 < (l0.length : Int) then (some (y250.set (a2 : Int).toNat (Go.bits .or .i64 (rd y250 a2) (shl .i64 1 a1)))) else (none))) else (none)) else (none)) else (none)
def lampblackref07_join.T1 : Bool × List (List Nat × List Nat) := (true, [([], []), ([], []), ([0, 1], [0, 1]), ([2], [2]), ([], []), ([4], [4]), ([3, 5], [3, 5]), ([0, 1, 0, 1, 2, 3, 4, 5, 6], [0, 1]), ([7, 6, 0, 1, 2, 3, 4, 5, 6], [6, 7])])
def lampblackref07_join.B1 : List Nat := [0, 0, 3, 7, 0, 16, 63, 127, 255]
theorem lampblackref07_join.tab1 : rtab .any (opsOf Tryd.f75 1) = lampblackref07_join.T1 := by kernel_rfl
theorem lampblackref07_join.bits1 : waitsOk lampblackref07_join.T1.2 lampblackref07_join.B1 = true := by kernel_rfl
end
noncomputable section
mutual
def lampblackref07_K.l0 : Nat → List Int → Int → Int → Option (List Int)
 | 0, _, _, _ => none
 | k + 1, x3, x8, x9 => if x9 < x8 then (lampblackref07_K.l1 k x3 x9 x8 x9 x9 0) else (some x3)
def lampblackref07_K.l1 : Nat → List Int → Int → Int → Int → Int → Int → Option (List Int)
 | 0, _, _, _, _, _, _ => none
 | k + 1, x3, x4, x8, x9, x12, x13 => if x13 < x12 then ((lampblackref07_join.f x3 x4 x13).bind fun t261 => (lampblackref07_K.l1 k t261 x4 x8 x9 x12 (wrap64 (x13 + 1)))) else (lampblackref07_K.l0 k x3 x8 (wrap64 (x9 + 1)))
end
end
end Go.Proofs.YtjloppfdagfpmaaDoor.X
end
section
namespace Go.Proofs.YtjloppfdagfpmaaDoor.X
open Go.RowKit YtjloppfdagfpmaaDoorW.PrintWords YtjloppfdagfpmaaDoorW.PrintLast YtjloppfdagfpmaaDoorW.PrintMore YtjloppfdagfpmaaDoor.T
theorem gi_inj {A B : List Nat} (h : gi A = gi B) : A = B := by rw [← gi_toNat A, h, gi_toNat]
theorem Model_eq {G P : List Nat} (hG : Gr 8 G) (hP : Gr 6 P) : minor_Model.f (gi G) (gi P) = some ((findN G P).elim ([], 4) fun M => (gi M, 0)) := by
 have h1 := hG.most
 have h2 := hP.most
 unfold minor_Model.f
 rw [if_pos ⟨by rw [gi_length]; omega, by rw [gi_length]; omega⟩, (chk_iff 8 (by omega) _).2 ⟨G, rfl, hG⟩, (chk_iff 6 (by omega) _).2 ⟨P, rfl, hP⟩, gi_toNat, gi_toNat]
 rfl
def IsMnr (G P : List Nat) : Prop := Mnr (fun x => x < G.length) (Adj G) P.length (Adj P)
theorem find_mnr {m m' : Nat} {G P : List Nat} (hG : Gr m G) (hm : m ≤ 9) (hP : Gr m' P) (hm' : m' ≤ 9) : (findN G P).isSome = true ↔ IsMnr G P := by
 unfold IsMnr
 rw [← mod_iff hG hm hP hm']
 have hn := Nat.le_trans hG.most hm
 cases h : findN G P with
 | none => exact ⟨fun h => (by cases h), fun ⟨M, hM⟩ => (find_none hn hP.pos h M hM).elim⟩
 | some R => exact ⟨fun _ => ⟨R, (find_some hn hP.pos h).1⟩, fun _ => rfl⟩
theorem few_ok {G : List Nat} (hG : Gr 8 G) : lampblacklaw07_Few.f (gi G) = some (gi G) := by
 obtain ⟨h, e, e1, _, _⟩ := few_eq (gi G) (by rw [gi_length]; have := hG.most; omega)
 rw [e1 ((chk_iff 8 (by omega) _).2 ⟨G, rfl, hG⟩)] at e
 exact e
theorem has_eq {G P : List Nat} (hG : Gr 8 G) (hP : Gr 6 P) : ∃ b, lampblacklaw07_has.f (gi G) (gi P) = some (b, true) ∧ (b = true ↔ IsMnr G P) := by
 have hf := find_mnr hG (by omega) hP (by omega)
 unfold lampblacklaw07_has.f
 rw [few_ok hG]
 simp only [Option.bind_some]
 rw [Model_eq hG hP]
 cases h : findN G P with
 | none =>
  refine ⟨false, rfl, ?_⟩
  rw [← hf, h]
  simp
 | some R =>
  refine ⟨true, rfl, ?_⟩
  rw [← hf, h]
  simp
def kN (n : Nat) : List Nat := (List.range n).map fun i => diff (2 ^ n - 1) (2 ^ i)
theorem kN_length (n : Nat) : (kN n).length = n := by unfold kN; simp
theorem kN_adj {n i j : Nat} (hi : i < n) (hj : j < n) : Adj (kN n) i j ↔ i ≠ j := by
 show ((kN n).getD i 0).testBit j = true ↔ _
 unfold kN
 rw [List.getD_eq_getElem?_getD, List.getElem?_map, List.getElem?_range hi, Option.map_some, Option.getD_some, diff_testBit, Bool.and_eq_true]
 constructor
 ·rintro ⟨_, h⟩ rfl
  simp at h
 ·intro h
  refine ⟨(all_bit n j).2 hj, ?_⟩
  have : ¬ bset (2 ^ i) j := fun h2 => h ((two_pow_bit i j).1 h2).symm
  simpa [bset] using this
theorem mnr_k {G : List Nat} {n : Nat} : IsMnr G (kN n) ↔ Mnr (fun x => x < G.length) (Adj G) n (fun i j => i ≠ j) := by
 unfold IsMnr
 rw [kN_length]
 exact ⟨mnr_pe fun i j hi hj h => (kN_adj hi hj).2 h, mnr_pe fun i j hi hj h => (kN_adj hi hj).1 h⟩
end Go.Proofs.YtjloppfdagfpmaaDoor.X
end
section
namespace Go.Proofs.YtjloppfdagfpmaaDoor.X
open Go.RowKit YtjloppfdagfpmaaDoorW.PrintWords YtjloppfdagfpmaaDoorW.PrintLast YtjloppfdagfpmaaDoorW.PrintMore
attribute [local go_sem] max2_int min2_int max_two min_two max_three min_three max_four min_four
noncomputable section
def minor_town_without.l0 : Nat → Int → List Int → List Int → Int → Int → Option (List Int)
 | 0, _, _, _, _, _ => none
 | k + 1, x1, x5, x8, x9, x10 => if x10 < x9 then (if 0 ≤ x10 then (if x10 < (x8.length : Int) then (if x10 = x1 then (minor_town_without.l0 k x1 x5 x8 x9 (wrap64 (x10 + 1))) else (if 0 ≤ x1 then (if 0 ≤ (wrap64 (x1 + 1)) then (if x5.length < 17592186044416 then (minor_town_without.l0 k x1 (x5 ++ [Go.bits .or .i64 (Go.bits .and .i64 (rd x8 x10) (wrap64 ((shl .i64 1 x1) - 1))) (shl .i64 (shr .i64 (rd x8 x10) (wrap64 (x1 + 1))) x1)]) x8 x9 (wrap64 (x10 + 1))) else (none)) else (none)) else (none))) else (none)) else (none)) else (some x5)
def minor_town_without.f (k : Nat) (l0 : List Int) (a1 : Int) : Option (List Int) := minor_town_without.l0 k a1 ([] : List Int) l0 (l0.length : Int) 0
end
noncomputable section
end
noncomputable section
def minor_town_int.f (l0 : List Int) : Option (List Int) := (some (([] : List Int) : List Int)).bind fun y302 => (if y302.length + l0.length < 17592186044416 then (some (y302 ++ l0)) else (none))
end
noncomputable section
def minor_town_join.f (l0 : List Int) (a1 : Int) (a2 : Int) : Option (List Int) := if 0 ≤ a1 then (if a1 < (l0.length : Int) then (if 0 ≤ a2 then ((some (l0.set (a1 : Int).toNat (Go.bits .or .i64 (rd l0 a1) (shl .i64 1 a2)) : List Int)).bind fun y146 => (if a2 < (l0.length : Int) then (some (y146.set (a2 : Int).toNat (Go.bits .or .i64 (rd y146 a2) (shl .i64 1 a1)))) else (none))) else (none)) else (none)) else (none)
def minor_town_join.T1 : Bool × List (List Nat × List Nat) := (true, [([], []), ([], []), ([0, 1], [0, 1]), ([2], [2]), ([], []), ([4], [4]), ([3, 5], [3, 5]), ([0, 1, 0, 1, 2, 3, 4, 5, 6], [0, 1]), ([7, 6, 0, 1, 2, 3, 4, 5, 6], [6, 7])])
def minor_town_join.B1 : List Nat := [0, 0, 3, 7, 0, 16, 63, 127, 255]
theorem minor_town_join.tab1 : rtab .any (opsOf Tryd.f62 1) = minor_town_join.T1 := by kernel_rfl
theorem minor_town_join.bits1 : waitsOk minor_town_join.T1.2 minor_town_join.B1 = true := by kernel_rfl
end
noncomputable section
mutual
def minor_Contract.j0 : Nat → Int → Int → List Int → Bool → Option (List Int × Int)
 | 0, _, _, _, _ => none
 | k + 1, x1, x2, x8, x44 => if x44 = true then (some (([] : List Int), 2)) else ((minor_town_int.f x8).bind fun t313 => (if 0 ≤ x2 then (if x2 < (x8.length : Int) then (if 0 ≤ x1 then ((minor_nodes.f k (Go.bits .andNot .i64 (rd x8 x2) (shl .i64 1 x1))).bind fun t317 => (minor_Contract.l0 k x1 x2 t313 t317 (t317.length : Int) 0)) else (none)) else (none)) else (none)))
def minor_Contract.l0 : Nat → Int → Int → List Int → List Int → Int → Int → Option (List Int × Int)
 | 0, _, _, _, _, _, _ => none
 | k + 1, x1, x2, x10, x54, x55, x56 => if x56 < x55 then (if 0 ≤ x56 then (if x56 < (x54.length : Int) then ((minor_town_join.f x10 x1 (rd x54 x56)).bind fun t321 => (minor_Contract.l0 k x1 x2 t321 x54 x55 (wrap64 (x56 + 1)))) else (none)) else (none)) else ((minor_town_without.f k x10 x2).bind fun t322 => (some (t322, 0)))
end
def minor_Contract.T5 : Bool × List (List Nat × List Nat) := (true, [([], []), ([], []), ([0, 1], [0, 1]), ([2], [2]), ([], []), ([4], [4]), ([3, 5], [3, 5]), ([6], [6]), ([7], [7]), ([], [])])
def minor_Contract.B5 : List Nat := [0, 0, 3, 7, 0, 16, 63, 127, 255, 0]
theorem minor_Contract.tab5 : rtab .any (opsOf Tryd.f36 5) = minor_Contract.T5 := by kernel_rfl
theorem minor_Contract.bits5 : waitsOk minor_Contract.T5.2 minor_Contract.B5 = true := by kernel_rfl
end
noncomputable section
def lampblackref07_Delete.l0 : Nat → Int → List Int → List Int → Int → Int → Option (List Int)
 | 0, _, _, _, _, _ => none
 | k + 1, x1, x5, x8, x9, x10 => if x10 < x9 then (if 0 ≤ x10 then (if x10 < (x8.length : Int) then (if x10 = x1 then (lampblackref07_Delete.l0 k x1 x5 x8 x9 (wrap64 (x10 + 1))) else (if 0 ≤ x1 then (if 0 ≤ (wrap64 (x1 + 1)) then (if x5.length < 17592186044416 then (lampblackref07_Delete.l0 k x1 (x5 ++ [Go.bits .or .i64 (Go.bits .and .i64 (rd x8 x10) (wrap64 ((shl .i64 1 x1) - 1))) (shl .i64 (shr .i64 (rd x8 x10) (wrap64 (x1 + 1))) x1)]) x8 x9 (wrap64 (x10 + 1))) else (none)) else (none)) else (none))) else (none)) else (none)) else (some x5)
def lampblackref07_Delete.f (k : Nat) (l0 : List Int) (a1 : Int) : Option (List Int) := lampblackref07_Delete.l0 k a1 ([] : List Int) l0 (l0.length : Int) 0
end
noncomputable section
def lampblackref07_Contract.l0 : Nat → List Int → Int → Int → List Int → Int → Int → Option (List Int)
 | 0, _, _, _, _, _, _ => none
 | k + 1, x0, x1, x2, x7, x13, x14 => if x14 < x13 then (if 0 ≤ x2 then (if x2 < (x0.length : Int) then (if 0 ≤ x14 then (if (Go.bits .and .i64 (shr .i64 (rd x0 x2) x14) 1) = 1 then (if x14 = x1 then (lampblackref07_Contract.l0 k x0 x1 x2 x7 x13 (wrap64 (x14 + 1))) else ((lampblackref07_join.f x7 x1 x14).bind fun t336 => (lampblackref07_Contract.l0 k x0 x1 x2 t336 x13 (wrap64 (x14 + 1))))) else (lampblackref07_Contract.l0 k x0 x1 x2 x7 x13 (wrap64 (x14 + 1)))) else (none)) else (none)) else (none)) else ((lampblackref07_Delete.f k x7 x2).bind fun t337 => (some t337))
end
end Go.Proofs.YtjloppfdagfpmaaDoor.X
end
section
namespace Go.Proofs.YtjloppfdagfpmaaDoor.X
open Go.RowKit YtjloppfdagfpmaaDoorW.PrintWords YtjloppfdagfpmaaDoorW.PrintLast YtjloppfdagfpmaaDoorW.PrintMore YtjloppfdagfpmaaDoor.T
def InN (n : Nat) (J : List Nat) : Prop := J.length = n ∧ ∀ i, J.getD i 0 < 2 ^ n
end Go.Proofs.YtjloppfdagfpmaaDoor.X
end
section
namespace Go.Proofs.YtjloppfdagfpmaaDoor.X
open Go.RowKit YtjloppfdagfpmaaDoorW.PrintWords YtjloppfdagfpmaaDoorW.PrintLast YtjloppfdagfpmaaDoorW.PrintMore
attribute [local go_sem] max2_int min2_int max_two min_two max_three min_three max_four min_four
noncomputable section
end
noncomputable section
end
noncomputable section
mutual
def minor_clique.l0 : Nat → List Int → Int → Int → Option (List Int)
 | 0, _, _, _ => none
 | k + 1, x3, x8, x9 => if x9 < x8 then (minor_clique.l1 k x3 x9 x8 x9 x9 0) else (some x3)
def minor_clique.l1 : Nat → List Int → Int → Int → Int → Int → Int → Option (List Int)
 | 0, _, _, _, _, _, _ => none
 | k + 1, x3, x4, x8, x9, x12, x13 => if x13 < x12 then ((minor_town_join.f x3 x4 x13).bind fun t239 => (minor_clique.l1 k t239 x4 x8 x9 x12 (wrap64 (x13 + 1)))) else (minor_clique.l0 k x3 x8 (wrap64 (x9 + 1)))
end
end
end Go.Proofs.YtjloppfdagfpmaaDoor.X
end
section
namespace Go.Proofs.YtjloppfdagfpmaaDoor.X
open Go.RowKit YtjloppfdagfpmaaDoorW.PrintWords YtjloppfdagfpmaaDoorW.PrintLast YtjloppfdagfpmaaDoorW.PrintMore YtjloppfdagfpmaaDoor.T
attribute [local go_sem] max2_int min2_int max_two min_two max_three min_three max_four min_four
def sB : List Nat → Int
 | [_, b] => b
 | _ => -1
structure RS (w0 W : World) (rB gT cT : Nat) (J : List Nat) (left : Nat) : Prop where
 blk : W.heap[rB]? = some (.cells #[.slice (some ⟨gT, 0, none⟩) J.length cT, .int .i64 (left : Int)] 94 (0, 0))
 row : Kd.R (Kd.int .i64) 3 W w0.heap.size (fun k => k = gT) (.slice (some ⟨gT, 0, none⟩) J.length cT) (gi J)
 below : Below w0.heap.size w0 W
 ge : w0.heap.size ≤ rB
 ne : rB ≠ gT
 inn : InN J.length J
theorem RS.low {w0 W V : World} {rB gT cT : Nat} {J : List Nat} {left : Nat} (h : RS w0 W rB gT cT J left) (hb : Below W.heap.size W V) : RS w0 V rB gT cT J left :=
 ⟨blk_below h.blk hb, Kd.R_below h.row hb, below_step h.below hb, h.ge, h.ne, h.inn⟩
theorem RS.kept {w0 W V : World} {rB gT cT : Nat} {J : List Nat} {left : Nat} {S : Nat → Prop} (h : RS w0 W rB gT cT J left) (hk : Kept W V S) (hB : Below w0.heap.size w0 V) (h1 : ¬ S rB) (h2 : ¬ S gT) : RS w0 V rB gT cT J left :=
 ⟨blk_kept h.blk hk h1, Kd.R_kept h.row hk (fun k e => by rw [e]; exact h2), hB, h.ge, h.ne, h.inn⟩
theorem RS.C {w0 W : World} {rB gT cT : Nat} {J : List Nat} {left : Nat} (h : RS w0 W rB gT cT J left) : J.length ≤ cT ∧ Kd.C (Kd.int .i64) W (some ⟨gT, 0, none⟩) J.length (gi J) := by
 obtain ⟨A, c, e, hc, hC⟩ := Kd.R_reads h.row
 rw [gi_length] at e hc hC
 injection e with e1 e2 e3
 subst e1 e3
 exact ⟨hc, hC⟩
theorem RS.set {w0 W : World} {rB gT cT : Nat} {J : List Nat} {left : Nat} (h : RS w0 W rB gT cT J left) (l2 : Nat) : RS w0 (W.setCell ⟨rB, 1, none⟩ (.int .i64 (l2 : Int))) rB gT cT J l2 :=
 ⟨blk_put h.blk 1 _ rfl, Kd.R_far (p := ⟨rB, 1, none⟩) h.row (fun k e => by rw [e]; exact fun h2 => h.ne h2.symm) _, below_set h.below h.ge, h.ge, h.ne, h.inn⟩
end Go.Proofs.YtjloppfdagfpmaaDoor.X
end
section
namespace Go.Proofs.YtjloppfdagfpmaaDoor.X
open Go.RowKit YtjloppfdagfpmaaDoorW.PrintWords YtjloppfdagfpmaaDoorW.PrintLast YtjloppfdagfpmaaDoorW.PrintMore
attribute [local go_sem] max2_int min2_int max_two min_two max_three min_three max_four min_four
noncomputable section
def lampblackref07_fits.l0 : Nat → List Int → List Int → List Int → Int → Int → Int → Int → Option (Bool)
 | 0, _, _, _, _, _, _, _ => none
 | k + 1, x0, x1, x2, x3, x4, x12, x13 => if x13 < x12 then (if 0 ≤ x3 then (if x3 < (x1.length : Int) then (if 0 ≤ x13 then (if (Go.bits .and .i64 (shr .i64 (rd x1 x3) x13) 1) = 1 then ((lampblackref02_Around.f k x0 x4).bind fun t197 => (if x13 < (x2.length : Int) then (if (Go.bits .and .i64 t197 (rd x2 x13)) = 0 then (some false) else (lampblackref07_fits.l0 k x0 x1 x2 x3 x4 x12 (wrap64 (x13 + 1)))) else (none))) else (lampblackref07_fits.l0 k x0 x1 x2 x3 x4 x12 (wrap64 (x13 + 1)))) else (none)) else (none)) else (none)) else (some true)
end
end Go.Proofs.YtjloppfdagfpmaaDoor.X
end
section
namespace Go.Proofs.YtjloppfdagfpmaaDoor.X
open Go.RowKit YtjloppfdagfpmaaDoorW.PrintWords YtjloppfdagfpmaaDoorW.PrintLast YtjloppfdagfpmaaDoorW.PrintMore YtjloppfdagfpmaaDoor.T
attribute [local go_sem] max2_int min2_int max_two min_two max_three min_three max_four min_four
theorem own_le {W : World} {e : TypeId} {size k base : Nat} {xs : List Value} {A : Option Addr} {c : Nat} (h : W.ownsRow base e size (.slice A (k + 1) c) (k + 1) xs) : base ≤ W.heap.size := by
 rcases h.2 with ⟨_, h0⟩ | ⟨g, cap, cur, _, hb, hg, _⟩
 ·omega
 ·have := (Array.getElem?_eq_some_iff.1 hg).1
  omega
end Go.Proofs.YtjloppfdagfpmaaDoor.X
end
section
namespace Go.Proofs.YtjloppfdagfpmaaDoor.X
open Go.RowKit YtjloppfdagfpmaaDoorW.PrintWords YtjloppfdagfpmaaDoorW.PrintLast YtjloppfdagfpmaaDoorW.PrintMore
attribute [local go_sem] max2_int min2_int max_two min_two max_three min_three max_four min_four
noncomputable section
def minor_CheckOuter.l0 : Nat → List Int → List Int → Int → List Int → Int → Int → Option (Bool × Int)
 | 0, _, _, _, _, _, _ => none
 | k + 1, x1, x6, x8, x18, x19, x20 => if x20 < x19 then (if 0 ≤ x20 then (if x20 < (x18.length : Int) then (if (rd x18 x20) < 0 then (some (false, 0)) else (if (rd x18 x20) ≥ (x6.length : Int) then (some (false, 0)) else (if 0 ≤ (rd x18 x20) then (if (Go.bits .and .i64 (shr .i64 x8 (rd x18 x20)) 1) = 1 then (some (false, 0)) else (if 0 ≤ (wrap64 (x20 + 1)) then (if (wrap64 (x20 + 1)) ≤ (x1.length : Int) then ((minor_town_crosses.f k x6 (x1.take ((wrap64 (x20 + 1)) : Int).toNat)).bind fun t534 => (if t534 = true then (some (false, 0)) else (minor_CheckOuter.l0 k x1 x6 (Go.bits .or .i64 x8 (shl .i64 1 (rd x18 x20))) x18 x19 (wrap64 (x20 + 1))))) else (none)) else (none))) else (none)))) else (none)) else (none)) else ((minor_town_all.f x6).bind fun t535 => (some ((x8 == t535), 0)))
end
end Go.Proofs.YtjloppfdagfpmaaDoor.X
end
section
namespace Go.Proofs.YtjloppfdagfpmaaDoor.X
open Go.RowKit YtjloppfdagfpmaaDoorW.PrintWords YtjloppfdagfpmaaDoorW.PrintLast YtjloppfdagfpmaaDoorW.PrintMore YtjloppfdagfpmaaDoor.T
theorem cr_take {G P : List Nat} {t i j : Nat} (hi : i < t) (hj : j < t) : cr G (P.take t) i j = cr G P i j := by
 unfold cr
 simp only [List.getD_eq_getElem?_getD, List.getElem?_take_of_lt hi, List.getElem?_take_of_lt hj]
theorem cross_take {G P : List Nat} {t m : Nat} (hm : m < t) : CrossAt G (P.take t) m ↔ CrossAt G P m := by
 constructor
 ·rintro ⟨i, j, k, h1, h2, h3, h4, h5⟩
  exact ⟨i, j, k, h1, h2, h3, by rwa [cr_take (by omega) (by omega)] at h4, by rwa [cr_take (by omega) (by omega)] at h5⟩
 ·rintro ⟨i, j, k, h1, h2, h3, h4, h5⟩
  exact ⟨i, j, k, h1, h2, h3, by rwa [cr_take (by omega) (by omega)], by rwa [cr_take (by omega) (by omega)]⟩
section
variable {G l : List Nat} (hn : G.length ≤ 9) (hG : ∀ x ∈ G, x < 512) (hl : ∀ x ∈ l, x < G.length) (hll : l.length ≤ 1000)
include hn hG hl hll
end
theorem pc_noneO {s : Nat} (hs : s < 512) (h : pc s 9 = 0) (v : Nat) : ¬ bset s v := fun hv => by
 have hv9 : v < 9 := bit_lt hs hv
 have h2 := els_length s 9
 rw [h] at h2
 have h3 : v ∈ els s 9 := mem_els.2 ⟨hv9, hv⟩
 rw [List.length_eq_zero_iff.1 h2] at h3
 cases h3
theorem pc_less {s v d : Nat} (hs : s < 512) (h : pc s 9 = d + 1) (hv : bset s v) : diff s (2 ^ v) < 512 ∧ pc (diff s (2 ^ v)) 9 = d := by
 have hv9 : v < 9 := bit_lt hs hv
 have := diff_pc hv hv9
 exact ⟨Nat.lt_of_le_of_lt (diff_le _ _) hs, by omega⟩
theorem diff_mem {s v x : Nat} : bset (diff s (2 ^ v)) x ↔ bset s x ∧ x ≠ v := by
 rw [diff_bset, two_pow_bit]
theorem cross_last (G M : List Nat) (v : Nat) (Q : List Nat) : CrossAt G (M ++ v :: Q) M.length ↔ crossB G (M ++ [v]) = true := by
 rw [crossB_iff, List.length_append, List.length_singleton, show M.length + 1 - 1 = M.length by omega, ← cross_take (P := M ++ v :: Q) (t := M.length + 1) (by omega)]
 rw [show M ++ v :: Q = (M ++ [v]) ++ Q by simp, List.take_left' (by simp)]
theorem outN_some (G : List Nat) : ∀ (d : Nat) (M : List Nat) (left : Nat) (l : List Nat), left < 512 → pc left 9 = d → outN G d M left = some l →
  ∃ Q : List Nat, l = M ++ Q ∧ Q.Nodup ∧ (∀ v, v ∈ Q ↔ bset left v) ∧ ∀ m, M.length ≤ m → m < l.length → ¬ CrossAt G l m
 | 0, M, left, l, hs, hp, h => by
  rw [outN] at h
  obtain rfl := Option.some.inj h
  exact ⟨[], by simp, List.nodup_nil, fun v => ⟨fun h => (by cases h), fun h => absurd h (pc_noneO hs hp v)⟩, fun m h1 h2 => by omega⟩
 | d + 1, M, left, l, hs, hp, h => by
  rw [outN] at h
  obtain ⟨v, hv, h⟩ := List.exists_of_findSome?_eq_some h
  have hvb := (mem_els.1 hv).2
  by_cases hc : crossB G (M ++ [v]) = true
  ·rw [if_pos hc] at h; cases h
  ·rw [if_neg hc] at h
   obtain ⟨h1, h2⟩ := pc_less hs hp hvb
   obtain ⟨Q, rfl, h3, h4, h5⟩ := outN_some G d (M ++ [v]) (diff left (2 ^ v)) l h1 h2 h
   refine ⟨v :: Q, by simp, List.nodup_cons.2 ⟨fun hm => ((diff_mem.1 ((h4 v).1 hm)).2 rfl), h3⟩, fun x => ?_, fun m h6 h7 hx => ?_⟩
   ·rw [List.mem_cons, h4, diff_mem]
    constructor
    ·rintro (rfl | h)
     ·exact hvb
     ·exact h.1
    ·intro h
     by_cases e : x = v
     ·exact .inl e
     ·exact .inr ⟨h, e⟩
   ·by_cases e : m = M.length
    ·subst e
     rw [List.append_assoc] at hx
     exact hc ((cross_last G M v Q).1 hx)
    ·exact h5 m (by simp; omega) h7 hx
theorem outN_none (G : List Nat) : ∀ (d : Nat) (M : List Nat) (left : Nat), left < 512 → pc left 9 = d → outN G d M left = none →
  ∀ Q : List Nat, Q.Nodup → (∀ v, v ∈ Q ↔ bset left v) → ∃ m, M.length ≤ m ∧ m < (M ++ Q).length ∧ CrossAt G (M ++ Q) m
 | 0, M, left, hs, hp, h, Q, h1, h2 => by rw [outN] at h; cases h
 | d + 1, M, left, hs, hp, h, Q, h1, h2 => by
  rw [outN, List.findSome?_eq_none_iff] at h
  match Q, h1, h2 with
  | [], h1, h2 =>
   have h3 : els left 9 = [] := List.eq_nil_iff_forall_not_mem.2 fun v hv => by
    have := (h2 v).2 (mem_els.1 hv).2
    cases this
   have h4 := els_length left 9
   rw [h3, hp] at h4
   simp at h4
  | v :: Q, h1, h2 =>
   have hvb := (h2 v).1 List.mem_cons_self
   have hv9 : v < 9 := bit_lt hs hvb
   have h := h v (mem_els.2 ⟨hv9, hvb⟩)
   by_cases hc : crossB G (M ++ [v]) = true
   ·exact ⟨M.length, Nat.le_refl _, by simp, (cross_last G M v Q).2 hc⟩
   ·rw [if_neg hc] at h
    obtain ⟨h3, h4⟩ := pc_less hs hp hvb
    rw [List.nodup_cons] at h1
    obtain ⟨m, h5, h6, h7⟩ := outN_none G d (M ++ [v]) (diff left (2 ^ v)) h3 h4 h Q h1.2 fun x => by
     rw [diff_mem, ← h2 x, List.mem_cons]
     constructor
     ·intro hx; exact ⟨.inr hx, fun e => h1.1 (e ▸ hx)⟩
     ·rintro ⟨rfl | hx, e⟩
      ·exact absurd rfl e
      ·exact hx
    rw [List.append_assoc] at h6 h7
    simp at h5
    exact ⟨m, by omega, h6, h7⟩
def OO (G : List Nat) (S : Nat → Prop) : Prop := ∃ Q : List Nat, Q.Nodup ∧ (∀ v, v ∈ Q ↔ S v) ∧ ∀ m, m < Q.length → ¬ CrossAt G Q m
theorem outF_iff (G : List Nat) {s : Nat} (hs : s < 512) : (outF G s).isSome = true ↔ OO G (bset s) := by
 unfold outF
 constructor
 ·intro h
  obtain ⟨l, hl⟩ := Option.isSome_iff_exists.1 h
  obtain ⟨Q, h1, h2, h3, h4⟩ := outN_some G _ [] s l hs rfl hl
  rw [List.nil_append] at h1
  subst h1
  exact ⟨l, h2, h3, fun m hm => h4 m (by simp) hm⟩
 ·rintro ⟨Q, h1, h2, h3⟩
  cases h : outN G (pc s 9) [] s with
  | some l => rfl
  | none =>
   obtain ⟨m, _, h5, h6⟩ := outN_none G _ [] s hs rfl h Q h1 h2
   exact absurd h6 (h3 m (by simpa using h5))
theorem cr_adj {G Q : List Nat} {i j : Nat} : cr G Q i j = true ↔ Adj G (Q.getD i 0) (Q.getD j 0) := Iff.rfl
end Go.Proofs.YtjloppfdagfpmaaDoor.X
end
section
namespace Go.Proofs.YtjloppfdagfpmaaDoor.T
open Go.RowKit YtjloppfdagfpmaaDoorW.PrintWords YtjloppfdagfpmaaDoorW.PrintLast YtjloppfdagfpmaaDoorW.PrintMore
def Outr (S : Nat → Prop) (adj : Nat → Nat → Prop) (p : Nat → Nat) (K : Nat) : Prop :=
 (∀ x, S x → p x < K) ∧ (∀ x y, S x → S y → p x = p y → x = y) ∧ ∀ a b c d, S a → S b → S c → S d → p a < p b → p b < p c → p c < p d → adj a c → adj b d → False
theorem Outr.mono {S S' : Nat → Prop} {adj adj' : Nat → Nat → Prop} {p : Nat → Nat} {K : Nat} (h : Outr S adj p K) (hS : ∀ x, S' x → S x) (ha : ∀ x y, S' x → S' y → adj' x y → adj x y) : Outr S' adj' p K :=
 ⟨fun x hx => h.1 x (hS x hx), fun x y hx hy => h.2.1 x y (hS x hx) (hS y hy), fun a b c d h1 h2 h3 h4 h5 h6 h7 h8 h9 => h.2.2 a b c d (hS a h1) (hS b h2) (hS c h3) (hS d h4) h5 h6 h7 (ha _ _ h1 h3 h8) (ha _ _ h2 h4 h9)⟩
def Btw (a b c : Nat) : Prop := (a < c ∧ c < b) ∨ (b < c ∧ c < a)
theorem con_edge {adj : Nat → Nat → Prop} {S : Nat → Prop} {a b : Nat} (φ : Nat → Prop) (h : Con adj S (fun x => x = a) b) (ha : S a) (h1 : φ a) (h2 : ¬ φ b) : ∃ x y, S x ∧ S y ∧ adj x y ∧ φ x ∧ ¬ φ y := by
 induction h with
 | base h => rw [h] at h2; exact absurd h1 h2
 | @step d e hd hde he ih =>
  by_cases hφ : φ d
  ·refine ⟨d, e, ?_, he, hde, hφ, h2⟩
   rcases hd.inside with h | h
   ·rw [h]; exact ha
   ·exact h
  ·exact ih hφ
theorem Outr.cross {V : Nat → Prop} {adj : Nat → Nat → Prop} {p : Nat → Nat} {K : Nat} (hO : Outr V adj p K) (hs : ∀ x y, adj x y → adj y x) {x y u w : Nat} (hx : V x) (hy : V y) (hu : V u) (hw : V w) (hxy : adj x y) (huw : adj u w)
  (h1 : Btw (p x) (p y) (p u)) (h2 : ¬ Btw (p x) (p y) (p w)) (h3 : p w ≠ p x) (h4 : p w ≠ p y) : False := by
 unfold Btw at h1 h2
 have H := hO.2.2
 rcases h1 with ⟨h1, h1'⟩ | ⟨h1, h1'⟩
 ·by_cases h5 : p w < p x
  ·exact H w x u y hw hx hu hy h5 h1 h1' (hs _ _ huw) hxy
  ·exact H x u y w hx hu hy hw h1 h1' (by omega) hxy huw
 ·by_cases h5 : p w < p y
  ·exact H w y u x hw hy hu hx h5 h1 h1' (hs _ _ huw) (hs _ _ hxy)
  ·exact H y u x w hy hu hx hw h1 h1' (by omega) (hs _ _ hxy) huw
theorem Outr.weave {V : Nat → Prop} {adj : Nat → Nat → Prop} {p : Nat → Nat} {K : Nat} (hO : Outr V adj p K) (hs : ∀ x y, adj x y → adj y x) {A B : Nat → Prop} (hA : Conn adj A) (hB : Conn adj B) (hAV : ∀ x, A x → V x) (hBV : ∀ x, B x → V x)
  (hd : ∀ x, A x → B x → False) {a a' b b' : Nat} (ha : A a) (ha' : A a') (hb : B b) (hb' : B b') (h1 : Btw (p a) (p a') (p b)) : Btw (p a) (p a') (p b') := by
 apply Classical.byContradiction
 intro h2
 obtain ⟨x, y, hx, hy, hxy, h3, h4⟩ := con_edge (fun z => Btw (p a) (p a') (p z)) (hB.2 b b' hb hb') hb h1 h2
 have ne : ∀ {u w}, A u → B w → p u ≠ p w := fun {u w} hu hw e => hd u hu (by rw [hO.2.1 u w (hAV u hu) (hBV w hw) e]; exact hw)
 have n1 := ne ha hx
 have n2 := ne ha' hx
 have n3 := ne ha hy
 have n4 := ne ha' hy
 by_cases h5 : Btw (p x) (p y) (p a)
 ·have h6 : ¬ Btw (p x) (p y) (p a') := by unfold Btw at *; omega
  obtain ⟨u, w, hu, hw, huw, h7, h8⟩ := con_edge (fun z => Btw (p x) (p y) (p z)) (hA.2 a a' ha ha') ha h5 h6
  exact hO.cross hs (hBV x hx) (hBV y hy) (hAV u hu) (hAV w hw) hxy huw h7 h8 (ne hw hx) (ne hw hy)
 ·have h6 : Btw (p x) (p y) (p a') := by unfold Btw at *; omega
  obtain ⟨u, w, hu, hw, huw, h7, h8⟩ := con_edge (fun z => Btw (p x) (p y) (p z)) (hA.2 a' a ha' ha) ha' h6 h5
  exact hO.cross hs (hBV x hx) (hBV y hy) (hAV u hu) (hAV w hw) hxy huw h7 h8 (ne hw hx) (ne hw hy)
theorem conn_or {adj : Nat → Nat → Prop} (hs : ∀ x y, adj x y → adj y x) {A B : Nat → Prop} (hA : Conn adj A) (hB : Conn adj B) {x y : Nat} (hx : A x) (hy : B y) (hxy : adj x y) : Conn adj (fun z => A z ∨ B z) := by
 refine ⟨⟨x, .inl hx⟩, ?_⟩
 rintro a b (ha | ha) (hb | hb)
 ·exact (hA.2 a b ha hb).mono (fun _ h => .inl h) fun _ h => h
 ·have h1 : Con adj (fun z => A z ∨ B z) (fun z => z = a) x := (hA.2 a x ha hx).mono (fun _ h => .inl h) fun _ h => h
  exact con_trans (.step h1 hxy (.inr hy)) ((hB.2 y b hy hb).mono (fun _ h => .inr h) fun _ h => h)
 ·have h1 : Con adj (fun z => A z ∨ B z) (fun z => z = a) y := (hB.2 a y ha hy).mono (fun _ h => .inr h) fun _ h => h
  exact con_trans (.step h1 (hs _ _ hxy) (.inl hx)) ((hA.2 x b hx hb).mono (fun _ h => .inl h) fun _ h => h)
 ·exact (hB.2 a b ha hb).mono (fun _ h => .inr h) fun _ h => h
theorem four_places {a b c d : Nat} (h1 : a ≠ b) (h2 : a ≠ c) (h3 : a ≠ d) (h4 : b ≠ c) (h5 : b ≠ d) (h6 : c ≠ d) (p1 : Btw a b c ↔ Btw a b d) (p2 : Btw a c b ↔ Btw a c d) (p3 : Btw a d b ↔ Btw a d c) : False := by
 by_cases q1 : Btw a b c <;> by_cases q2 : Btw a c b <;> by_cases q3 : Btw a d b <;> simp only [q1, q2, q3, true_iff, false_iff] at p1 p2 p3 <;> unfold Btw at * <;> omega
theorem same_side {a b c d : Nat} (h1 : a ≠ b) (h2 : a ≠ c) (h3 : a ≠ d) (h4 : b ≠ c) (h5 : b ≠ d) (h6 : c ≠ d) (p1 : Btw a b c ↔ Btw a b d) (p2 : Btw a c b ↔ Btw a c d) (p3 : Btw a d b ↔ Btw a d c) : False := four_places h1 h2 h3 h4 h5 h6 p1 p2 p3
def Pe23 (i j : Nat) : Prop := (i < 2 ∧ 2 ≤ j) ∨ (j < 2 ∧ 2 ≤ i)
section
variable {V : Nat → Prop} {adj : Nat → Nat → Prop} {p : Nat → Nat} {K : Nat} (hO : Outr V adj p K) (hs : ∀ x y, adj x y → adj y x)
include hO hs
theorem Outr.pair {k : Nat} {pe : Nat → Nat → Prop} {M : Nat → Nat → Prop} (h1 : ∀ i, i < k → Conn adj (M i) ∧ ∀ x, M i x → V x) (h2 : ∀ i j x, i < k → j < k → M i x → M j x → i = j) (h3 : ∀ i j, i < k → j < k → pe i j → ∃ x y, M i x ∧ M j y ∧ adj x y)
  {i j a b : Nat} (hi : i < k) (hj : j < k) (ha : a < k) (hb : b < k) (hij : pe i j) (hab : pe a b) (n1 : i ≠ a) (n2 : i ≠ b) (n3 : j ≠ a) (n4 : j ≠ b) {xi xj xa xb : Nat} (mi : M i xi) (mj : M j xj) (ma : M a xa) (mb : M b xb)
  (h : Btw (p xi) (p xj) (p xa)) : Btw (p xi) (p xj) (p xb) := by
 obtain ⟨u, w, hu, hw, huw⟩ := h3 i j hi hj hij
 obtain ⟨u', w', hu', hw', huw'⟩ := h3 a b ha hb hab
 refine hO.weave hs (conn_or hs (h1 i hi).1 (h1 j hj).1 hu hw huw) (conn_or hs (h1 a ha).1 (h1 b hb).1 hu' hw' huw') ?_ ?_ ?_ (.inl mi) (.inr mj) (.inl ma) (.inr mb) h
 ·rintro x (h | h)
  ·exact (h1 i hi).2 x h
  ·exact (h1 j hj).2 x h
 ·rintro x (h | h)
  ·exact (h1 a ha).2 x h
  ·exact (h1 b hb).2 x h
 ·rintro x (h | h) (h' | h')
  ·exact n1 (h2 i a x hi ha h h')
  ·exact n2 (h2 i b x hi hb h h')
  ·exact n3 (h2 j a x hj ha h h')
  ·exact n4 (h2 j b x hj hb h h')
theorem Outr.no_k4 : ¬ Mnr V adj 4 (fun i j => i ≠ j) := by
 rintro ⟨M, h1, h2, h3⟩
 obtain ⟨x0, m0⟩ := (h1 0 (by omega)).1.1
 obtain ⟨x1, m1⟩ := (h1 1 (by omega)).1.1
 obtain ⟨x2, m2⟩ := (h1 2 (by omega)).1.1
 obtain ⟨x3, m3⟩ := (h1 3 (by omega)).1.1
 have ne : ∀ {i j x y}, i < 4 → j < 4 → i ≠ j → M i x → M j y → p x ≠ p y := fun {i j x y} hi hj hij hx hy e => hij (h2 i j x hi hj hx (by rw [hO.2.1 x y ((h1 i hi).2 x hx) ((h1 j hj).2 y hy) e]; exact hy))
 have e01 := ne (by omega) (by omega) (by omega) m0 m1
 have e02 := ne (by omega) (by omega) (by omega) m0 m2
 have e03 := ne (by omega) (by omega) (by omega) m0 m3
 have e12 := ne (by omega) (by omega) (by omega) m1 m2
 have e13 := ne (by omega) (by omega) (by omega) m1 m3
 have e23 := ne (by omega) (by omega) (by omega) m2 m3
 have a1 := hO.pair hs h1 h2 h3 (i := 0) (j := 1) (a := 2) (b := 3) (by omega) (by omega) (by omega) (by omega) (by omega) (by omega) (by omega) (by omega) (by omega) (by omega) m0 m1 m2 m3
 have a2 := hO.pair hs h1 h2 h3 (i := 0) (j := 1) (a := 3) (b := 2) (by omega) (by omega) (by omega) (by omega) (by omega) (by omega) (by omega) (by omega) (by omega) (by omega) m0 m1 m3 m2
 have b1 := hO.pair hs h1 h2 h3 (i := 0) (j := 2) (a := 1) (b := 3) (by omega) (by omega) (by omega) (by omega) (by omega) (by omega) (by omega) (by omega) (by omega) (by omega) m0 m2 m1 m3
 have b2 := hO.pair hs h1 h2 h3 (i := 0) (j := 2) (a := 3) (b := 1) (by omega) (by omega) (by omega) (by omega) (by omega) (by omega) (by omega) (by omega) (by omega) (by omega) m0 m2 m3 m1
 have c1 := hO.pair hs h1 h2 h3 (i := 0) (j := 3) (a := 1) (b := 2) (by omega) (by omega) (by omega) (by omega) (by omega) (by omega) (by omega) (by omega) (by omega) (by omega) m0 m3 m1 m2
 have c2 := hO.pair hs h1 h2 h3 (i := 0) (j := 3) (a := 2) (b := 1) (by omega) (by omega) (by omega) (by omega) (by omega) (by omega) (by omega) (by omega) (by omega) (by omega) m0 m3 m2 m1
 clear ne h1 h2 h3 m0 m1 m2 m3 hO
 exact four_places e01 e02 e03 e12 e13 e23 ⟨a1, a2⟩ ⟨b1, b2⟩ ⟨c1, c2⟩
theorem Outr.no_k23 : ¬ Mnr V adj 5 Pe23 := by
 rintro ⟨M, h1, h2, h3⟩
 obtain ⟨x0, m0⟩ := (h1 0 (by omega)).1.1
 obtain ⟨x1, m1⟩ := (h1 1 (by omega)).1.1
 have ne : ∀ {i j x y}, i < 5 → j < 5 → i ≠ j → M i x → M j y → p x ≠ p y := fun {i j x y} hi hj hij hx hy e => hij (h2 i j x hi hj hx (by rw [hO.2.1 x y ((h1 i hi).2 x hx) ((h1 j hj).2 y hy) e]; exact hy))
 have key : ∀ {i j x y}, 2 ≤ i → i < 5 → 2 ≤ j → j < 5 → i ≠ j → M i x → M j y → (Btw (p x0) (p x1) (p x) ↔ Btw (p x0) (p x1) (p y)) → False := by
  intro i j x y hi hi5 hj hj5 hij hx hy hsame
  have e01 := ne (by omega) (by omega) (by omega) m0 m1
  have e0x := ne (by omega) hi5 (by omega) m0 hx
  have e0y := ne (by omega) hj5 (by omega) m0 hy
  have e1x := ne (by omega) hi5 (by omega) m1 hx
  have e1y := ne (by omega) hj5 (by omega) m1 hy
  have exy := ne hi5 hj5 hij hx hy
  have a1 := hO.pair hs h1 h2 h3 (i := 0) (j := i) (a := 1) (b := j) (by omega) hi5 (by omega) hj5 (.inl ⟨by omega, hi⟩) (.inl ⟨by omega, hj⟩) (by omega) (by omega) (by omega) hij m0 hx m1 hy
  have a2 := hO.pair hs h1 h2 h3 (i := 0) (j := i) (a := j) (b := 1) (by omega) hi5 hj5 (by omega) (.inl ⟨by omega, hi⟩) (.inr ⟨by omega, hj⟩) (by omega) (by omega) hij (by omega) m0 hx hy m1
  have b1 := hO.pair hs h1 h2 h3 (i := 0) (j := j) (a := 1) (b := i) (by omega) hj5 (by omega) hi5 (.inl ⟨by omega, hj⟩) (.inl ⟨by omega, hi⟩) (by omega) (by omega) (by omega) (Ne.symm hij) m0 hy m1 hx
  have b2 := hO.pair hs h1 h2 h3 (i := 0) (j := j) (a := i) (b := 1) (by omega) hj5 hi5 (by omega) (.inl ⟨by omega, hj⟩) (.inr ⟨by omega, hi⟩) (by omega) (by omega) (Ne.symm hij) (by omega) m0 hy hx m1
  clear ne h1 h2 h3 m0 m1 hx hy hO
  exact same_side e01 e0x e0y e1x e1y exy hsame ⟨a1, a2⟩ ⟨b1, b2⟩
 obtain ⟨x2, m2⟩ := (h1 2 (by omega)).1.1
 obtain ⟨x3, m3⟩ := (h1 3 (by omega)).1.1
 obtain ⟨x4, m4⟩ := (h1 4 (by omega)).1.1
 have k23 := key (by omega) (by omega) (by omega) (by omega) (by omega) m2 m3
 have k24 := key (by omega) (by omega) (by omega) (by omega) (by omega) m2 m4
 have k34 := key (by omega) (by omega) (by omega) (by omega) (by omega) m3 m4
 by_cases b2 : Btw (p x0) (p x1) (p x2) <;> by_cases b3 : Btw (p x0) (p x1) (p x3) <;> by_cases b4 : Btw (p x0) (p x1) (p x4) <;> simp only [b2, b3, b4] at k23 k24 k34 <;> simp at k23 k24 k34
theorem Outr.turn {c : Nat} (hc : V c) : Outr V adj (fun x => if p c ≤ p x then p x - p c else p x + K - p c) K := by
 have hcK := hO.1 c hc
 refine ⟨fun x hx => ?_, fun x y hx hy e => ?_, fun x y z t hx hy hz ht h1 h2 h3 hxz hyt => ?_⟩
 ·have := hO.1 x hx
  show (if p c ≤ p x then p x - p c else p x + K - p c) < K
  split <;> omega
 ·have h1 := hO.1 x hx
  have h2 := hO.1 y hy
  refine hO.2.1 x y hx hy ?_
  have e : (if p c ≤ p x then p x - p c else p x + K - p c) = (if p c ≤ p y then p y - p c else p y + K - p c) := e
  split at e <;> split at e <;> omega
 ·have b1 := hO.1 x hx
  have b2 := hO.1 y hy
  have b3 := hO.1 z hz
  have b4 := hO.1 t ht
  have H := hO.2.2
  have h1 : (if p c ≤ p x then p x - p c else p x + K - p c) < (if p c ≤ p y then p y - p c else p y + K - p c) := h1
  have h2 : (if p c ≤ p y then p y - p c else p y + K - p c) < (if p c ≤ p z then p z - p c else p z + K - p c) := h2
  have h3 : (if p c ≤ p z then p z - p c else p z + K - p c) < (if p c ≤ p t then p t - p c else p t + K - p c) := h3
  by_cases c1 : p c ≤ p x
  ·rw [if_pos c1] at h1
   by_cases c2 : p c ≤ p y
   ·rw [if_pos c2] at h1 h2
    by_cases c3 : p c ≤ p z
    ·rw [if_pos c3] at h2 h3
     by_cases c4 : p c ≤ p t
     ·rw [if_pos c4] at h3
      exact H x y z t hx hy hz ht (by omega) (by omega) (by omega) hxz hyt
     ·exact H t x y z ht hx hy hz (by omega) (by omega) (by omega) (hs _ _ hyt) hxz
    ·rw [if_neg c3] at h2 h3
     have c4 : ¬ p c ≤ p t := fun h => by rw [if_pos h] at h3; omega
     rw [if_neg c4] at h3
     exact H z t x y hz ht hx hy (by omega) (by omega) (by omega) (hs _ _ hxz) (hs _ _ hyt)
   ·rw [if_neg c2] at h1 h2
    have c3 : ¬ p c ≤ p z := fun h => by rw [if_pos h] at h2; omega
    rw [if_neg c3] at h2 h3
    have c4 : ¬ p c ≤ p t := fun h => by rw [if_pos h] at h3; omega
    rw [if_neg c4] at h3
    exact H y z t x hy hz ht hx (by omega) (by omega) (by omega) hyt (hs _ _ hxz)
  ·rw [if_neg c1] at h1
   have c2 : ¬ p c ≤ p y := fun h => by rw [if_pos h] at h1; omega
   rw [if_neg c2] at h1 h2
   have c3 : ¬ p c ≤ p z := fun h => by rw [if_pos h] at h2; omega
   rw [if_neg c3] at h2 h3
   have c4 : ¬ p c ≤ p t := fun h => by rw [if_pos h] at h3; omega
   rw [if_neg c4] at h3
   exact H x y z t hx hy hz ht (by omega) (by omega) (by omega) hxz hyt
end
theorem outr_glue {S1 S2 : Nat → Prop} {adj : Nat → Nat → Prop} (hs : ∀ x y, adj x y → adj y x) {p1 p2 : Nat → Nat} {K1 K2 c : Nat} (h1 : Outr S1 adj p1 K1) (h2 : Outr S2 adj p2 K2) (hc1 : S1 c) (hc2 : S2 c) (hi : ∀ x, S1 x → S2 x → x = c)
  (he : ∀ x y, S1 x → S2 y → adj x y → x = c ∨ y = c) : ∃ p K, Outr (fun x => S1 x ∨ S2 x) adj p K := by
 classical
 have ht := h2.turn hs hc2
 obtain ⟨q, hq⟩ : ∃ q : Nat → Nat, q = fun x => if p2 c ≤ p2 x then p2 x - p2 c else p2 x + K2 - p2 c := ⟨_, rfl⟩
 rw [← hq] at ht
 have hqc : q c = 0 := by rw [hq]; simp
 clear hq h2
 have hq0 : ∀ x, S2 x → x ≠ c → 0 < q x := fun x hx hne => Nat.pos_of_ne_zero fun e => hne (ht.2.1 x c hx hc2 (by rw [e, hqc]))
 have P1 : ∀ x, S1 x → ((if S1 x then (if p1 x ≤ p1 c then p1 x else p1 x + K2) else p1 c + q x) = p1 x ∧ p1 x ≤ p1 c) ∨ ((if S1 x then (if p1 x ≤ p1 c then p1 x else p1 x + K2) else p1 c + q x) = p1 x + K2 ∧ p1 c < p1 x) := fun x hx => by
  rw [if_pos hx]
  by_cases h : p1 x ≤ p1 c
  ·rw [if_pos h]; exact .inl ⟨rfl, h⟩
  ·rw [if_neg h]; exact .inr ⟨rfl, by omega⟩
 have P2 : ∀ x, S2 x → (if S1 x then (if p1 x ≤ p1 c then p1 x else p1 x + K2) else p1 c + q x) = p1 c + q x := fun x hx => by
  by_cases h : S1 x
  ·have := hi x h hx
   subst this
   rw [if_pos h, if_pos (Nat.le_refl _), hqc]; rfl
  ·rw [if_neg h]
 obtain ⟨p, hp⟩ : ∃ p : Nat → Nat, p = fun x => if S1 x then (if p1 x ≤ p1 c then p1 x else p1 x + K2) else p1 c + q x := ⟨_, rfl⟩
 have P1 : ∀ x, S1 x → (p x = p1 x ∧ p1 x ≤ p1 c) ∨ (p x = p1 x + K2 ∧ p1 c < p1 x) := fun x hx => by rw [hp]; exact P1 x hx
 have P2 : ∀ x, S2 x → p x = p1 c + q x := fun x hx => by rw [hp]; exact P2 x hx
 clear hp
 have hK2 : ∀ x, S2 x → q x < K2 := ht.1
 have side : ∀ x y, (S1 x ∨ S2 x) → (S1 y ∨ S2 y) → adj x y → (S1 x ∧ S1 y) ∨ (S2 x ∧ S2 y) := by
  rintro x y (hx | hx) (hy | hy) hxy
  ·exact .inl ⟨hx, hy⟩
  ·rcases he x y hx hy hxy with rfl | rfl
   ·exact .inr ⟨hc2, hy⟩
   ·exact .inl ⟨hx, hc1⟩
  ·rcases he y x hy hx (hs _ _ hxy) with rfl | rfl
   ·exact .inr ⟨hx, hc2⟩
   ·exact .inl ⟨hc1, hy⟩
  ·exact .inr ⟨hx, hy⟩
 refine ⟨p, K1 + K2, ?_, ?_, ?_⟩
 ·rintro x (hx | hx)
  ·have := h1.1 x hx
   rcases P1 x hx with h | h <;> omega
  ·have := h1.1 c hc1
   have := hK2 x hx
   rw [P2 x hx]; omega
 ·rintro x y (hx | hx) (hy | hy) e
  ·refine h1.2.1 x y hx hy ?_
   rcases P1 x hx with h | h <;> rcases P1 y hy with h' | h' <;> omega
  ·by_cases hyc : y = c
   ·subst hyc
    refine h1.2.1 x y hx hc1 ?_
    rw [P2 y hc2, hqc] at e
    rcases P1 x hx with h | h <;> omega
   ·have := hq0 y hy hyc
    have := hK2 y hy
    rw [P2 y hy] at e
    rcases P1 x hx with h | h <;> omega
  ·by_cases hxc : x = c
   ·subst hxc
    refine (h1.2.1 y x hy hc1 ?_).symm
    rw [P2 x hc2, hqc] at e
    rcases P1 y hy with h | h <;> omega
   ·have := hq0 x hx hxc
    have := hK2 x hx
    rw [P2 x hx] at e
    rcases P1 y hy with h | h <;> omega
  ·refine ht.2.1 x y hx hy ?_
   rw [P2 x hx, P2 y hy] at e
   omega
 ·intro x y z t hx hy hz hT g1 g2 g3 hxz hyt
  rcases side x z hx hz hxz with ⟨hx, hz⟩ | ⟨hx, hz⟩ <;> rcases side y t hy hT hyt with ⟨hy, hT⟩ | ⟨hy, hT⟩
  ·refine h1.2.2 x y z t hx hy hz hT ?_ ?_ ?_ hxz hyt
   ·rcases P1 x hx with h | h <;> rcases P1 y hy with h' | h' <;> omega
   ·rcases P1 y hy with h | h <;> rcases P1 z hz with h' | h' <;> omega
   ·rcases P1 z hz with h | h <;> rcases P1 t hT with h' | h' <;> omega
  ·have a1 := P2 y hy
   have a2 := P2 t hT
   have a3 := hK2 t hT
   rcases P1 z hz with h | h <;> omega
  ·have a1 := P2 x hx
   have a2 := P2 z hz
   have a3 := hK2 z hz
   rcases P1 y hy with h | h <;> omega
  ·have a1 := P2 x hx
   have a2 := P2 y hy
   have a3 := P2 z hz
   have a4 := P2 t hT
   exact ht.2.2 x y z t hx hy hz hT (by omega) (by omega) (by omega) hxz hyt
theorem con_from {adj : Nat → Nat → Prop} {w s : Nat → Prop} {x : Nat} (h : Con adj w s x) : ∃ z, s z ∧ Con adj w (fun y => y = z) x := by
 induction h with
 | base h => exact ⟨_, h, .base rfl⟩
 | step _ a hw ih =>
  obtain ⟨z, h1, h2⟩ := ih
  exact ⟨z, h1, .step h2 a hw⟩
theorem con_back {adj : Nat → Nat → Prop} (hs : ∀ x y, adj x y → adj y x) {w : Nat → Prop} {a b : Nat} (ha : w a) (h : Con adj w (fun x => x = a) b) : Con adj w (fun x => x = b) a := by
 induction h with
 | base h => exact .base h.symm
 | @step y z hy adj' hz ih =>
  have hyw : w y := by
   rcases hy.inside with h | h
   ·rw [h]; exact ha
   ·exact h
  exact con_trans (.step (.base rfl) (hs _ _ adj') hyw) ih
theorem conn_reach {adj : Nat → Nat → Prop} (hs : ∀ x y, adj x y → adj y x) {w : Nat → Prop} {z : Nat} (hz : w z) : Conn adj (fun y => Con adj w (fun x => x = z) y) ∧ ∀ y, Con adj w (fun x => x = z) y → w y := by
 have hin : ∀ y, Con adj w (fun x => x = z) y → w y := fun y hy => by
  rcases hy.inside with h | h
  ·rw [h]; exact hz
  ·exact h
 have self : ∀ y, Con adj w (fun x => x = z) y → Con adj (fun y => Con adj w (fun x => x = z) y) (fun x => x = z) y := by
  intro y hy
  induction hy with
  | base h => exact .base h
  | step h a hw ih => exact .step ih a (.step h a hw)
 exact ⟨⟨⟨z, .base rfl⟩, fun a b ha hb => con_trans (con_back hs (.base rfl) (self a ha)) (self b hb)⟩, hin⟩
def Links (adj : Nat → Nat → Prop) (I : Nat → Prop) (a b : Nat) : Prop := ∃ C, Conn adj C ∧ (∀ x, C x → I x) ∧ (∃ x, C x ∧ adj a x) ∧ ∃ x, C x ∧ adj b x
section
variable {S : Nat → Prop} {adj adj' : Nat → Nat → Prop} (hs : ∀ x y, adj x y → adj y x) (hs' : ∀ x y, adj' x y → adj' y x) {v a b : Nat} (hvS : ¬ S v) (haS : S a) (hbS : S b) (hab : a ≠ b)
 (hsub : ∀ x y, S x → S y → adj x y → adj' x y) (hab' : adj' a b) (hva : ∀ x, adj v x → x = a ∨ x = b)
include hs hs' hvS haS hbS hab hsub hab' hva
theorem outr_in {p : Nat → Nat} {K : Nat} (hO : Outr S adj' p K) (hlt : p a < p b) (hI : ¬ Links adj (fun x => S x ∧ p a < p x ∧ p x < p b) a b) : ∃ q K', Outr (fun x => S x ∨ x = v) adj q K' := by
 classical
 have hav : a ≠ v := fun e => hvS (e ▸ haS)
 have hbv : b ≠ v := fun e => hvS (e ▸ hbS)
 have hio : ∀ x y, S x → S y → p a < p x → p x < p b → (p y < p a ∨ p b < p y) → ¬ adj x y := fun x y hx hy h1 h2 h3 hxy => by
  rcases h3 with h3 | h3
  ·exact hO.2.2 y a x b hy haS hx hbS h3 h1 h2 (hs' _ _ (hsub _ _ hx hy hxy)) hab'
  ·exact hO.2.2 a x b y haS hx hbS hy h1 h2 h3 hab' (hsub _ _ hx hy hxy)
 let I : Nat → Prop := fun x => S x ∧ p a < p x ∧ p x < p b
 let A : Nat → Prop := fun x => I x ∧ Con adj I (fun z => I z ∧ adj a z) x
 let B : Nat → Prop := fun x => I x ∧ ¬ Con adj I (fun z => I z ∧ adj a z) x
 have hAb : ∀ x, A x → ¬ adj x b := fun x hx hxb => by
  obtain ⟨z, hz, hzx⟩ := con_from hx.2
  have := conn_reach hs hz.1 (adj := adj)
  exact hI ⟨_, this.1, this.2, ⟨z, .base rfl, hz.2⟩, x, hzx, hs _ _ hxb⟩
 have hAB : ∀ x y, A x → B y → ¬ adj x y := fun x y hx hy hxy => hy.2 (.step hx.2 hxy hy.1)
 have haB : ∀ y, B y → ¬ adj a y := fun y hy h => hy.2 (.base ⟨hy.1, h⟩)
 obtain ⟨q, hv, hvv⟩ : ∃ q : Nat → Nat, (∀ x, S x → q x = 2 * p x) ∧ q v = 2 * p a + 1 := ⟨fun x => if x = v then 2 * p a + 1 else 2 * p x, fun x hx => if_neg fun e => hvS (by rw [← e]; exact hx), if_pos rfl⟩
 have hnoI : ∀ x, S x → ¬ I x → ¬ (p a < p x ∧ p x < p b) := fun x hx h h2 => h ⟨hx, h2.1, h2.2⟩
 have val : ∀ x, (S x ∧ ¬ I x) ∨ x = v → (x = v ∧ q x = 2 * p a + 1) ∨ (x ≠ v ∧ S x ∧ ¬ (p a < p x ∧ p x < p b) ∧ q x = 2 * p x) := fun x hx => by
  rcases hx with ⟨h1, h2⟩ | h
  ·exact .inr ⟨fun e => hvS (by rw [← e]; exact h1), h1, hnoI x h1 h2, hv x h1⟩
  ·exact .inl ⟨h, by rw [h, hvv]⟩
 have haK := hO.1 a haS
 have o1 : Outr (fun x => (S x ∧ ¬ I x) ∨ x = v) adj q (2 * K + 2) := by
  refine ⟨fun x hx => ?_, fun x y hx hy e => ?_, fun x y z t hx hy hz ht g1 g2 g3 hxz hyt => ?_⟩
  ·rcases val x hx with ⟨_, h⟩ | ⟨_, h1, _, h⟩
   ·omega
   ·have := hO.1 x h1; omega
  ·rcases val x hx with ⟨e1, h⟩ | ⟨_, h1, _, h⟩ <;> rcases val y hy with ⟨e2, h'⟩ | ⟨_, h1', _, h'⟩
   ·rw [e1, e2]
   ·omega
   ·omega
   ·exact hO.2.1 x y h1 h1' (by omega)
  ·rcases val x hx with ⟨ex, vx⟩ | ⟨nx, sx, ix, vx⟩ <;> rcases val y hy with ⟨ey, vy⟩ | ⟨ny, sy, iy, vy⟩ <;> rcases val z hz with ⟨ez, vz⟩ | ⟨nz, sz, iz, vz⟩ <;> rcases val t ht with ⟨et, vt⟩ | ⟨nt, st, it, vt⟩ <;> try omega
   ·rw [ex] at hxz
    rcases hva z hxz with h | h
    ·have := congrArg p h; omega
    ·have := congrArg p h; omega
   ·rw [ey] at hyt
    rcases hva t hyt with h | h
    ·have := congrArg p h; omega
    ·have := congrArg p h; omega
   ·rw [ez] at hxz
    rcases hva x (hs _ _ hxz) with h | h
    ·have := congrArg p h; omega
    ·have := congrArg p h; omega
   ·rw [et] at hyt
    rcases hva y (hs _ _ hyt) with h | h
    ·have := congrArg p h; omega
    ·have := congrArg p h; omega
   ·exact hO.2.2 x y z t sx sy sz st (by omega) (by omega) (by omega) (hsub _ _ sx sz hxz) (hsub _ _ sy st hyt)
 have oA : Outr (fun x => A x ∨ x = a) adj p K := hO.mono (fun x hx => hx.elim (fun h => h.1.1) fun h => by rw [h]; exact haS) fun x y hx hy hxy => hsub x y (hx.elim (fun h => h.1.1) fun h => by rw [h]; exact haS) (hy.elim (fun h => h.1.1) fun h => by rw [h]; exact haS) hxy
 have oB : Outr (fun x => B x ∨ x = b) adj p K := hO.mono (fun x hx => hx.elim (fun h => h.1.1) fun h => by rw [h]; exact hbS) fun x y hx hy hxy => hsub x y (hx.elim (fun h => h.1.1) fun h => by rw [h]; exact hbS) (hy.elim (fun h => h.1.1) fun h => by rw [h]; exact hbS) hxy
 have haI : ¬ I a := fun h => by have := h.2.1; omega
 have hbI : ¬ I b := fun h => by have := h.2.2; omega
 have hvI : ¬ I v := fun h => hvS h.1
 have hout : ∀ x, S x → ¬ I x → x ≠ a → x ≠ b → p x < p a ∨ p b < p x := fun x hx hn h1 h2 => by
  have e1 : p x ≠ p a := fun e => h1 (hO.2.1 x a hx haS e)
  have e2 : p x ≠ p b := fun e => h2 (hO.2.1 x b hx hbS e)
  have : ¬ (p a < p x ∧ p x < p b) := fun h => hn ⟨hx, h.1, h.2⟩
  omega
 have hvx : ∀ x, I x → ¬ adj v x := fun x hx h => by
  rcases hva x h with rfl | rfl
  ·exact haI hx
  ·exact hbI hx
 have hOI : ∀ x y, ((S x ∧ ¬ I x) ∨ x = v) → I y → adj x y → x = a ∨ x = b := by
  rintro x y (⟨hx, hn⟩ | rfl) hy hxy
  ·apply Classical.byContradiction
   intro h
   rw [not_or] at h
   exact hio y x hy.1 hx hy.2.1 hy.2.2 (hout x hx hn h.1 h.2) (hs _ _ hxy)
  ·exact absurd hxy (hvx y hy)
 obtain ⟨q1, L1, g1⟩ := outr_glue hs o1 oA (c := a) (.inl ⟨haS, haI⟩) (.inr rfl) (by
  rintro x (⟨hx, hn⟩ | rfl) (h | h)
  ·exact absurd h.1 hn
  ·exact h
  ·exact absurd h.1 hvI
  ·exact absurd h.symm hav) (by
  rintro x y hx (hy | hy) hxy
  ·rcases hOI x y hx hy.1 hxy with h | h
   ·exact .inl h
   ·subst h
    exact absurd (hs _ _ hxy) (hAb y hy)
  ·exact .inr hy)
 obtain ⟨q2, L2, g2⟩ := outr_glue hs g1 oB (c := b) (.inl (.inl ⟨hbS, hbI⟩)) (.inr rfl) (by
  rintro x ((⟨hx, hn⟩ | rfl) | (hx | rfl)) (h | h)
  ·exact absurd h.1 hn
  ·exact h
  ·exact absurd h.1 hvI
  ·exact absurd h.symm hbv
  ·exact absurd hx.2 h.2
  ·exact h
  ·exact absurd h.1 haI
  ·exact h) (by
  rintro x y (hx | (hx | hx)) (hy | hy) hxy
  ·rcases hOI x y hx hy.1 hxy with h | h
   ·subst h; exact absurd hxy (haB y hy)
   ·exact .inl h
  ·exact .inr hy
  ·exact absurd hxy (hAB x y hx hy)
  ·exact .inr hy
  ·subst hx; exact absurd hxy (haB y hy)
  ·exact .inr hy)
 refine ⟨q2, L2, g2.mono (fun x hx => ?_) fun _ _ _ _ h => h⟩
 rcases hx with hx | rfl
 ·by_cases hI' : I x
  ·by_cases hc : Con adj I (fun z => I z ∧ adj a z) x
   ·exact .inl (.inr (.inl ⟨hI', hc⟩))
   ·exact .inr (.inl ⟨hI', hc⟩)
  ·exact .inl (.inl (.inl ⟨hx, hI'⟩))
 ·exact .inl (.inl (.inr rfl))
theorem outr_two (hvav : adj v a) (hvbv : adj v b) (h23 : ¬ Mnr (fun x => S x ∨ x = v) adj 5 Pe23) {p : Nat → Nat} {K : Nat} (hO : Outr S adj' p K) : ∃ q K', Outr (fun x => S x ∨ x = v) adj q K' := by
 classical
 have hav : a ≠ v := fun e => hvS (e ▸ haS)
 have hbv : b ≠ v := fun e => hvS (e ▸ hbS)
 have key : ∀ I J : Nat → Prop, (∀ x, I x → S x ∧ x ≠ a ∧ x ≠ b) → (∀ x, J x → S x ∧ x ≠ a ∧ x ≠ b) → (∀ x, I x → J x → False) → Links adj I a b → Links adj J a b → False := by
  rintro I J hI hJ hIJ ⟨C, c1, c2, ⟨x1, c3, c4⟩, x2, c5, c6⟩ ⟨D, d1, d2, ⟨y1, d3, d4⟩, y2, d5, d6⟩
  apply h23
  have lab : ∀ i x, i < 5 → (match i with | 0 => x = a | 1 => x = b | 2 => x = v | 3 => C x | _ => D x) → i = if x = a then 0 else if x = b then 1 else if x = v then 2 else if C x then 3 else 4 := by
   intro i x hi h
   match i, hi, h with
   | 0, _, h =>
    have h : x = a := h
    rw [if_pos h]
   | 1, _, h =>
    have h : x = b := h
    rw [if_neg (by rw [h]; exact Ne.symm hab), if_pos h]
   | 2, _, h =>
    have h : x = v := h
    rw [if_neg (by rw [h]; exact Ne.symm hav), if_neg (by rw [h]; exact Ne.symm hbv), if_pos h]
   | 3, _, h =>
    have h : C x := h
    have hi := hI x (c2 x h)
    rw [if_neg hi.2.1, if_neg hi.2.2, if_neg (fun e => hvS (by rw [← e]; exact hi.1)), if_pos h]
   | 4, _, h =>
    have h : D x := h
    have hj := hJ x (d2 x h)
    rw [if_neg hj.2.1, if_neg hj.2.2, if_neg (fun e => hvS (by rw [← e]; exact hj.1)), if_neg (fun hc => hIJ x (c2 x hc) (d2 x h))]
  refine ⟨fun i x => match i with | 0 => x = a | 1 => x = b | 2 => x = v | 3 => C x | _ => D x, ?_, ?_, ?_⟩
  ·intro i hi
   match i, hi with
   | 0, _ => exact ⟨conn_one adj a, fun x h => .inl (by rw [show x = a from h]; exact haS)⟩
   | 1, _ => exact ⟨conn_one adj b, fun x h => .inl (by rw [show x = b from h]; exact hbS)⟩
   | 2, _ => exact ⟨conn_one adj v, fun x h => .inr h⟩
   | 3, _ => exact ⟨c1, fun x h => .inl (hI x (c2 x h)).1⟩
   | 4, _ => exact ⟨d1, fun x h => .inl (hJ x (d2 x h)).1⟩
  ·intro i j x hi hj h1 h2
   rw [lab i x hi h1, ← lab j x hj h2]
  ·intro i j hi hj hp
   match i, j, hi, hj, hp with
   | 0, 2, _, _, _ => exact ⟨a, v, rfl, rfl, hs _ _ hvav⟩
   | 0, 3, _, _, _ => exact ⟨a, x1, rfl, c3, c4⟩
   | 0, 4, _, _, _ => exact ⟨a, y1, rfl, d3, d4⟩
   | 1, 2, _, _, _ => exact ⟨b, v, rfl, rfl, hs _ _ hvbv⟩
   | 1, 3, _, _, _ => exact ⟨b, x2, rfl, c5, c6⟩
   | 1, 4, _, _, _ => exact ⟨b, y2, rfl, d5, d6⟩
   | 2, 0, _, _, _ => exact ⟨v, a, rfl, rfl, hvav⟩
   | 3, 0, _, _, _ => exact ⟨x1, a, c3, rfl, hs _ _ c4⟩
   | 4, 0, _, _, _ => exact ⟨y1, a, d3, rfl, hs _ _ d4⟩
   | 2, 1, _, _, _ => exact ⟨v, b, rfl, rfl, hvbv⟩
   | 3, 1, _, _, _ => exact ⟨x2, b, c5, rfl, hs _ _ c6⟩
   | 4, 1, _, _, _ => exact ⟨y2, b, d5, rfl, hs _ _ d6⟩
   | 0, 0, _, _, hp => unfold Pe23 at hp; omega
   | 0, 1, _, _, hp => unfold Pe23 at hp; omega
   | 1, 0, _, _, hp => unfold Pe23 at hp; omega
   | 1, 1, _, _, hp => unfold Pe23 at hp; omega
   | 2, 2, _, _, hp => unfold Pe23 at hp; omega
   | 2, 3, _, _, hp => unfold Pe23 at hp; omega
   | 2, 4, _, _, hp => unfold Pe23 at hp; omega
   | 3, 2, _, _, hp => unfold Pe23 at hp; omega
   | 3, 3, _, _, hp => unfold Pe23 at hp; omega
   | 3, 4, _, _, hp => unfold Pe23 at hp; omega
   | 4, 2, _, _, hp => unfold Pe23 at hp; omega
   | 4, 3, _, _, hp => unfold Pe23 at hp; omega
   | 4, 4, _, _, hp => unfold Pe23 at hp; omega
 have hne : p a ≠ p b := fun e => hab (hO.2.1 a b haS hbS e)
 have goal : ∀ (p : Nat → Nat), Outr S adj' p K → p a < p b → ∃ q K', Outr (fun x => S x ∨ x = v) adj q K' := by
  intro p hO hlt
  by_cases hI : Links adj (fun x => S x ∧ p a < p x ∧ p x < p b) a b
  ·have hT := hO.turn hs' hbS
   have hbK := hO.1 b hbS
   obtain ⟨q, hq⟩ : ∃ q : Nat → Nat, q = fun x => if p b ≤ p x then p x - p b else p x + K - p b := ⟨_, rfl⟩
   rw [← hq] at hT
   have hqb : q b = 0 := by rw [hq]; simp
   have hqa : q a = p a + K - p b := by rw [hq]; simp only; rw [if_neg (by omega)]
   have := outr_in hs hs' hvS hbS haS (Ne.symm hab) hsub (hs' _ _ hab') (fun x h => (hva x h).symm) hT (by omega) fun hJ => ?_
   ·exact this
   ·refine key _ (fun x => S x ∧ q b < q x ∧ q x < q a) (fun x hx => ⟨hx.1, fun e => ?_, fun e => ?_⟩) (fun x hx => ⟨hx.1, fun e => ?_, fun e => ?_⟩) (fun x hx hy => ?_) hI ?_
    ·rw [e] at hx; omega
    ·rw [e] at hx; omega
    ·rw [e] at hx; omega
    ·rw [e] at hx; omega
    ·have : q x = p x + K - p b := by rw [hq]; simp only; rw [if_neg (by omega)]
     omega
    ·obtain ⟨C, h1, h2, h3, h4⟩ := hJ
     exact ⟨C, h1, h2, h4, h3⟩
  ·exact outr_in hs hs' hvS haS hbS hab hsub hab' hva hO hlt hI
 by_cases hlt : p a < p b
 ·exact goal p hO hlt
 ·-- turn so that a comes first
  have hT := hO.turn hs' haS
  refine goal _ hT ?_
  have := hO.1 b hbS
  have := hO.1 a haS
  show (if p a ≤ p a then p a - p a else p a + K - p a) < (if p a ≤ p b then p b - p a else p b + K - p a)
  rw [if_pos (Nat.le_refl _), if_neg (by omega)]
  omega
end
theorem outr_exists : ∀ (n : Nat) (V : List Nat) (adj : Nat → Nat → Prop), V.length = n → (∀ x y, adj x y → adj y x) → (∀ x, ¬ adj x x) → (∀ x y, adj x y → x ∈ V) → ¬ Mnr (fun x => x ∈ V) adj 4 (fun i j => i ≠ j) → ¬ Mnr (fun x => x ∈ V) adj 5 Pe23 →
  ∃ p K, Outr (fun x => x ∈ V) adj p K := by
 intro n
 induction n using Nat.strongRecOn with
 | _ n ih =>
  intro V adj hl hs hi hV h4 h23
  by_cases hne : V = []
  ·subst hne
   refine ⟨fun _ => 0, 0, ?_, ?_, ?_⟩
   ·intro x hx; cases hx
   ·intro x y hx; cases hx
   ·intro a b c d ha; cases ha
  have hd : ∃ v, v ∈ V ∧ AtMost 2 (adj v) := by
   apply Classical.byContradiction
   intro hno
   exact h4 (deg3_k4 _ V adj rfl hne hs hi hV fun x hx h2 => hno ⟨x, hx, h2⟩)
  obtain ⟨v, hv, h2⟩ := hd
  have e : (fun x => x ∈ V ∧ x ≠ v) = fun x => x ∈ V.filter (fun x => decide (x ≠ v)) := funext fun x => propext (by simp)
  have hlen : (V.filter (fun x => decide (x ≠ v))).length < n := by
   rw [← hl]
   exact List.length_filter_lt_length_iff_exists.2 ⟨v, hv, by simp⟩
  obtain ⟨p, K, hO⟩ := ih _ hlen _ (Fil adj v) rfl (fil_symm hs) (fun x h => h.1 rfl) (fun x y h => by
    rw [List.mem_filter]
    refine ⟨?_, by simpa using h.2.1⟩
    rcases h.2.2.2 with h | h
    ·exact hV _ _ h
    ·exact hV _ _ h.1) (fun hm => h4 (fil_mnr hs hi hv h2 (by rw [e]; exact hm))) (fun hm => h23 (fil_mnr hs hi hv h2 (by rw [e]; exact hm)))
  rw [← e] at hO
  have eV : (fun x => x ∈ V) = fun x => (x ∈ V ∧ x ≠ v) ∨ x = v := funext fun x => propext ⟨fun h => by
   by_cases hx : x = v
   ·exact .inr hx
   ·exact .inl ⟨h, hx⟩, fun h => by
   rcases h with h | rfl
   ·exact h.1
   ·exact hv⟩
  rw [eV] at h23 ⊢
  have hvne : ∀ x, adj v x → x ≠ v := fun x h hx => hi v (by rw [hx] at h; exact h)
  have hsub : ∀ x y, (x ∈ V ∧ x ≠ v) → (y ∈ V ∧ y ≠ v) → adj x y → Fil adj v x y := fun x y hx hy hxy => ⟨fun e => hi x (by rw [← e] at hxy; exact hxy), hx.2, hy.2, .inl hxy⟩
  have hO1 : Outr (fun x => x ∈ V ∧ x ≠ v) adj p K := hO.mono (fun _ h => h) hsub
  by_cases ha : ∃ a, adj v a
  ·obtain ⟨a, ha⟩ := ha
   have haV : a ∈ V ∧ a ≠ v := ⟨hV _ _ (hs _ _ ha), hvne a ha⟩
   by_cases hb : ∃ b, adj v b ∧ b ≠ a
   ·obtain ⟨b, hb, hba⟩ := hb
    have hbV : b ∈ V ∧ b ≠ v := ⟨hV _ _ (hs _ _ hb), hvne b hb⟩
    refine outr_two (S := fun x => x ∈ V ∧ x ≠ v) (adj' := Fil adj v) (a := a) (b := b) hs (fil_symm hs) (fun h => h.2 rfl) haV hbV (Ne.symm hba) hsub ⟨Ne.symm hba, haV.2, hbV.2, .inr ⟨hs _ _ ha, hb⟩⟩ (fun x hx => ?_) ha hb h23 hO
    apply Classical.byContradiction
    intro hn
    rw [not_or] at hn
    obtain ⟨l, hl2, hm⟩ := h2
    have := nodup_le (l := [x, a, b]) (m := l) (by simp; exact ⟨⟨hn.1, hn.2⟩, Ne.symm hba⟩) (by
     intro z hz
     simp at hz
     rcases hz with rfl | rfl | rfl
     ·exact hm _ hx
     ·exact hm _ ha
     ·exact hm _ hb)
    simp at this
    omega
   ·have honly : ∀ x, adj v x → x = a := fun x hx => Classical.byContradiction fun hn => hb ⟨x, hx, hn⟩
    have o2 : Outr (fun x => x = a ∨ x = v) adj (fun x => if x = v then 1 else 0) 2 := by
     refine ⟨fun x _ => by show (if x = v then 1 else 0) < 2; split <;> omega, ?_, ?_⟩
     ·rintro x y (rfl | rfl) (rfl | rfl) e
      ·rfl
      ·simp [haV.2] at e
      ·simp [haV.2] at e
      ·rfl
     ·intro x y z t _ _ _ _ g1 g2 g3 _ _
      have b1 : (if z = v then 1 else 0) ≤ 1 := by split <;> omega
      have g1 : (if x = v then 1 else 0) < (if y = v then 1 else 0) := g1
      have g2 : (if y = v then 1 else 0) < (if z = v then 1 else 0) := g2
      omega
    obtain ⟨q, L, g⟩ := outr_glue hs hO1 o2 (c := a) haV (.inl rfl) (by
     rintro x hx (h | h)
     ·exact h
     ·exact absurd h hx.2) (by
     rintro x y hx (h | h) hxy
     ·exact .inr h
     ·subst h
      exact .inl (honly x (hs _ _ hxy)))
    refine ⟨q, L, g.mono (fun x hx => ?_) fun _ _ _ _ h => h⟩
    rcases hx with h | h
    ·exact .inl h
    ·exact .inr (.inr h)
  ·have hno : ∀ x, ¬ adj v x := fun x h => ha ⟨x, h⟩
   refine ⟨fun x => if x = v then K else p x, K + 1, ?_, ?_, ?_⟩
   ·rintro x (hx | rfl)
    ·have := hO.1 x hx
     show (if x = v then K else p x) < K + 1
     rw [if_neg hx.2]; omega
    ·show (if x = x then K else p x) < K + 1
     rw [if_pos rfl]; omega
   ·rintro x y (hx | rfl) (hy | rfl) h
    ·have h : (if x = v then K else p x) = (if y = v then K else p y) := h
     rw [if_neg hx.2, if_neg hy.2] at h
     exact hO.2.1 x y hx hy h
    ·have h : (if x = y then K else p x) = (if y = y then K else p y) := h
     have := hO.1 x hx
     rw [if_neg hx.2, if_pos rfl] at h; omega
    ·have h : (if x = x then K else p x) = (if y = x then K else p y) := h
     have := hO.1 y hy
     rw [if_neg hy.2, if_pos rfl] at h; omega
    ·rfl
   ·intro x y z t hx hy hz ht g1 g2 g3 hxz hyt
    have nv : ∀ {u w}, adj u w → u ≠ v ∧ w ≠ v := fun {u w} h => ⟨fun e => hno w (e ▸ h), fun e => hno u (e ▸ hs _ _ h)⟩
    have n1 := nv hxz
    have n2 := nv hyt
    have g1 : (if x = v then K else p x) < (if y = v then K else p y) := g1
    have g2 : (if y = v then K else p y) < (if z = v then K else p z) := g2
    have g3 : (if z = v then K else p z) < (if t = v then K else p t) := g3
    rw [if_neg n1.1, if_neg n2.1] at g1
    rw [if_neg n2.1, if_neg n1.2] at g2
    rw [if_neg n1.2, if_neg n2.2] at g3
    exact hO1.2.2 x y z t (hx.resolve_right n1.1) (hy.resolve_right n2.1) (hz.resolve_right n1.2) (ht.resolve_right n2.2) g1 g2 g3 hxz hyt
theorem outr_iff {V : List Nat} {adj : Nat → Nat → Prop} (hs : ∀ x y, adj x y → adj y x) (hi : ∀ x, ¬ adj x x) (hV : ∀ x y, adj x y → x ∈ V) :
  (∃ p K, Outr (fun x => x ∈ V) adj p K) ↔ ¬ Mnr (fun x => x ∈ V) adj 4 (fun i j => i ≠ j) ∧ ¬ Mnr (fun x => x ∈ V) adj 5 Pe23 :=
 ⟨fun ⟨p, K, h⟩ => ⟨h.no_k4 hs, h.no_k23 hs⟩, fun h => outr_exists _ V adj rfl hs hi hV h.1 h.2⟩
end Go.Proofs.YtjloppfdagfpmaaDoor.T
end
section
namespace Go.Proofs.YtjloppfdagfpmaaDoor.X
open Go.RowKit YtjloppfdagfpmaaDoorW.PrintWords YtjloppfdagfpmaaDoorW.PrintLast YtjloppfdagfpmaaDoorW.PrintMore
attribute [local go_sem] max2_int min2_int max_two min_two max_three min_three max_four min_four
noncomputable section
def lampblackref07_K23.l0 : Nat → List Int → Int → Option (List Int)
 | 0, _, _ => none
 | k + 1, x1, x2 => if x2 < 5 then ((lampblackref07_join.f x1 0 x2).bind fun t256 => ((lampblackref07_join.f t256 1 x2).bind fun t257 => (lampblackref07_K23.l0 k t257 (wrap64 (x2 + 1))))) else (some x1)
end
noncomputable section
def slices_Reverse_int_int.l0 : Nat → List Int → Int → Int → Option (List Int)
 | 0, _, _, _ => none
 | k + 1, x0, x2, x3 => if x2 < x3 then (if 0 ≤ x3 then (if x3 < (x0.length : Int) then (if 0 ≤ x2 then (if x2 < (x0.length : Int) then (slices_Reverse_int_int.l0 k ((x0.set (x2 : Int).toNat (rd x0 x3)).set (x3 : Int).toNat (rd x0 x2)) (wrap64 (x2 + 1)) (wrap64 (x3 - 1))) else (none)) else (none)) else (none)) else (none)) else (some x0)
end
end Go.Proofs.YtjloppfdagfpmaaDoor.X
end
section
namespace Go.Proofs.YtjloppfdagfpmaaDoor.X
open Go.RowKit YtjloppfdagfpmaaDoorW.PrintWords YtjloppfdagfpmaaDoorW.PrintLast YtjloppfdagfpmaaDoorW.PrintMore YtjloppfdagfpmaaDoor.T
theorem oo_outr {G : List Nat} {S : Nat → Prop} (h : OO G S) : ∃ p K, Outr S (Adj G) p K := by
 obtain ⟨Q, h1, h2, h3⟩ := h
 have hlt : ∀ x, S x → Q.idxOf x < Q.length := fun x hx => List.idxOf_lt_length_of_mem ((h2 x).2 hx)
 have hget : ∀ x, S x → Q.getD (Q.idxOf x) 0 = x := fun x hx => by
  rw [List.getD_eq_getElem?_getD, List.getElem?_eq_getElem (hlt x hx)]
  exact List.getElem_idxOf (hlt x hx)
 refine ⟨fun x => Q.idxOf x, Q.length, hlt, fun x y hx hy e => ?_, fun a b c d ha hb hc hd g1 g2 g3 hac hbd => ?_⟩
 ·have e : Q.idxOf x = Q.idxOf y := e
  rw [← hget x hx, e, hget y hy]
 ·refine h3 (Q.idxOf d) (hlt d hd) ⟨Q.idxOf a, Q.idxOf b, Q.idxOf c, g1, g2, g3, ?_, ?_⟩
  ·rw [cr_adj, hget a ha, hget c hc]; exact hac
  ·rw [cr_adj, hget b hb, hget d hd]; exact hbd
theorem outr_oo {G : List Nat} {n : Nat} {S : Nat → Prop} (hS : ∀ x, S x → x < n) {p : Nat → Nat} {K : Nat} (h : Outr S (Adj G) p K) : OO G S := by
 classical
 let f : Nat → Option Nat := fun i => (List.range n).find? fun x => decide (S x ∧ p x = i)
 have hf : ∀ {i x}, f i = some x → S x ∧ p x = i := fun {i x} h => by
  have := List.find?_some (p := fun x => decide (S x ∧ p x = i)) h
  simpa using this
 have hf2 : ∀ {x}, S x → f (p x) = some x := fun {x} hx => by
  cases hy : f (p x) with
  | none =>
   have := List.find?_eq_none.1 hy x (List.mem_range.2 (hS x hx))
   simp [hx] at this
  | some y =>
   have := hf hy
   rw [h.2.1 y x this.1 hx this.2]
 have hmem : ∀ v, v ∈ (List.range K).filterMap f ↔ S v := fun v => by
  rw [List.mem_filterMap]
  constructor
  ·rintro ⟨i, _, hi⟩; exact (hf hi).1
  ·intro hv; exact ⟨p v, List.mem_range.2 (h.1 v hv), hf2 hv⟩
 have hpw : ((List.range K).filterMap f).Pairwise fun a b => p a < p b := by
  refine List.Pairwise.filterMap f (R := fun a b => a < b) (fun a a' hlt b hb b' hb' => ?_) List.pairwise_lt_range
  rw [(hf hb).2, (hf hb').2]; exact hlt
 refine ⟨_, hpw.imp fun {a b} hlt e => (by rw [e] at hlt; omega), hmem, fun m hm => ?_⟩
 rintro ⟨i, j, k, h1, h2, h3, h4, h5⟩
 rw [List.pairwise_iff_getElem] at hpw
 rw [cr_adj] at h4 h5
 simp only [List.getD_eq_getElem?_getD, List.getElem?_eq_getElem (show i < ((List.range K).filterMap f).length by omega), List.getElem?_eq_getElem (show j < ((List.range K).filterMap f).length by omega), List.getElem?_eq_getElem (show k < ((List.range K).filterMap f).length by omega), List.getElem?_eq_getElem hm, Option.getD_some] at h4 h5
 exact h.2.2 _ _ _ _ ((hmem _).1 (List.getElem_mem _)) ((hmem _).1 (List.getElem_mem _)) ((hmem _).1 (List.getElem_mem _)) ((hmem _).1 (List.getElem_mem _)) (hpw i j (by omega) (by omega) h1) (hpw j k (by omega) (by omega) h2) (hpw k m (by omega) hm h3) h4 h5
def k23 : List Nat := [28, 28, 3, 3, 3]
theorem k23_adj : ∀ i j : Fin 5, ((k23.getD i.val 0).testBit j.val = true ↔ (i.val < 2 ∧ 2 ≤ j.val) ∨ (j.val < 2 ∧ 2 ≤ i.val)) := by decide +kernel
theorem mnr_k23 {G : List Nat} : IsMnr G k23 ↔ Mnr (fun x => x < G.length) (Adj G) 5 Pe23 := by
 unfold IsMnr
 exact ⟨mnr_pe fun i j hi hj h => (k23_adj ⟨i, hi⟩ ⟨j, hj⟩).2 h, mnr_pe fun i j hi hj h => (k23_adj ⟨i, hi⟩ ⟨j, hj⟩).1 h⟩
theorem oo_iff {m : Nat} {G : List Nat} (hG : Gr m G) : OO G (fun x => x < G.length) ↔ ¬ IsMnr G (kN 4) ∧ ¬ IsMnr G k23 := by
 rw [mnr_k, mnr_k23]
 have hV : (fun x => x < G.length) = fun x => x ∈ List.range G.length := funext fun x => propext List.mem_range.symm
 rw [hV, ← outr_iff (fun x y h => hG.adj_symm h) (fun x h => hG.adj_irr h) fun x y h => List.mem_range.2 (hG.adj_lt' h)]
 constructor
 ·exact oo_outr
 ·rintro ⟨p, K, h⟩
  exact outr_oo (n := G.length) (fun x hx => List.mem_range.1 hx) h
theorem Decompose_evV {G : List Nat} (hG : Gr 9 G) {W : Nat} (hW : IsWidth G W) : Ev (fun k => width_Decompose.f k (gi G)) (bagsLV G (ordL G W) (ordL G W).length, parsLV G (ordL G W) (ordL G W).length, 0) := by
 have hn := hG.most
 obtain ⟨o1, o2, o3, _⟩ := ordL_isV hG hW
 have h1 : Ev (fun k => width_read.f k (gi G)) (gi G, true) := by
  have h := read_evV (gi G) (by rw [gi_length]; omega)
  rw [(chk_iff 9 (by omega) _).2 ⟨G, rfl, hG⟩] at h
  exact h
 unfold width_Decompose.f
 exact Ev.bind h1 (Ev.if_pos rfl (Ev.bind (decompose_evV hG hW o2 (by omega)) (Ev.some rfl)))
section
variable {A PA B PB : List Int} {g : List Int}
end
end Go.Proofs.YtjloppfdagfpmaaDoor.X
end
section
namespace Go.Proofs.YtjloppfdagfpmaaDoor.T
open Go.RowKit YtjloppfdagfpmaaDoorW.PrintWords YtjloppfdagfpmaaDoorW.PrintLast YtjloppfdagfpmaaDoorW.PrintMore
theorem free_colour (l : List Nat) (k : Nat) (h : l.length ≤ k) : ∃ x, x < k + 1 ∧ x ∉ l := by
 apply Classical.byContradiction
 intro no
 have hs : ∀ x ∈ List.range (k + 1), x ∈ l := fun x hx => Classical.byContradiction fun hn => no ⟨x, List.mem_range.1 hx, hn⟩
 have := nodup_le List.nodup_range hs
 rw [List.length_range] at this
 omega
theorem elim_colour {V : Nat → Prop} {adj : Nat → Nat → Prop} {k : Nat} {S : Nat → Prop} (hs : ∀ x y, adj x y → adj y x) (hi : ∀ x, ¬ adj x x) (hV : ∀ x y, adj x y → V y) (h : Elim V adj k S) : ∀ f : Nat → Nat,
  (∀ u, V u → ¬ S u → f u < k + 1) → (∀ u v, V u → V v → ¬ S u → ¬ S v → adj u v → f u ≠ f v) → ∃ g : Nat → Nat, (∀ u, V u → g u < k + 1) ∧ ∀ u v, V u → V v → adj u v → g u ≠ g v := by
 induction h with
 | nil => exact fun f h1 h2 => ⟨f, fun u hu => h1 u hu id, fun u v hu hv ha => h2 u v hu hv id id ha⟩
 | @snoc S v _ hv hsv ha ih =>
  intro f h1 h2
  obtain ⟨l, hl, hm⟩ := ha
  obtain ⟨x, hx, hxl⟩ := free_colour (l.map f) k (by simpa using hl)
  have key : ∀ u, adj v u → ¬ S u → x ≠ f u := fun u hau hu e => by
   have huv : u ≠ v := fun e => hi v (e ▸ hau)
   exact hxl (List.mem_map.2 ⟨u, hm u ⟨.one hau, hu, huv⟩, e.symm⟩)
  refine ih (fun u => if u = v then x else f u) (fun u hu hn => ?_) (fun u w hu hw hnu hnw hadj => ?_)
  ·by_cases e : u = v
   ·simp only [if_pos e]; exact hx
   ·simp only [if_neg e]
    exact h1 u hu fun h => h.elim hn e
  ·by_cases e : u = v
   ·by_cases e2 : w = v
    ·rw [e, e2] at hadj; exact absurd hadj (hi v)
    ·simp only [if_pos e, if_neg e2]
     exact key w (e ▸ hadj) hnw
   ·by_cases e2 : w = v
    ·simp only [if_neg e, if_pos e2]
     exact fun h => key u (hs _ _ (e2 ▸ hadj)) hnu h.symm
    ·simp only [if_neg e, if_neg e2]
     exact h2 u w hu hw (fun h => h.elim hnu e) (fun h => h.elim hnw e2) hadj
theorem code_col (f : Nat → Nat) (hf : ∀ v, f v < 16) (u : Nat) : ∀ (l : List Nat) (o : Nat), l.Nodup → (∀ v ∈ l, col o v = 0) → col (l.foldl (fun o v => putc o v (f v)) o) u = if u ∈ l then f u else col o u
 | [], o, _, _ => by simp
 | v :: l, o, hnd, h => by
  obtain ⟨hv, hnd2⟩ := List.nodup_cons.1 hnd
  have h0 := h v List.mem_cons_self
  rw [List.foldl_cons, code_col f hf u l _ hnd2 fun w hw => by
   rw [col_put_other (hf v) (show w ≠ v from fun e => hv (e ▸ hw))]
   exact h w (List.mem_cons_of_mem _ hw)]
  by_cases hu : u ∈ l
  ·rw [if_pos hu, if_pos (List.mem_cons_of_mem _ hu)]
  ·rw [if_neg hu]
   by_cases e : u = v
   ·subst e
    rw [if_pos List.mem_cons_self, col_put (hf u) h0]
   ·rw [if_neg (by rw [List.mem_cons, not_or]; exact ⟨e, hu⟩), col_put_other (hf v) e]
theorem num_pos_of {G : List Nat} (hG : Gr 9 G) {K : Nat} (hK : K ≤ 16) (g : Nat → Nat) (h1 : ∀ u, u < G.length → g u < K) (h2 : ∀ u v, u < G.length → v < G.length → Adj G u v → g u ≠ g v) : 1 ≤ num G K 0 0 (els (2 ^ G.length - 1) 9) := by
 have h29 : 2 ^ G.length ≤ 2 ^ 9 := Nat.pow_le_pow_right (by omega) hG.most
 have hp := Nat.two_pow_pos G.length
 have hs : 2 ^ G.length - 1 < 512 := by omega
 obtain ⟨f, hf⟩ : ∃ f : Nat → Nat, f = fun v => if v < G.length then g v else 0 := ⟨_, rfl⟩
 have hf16 : ∀ v, f v < 16 := fun v => by
  rw [hf]
  show (if v < G.length then g v else 0) < 16
  by_cases hv : v < G.length
  ·rw [if_pos hv]; have := h1 v hv; omega
  ·rw [if_neg hv]; omega
 have hfg : ∀ v, v < G.length → f v = g v := fun v hv => by rw [hf]; exact if_pos hv
 have hc := fun u => code_col f hf16 u (els (2 ^ G.length - 1) 9) 0 (els_nodup _ 9) (fun v _ => col_zero v)
 have hm : ∀ u, u ∈ els (2 ^ G.length - 1) 9 ↔ u < G.length := fun u => by
  rw [mem_els, Nat.testBit_two_pow_sub_one, decide_eq_true_eq]
  have := hG.most
  omega
 have hin : (els (2 ^ G.length - 1) 9).foldl (fun o v => putc o v (f v)) 0 ∈ clL G K 0 0 (els (2 ^ G.length - 1) 9) := by
  refine (mem_bag hG hK hs _).2 ⟨fun u hu => ?_, fun v hv => ?_, fun u v hu hv ha => ?_⟩
  ·rw [hc, if_neg fun h => hu ((all_bit _ u).2 ((hm u).1 h)), col_zero]
  ·have hv := (all_bit _ v).1 hv
   rw [hc, if_pos ((hm v).2 hv), hfg v hv]
   exact h1 v hv
  ·have hu := (all_bit _ u).1 hu
   have hv := (all_bit _ v).1 hv
   rw [hc, hc, if_pos ((hm u).2 hu), if_pos ((hm v).2 hv), hfg u hu, hfg v hv]
   exact h2 u v hu hv (hG.adj_symm ha)
 unfold num
 exact List.length_pos_of_mem hin
theorem num_width {G : List Nat} (hG : Gr 9 G) {W K : Nat} (hW : Elim (fun u => u < G.length) (Adj G) W (fun u => u < G.length)) (hK : K ≤ 16) (hWK : W + 1 ≤ K) : 1 ≤ num G K 0 0 (els (2 ^ G.length - 1) 9) := by
 obtain ⟨g, g1, g2⟩ := elim_colour (V := fun u => u < G.length) (adj := Adj G) (fun x y h => hG.adj_symm h) (fun x => hG.adj_irr) (fun x y h => hG.adj_lt h) hW (fun _ => 0) (fun u hu hn => absurd hu hn) (fun u v hu hv hn => absurd hu hn)
 exact num_pos_of hG hK g (fun u hu => by have := g1 u hu; omega) g2
end Go.Proofs.YtjloppfdagfpmaaDoor.T
end
section
namespace Go.Proofs.YtjloppfdagfpmaaDoor.X
open Go.RowKit YtjloppfdagfpmaaDoorW.PrintWords YtjloppfdagfpmaaDoorW.PrintLast YtjloppfdagfpmaaDoorW.PrintMore YtjloppfdagfpmaaDoor.T
theorem Count_yesV {G : List Nat} (hG : Gr 9 G) {B P : List Int} (h : TDV G B P) {c : Int} (h0 : 0 ≤ c) (h6 : c ≤ 6) : width_Count.f (gi G) B P c = some ((numG G c.toNat : Int), 0) := by
 unfold width_Count.f
 rw [if_pos ((chk_iff 9 (by omega) _).2 ⟨G, rfl, hG⟩), gi_toNatN, if_pos ⟨(treeB_iffV hG B P).2 h, h0, h6⟩]
theorem numG_posV {G : List Nat} (hG : Gr 9 G) {W : Nat} (hW : IsWidth G W) {K : Nat} (hK : K ≤ 16) (hWK : W + 1 ≤ K) : 1 ≤ numG G K := num_width hG ((isWidth_iff.1 hW W).1 (Nat.le_refl _)) hK hWK
end Go.Proofs.YtjloppfdagfpmaaDoor.X
end
section
namespace Go.Proofs.YtjloppfdagfpmaaDoor.Pure
open Go.RowKit YtjloppfdagfpmaaDoorW.PrintWords YtjloppfdagfpmaaDoorW.PrintLast YtjloppfdagfpmaaDoorW.PrintMore YtjloppfdagfpmaaDoor.T YtjloppfdagfpmaaDoor.X
theorem Outer_eq {G : List Nat} (hG : Gr 8 G) : minor_Outer.f (gi G) = some ((outF G (2 ^ G.length - 1)).elim ([], 4) fun M => (gi M, 0)) := by
 have h1 := hG.most
 unfold minor_Outer.f
 rw [gi_length, if_pos (by omega), (chk_iff 8 (by omega) _).2 ⟨G, rfl, hG⟩, gi_toNat]
 rfl
theorem Outer_bad (g : List Int) (hl : g.length < 1000) (h : chk 8 g = false) : minor_Outer.f g = some ([], 2) := by
 unfold minor_Outer.f
 rw [if_pos hl, h]
 rfl
theorem all_small {n : Nat} (hn : n ≤ 9) : 2 ^ n - 1 < 512 := by
 have : 2 ^ n ≤ 2 ^ 9 := Nat.pow_le_pow_right (by omega) hn
 have := Nat.two_pow_pos n
 omega
theorem three {G : List Nat} (hG : Gr 8 G) (h4 : ¬ IsMnr G (kN 4)) : 1 ≤ numG G 3 := by
 have h9 := gr_mono hG (show 8 ≤ 9 by omega)
 have hE : Elim (fun x => x < G.length) (Adj G) 2 (fun x => x < G.length) := no_k4 hG fun h => h4 (mnr_k.2 h)
 obtain ⟨W, hW, _⟩ := width_exists h9
 exact numG_posV h9 hW (by omega) (by have := (isWidth_iff.1 hW 2).2 hE; omega)
theorem colours_law (g : List Int) (hg : g.length < 2 ^ 44) : Ev (fun k => lampblacklaw07_MinorColours.f k g) true := by
 obtain ⟨h, e, e1, e2, e3⟩ := few_eq g hg
 unfold lampblacklaw07_MinorColours.f
 refine Ev.bind1 e ?_
 by_cases hc : chk 8 g = true
 ·obtain ⟨G, rfl, hG⟩ := (chk_iff 8 (by omega) _).1 hc
  rw [e1 hc] at e ⊢
  have hn := hG.most
  have h9 := gr_mono hG (show 8 ≤ 9 by omega)
  have hoo : (outF G (2 ^ G.length - 1)).isSome = true ↔ OO G (fun x => x < G.length) := by
   rw [outF_iff G (all_small (by omega))]
   rw [show bset (2 ^ G.length - 1) = fun x => x < G.length from funext fun x => propext (all_bit G.length x)]
  rw [oo_iff hG] at hoo
  have ho := Outer_eq hG
  cases hout : outF G (2 ^ G.length - 1) with
  | none =>
   rw [hout] at ho
   exact Ev.bind1 ho (Ev.if_neg (by simp) (Ev.if_neg (by simp) (Ev.if_pos rfl (Ev.bind awake_ev (Ev.some rfl)))))
  | some M =>
   rw [hout] at hoo ho
   have h4 := (hoo.1 rfl).1
   obtain ⟨W, hW, _⟩ := width_exists h9
   obtain ⟨o1, o2, o3, o4⟩ := ordL_isV h9 hW
   have htd := decomp_tdV h9 (⟨o1, o2, o3⟩ : OrdLV G (ordL G W))
   have hp := three hG h4
   refine Ev.bind1 ho (Ev.if_pos rfl (Ev.bind1 e (Ev.bind (Decompose_evV h9 hW) (Ev.bind1 e (Ev.bind1 (Count_yesV h9 htd (c := 3) (by omega) (by omega)) (Ev.if_pos rfl (Ev.if_pos rfl (Ev.if_pos ?_ (Ev.bind awake_ev (Ev.some rfl))))))))))
   show ((numG G (3 : Int).toNat : Nat) : Int) > 0
   rw [show (3 : Int).toNat = 3 from rfl]
   omega
 ·have hc' : chk 8 g = false := by simpa using hc
  exact Ev.bind1 (Outer_bad h (by omega) (e2 hc')) (Ev.if_neg (by simp) (Ev.if_pos rfl (Ev.bind awake_ev (Ev.some rfl))))
theorem MinorColours : ∀ (l0 : List Int), l0.length ≤ maxLen → l0.length * 8 ≤ 140737488351232 → (∀ x ∈ l0, (Lit.int .i64 x).wf = true) → ∃ k, lampblacklaw07_MinorColours.f k l0 = some true := by
 intro g _ hg _
 exact Ev.rounds (colours_law g (by omega))
end Go.Proofs.YtjloppfdagfpmaaDoor.Pure
end
section
namespace Go.Proofs.YtjloppfdagfpmaaDoorW.PrintWords
open Go.ChangeShapes Go.WideShapes
theorem sized_ints {H : Type} {enc : TypeId × Value → H} {P : Program} {W : World} {base : Nat} {spare : Nat → Bool} {held : Bool} {t e : TypeId} {k : IntKind} {a : Option Addr} {len cap : Nat} {d : DataW H} {ps : List MemPlace} {ts : List TypeId} {ds : List (DataW H)} {j : Nat}
  (hsz : (DataW.weightsEach P ts ds).all (· ≤ reachBytes) = true) (ht : ts[j]? = some t) (hd : ds[j]? = some d) (hu : P.underlying t = some (.slice e)) (he : P.underlying e = some (.int k)) (hc : P.cellsOf e = 1) {B : Nat} (hB : P.bytesOf e = B)
  (h : DataW.Trod enc P W base spare held t (.slice a len cap) d ps) : len * B ≤ 140737488351232 := by
 obtain ⟨fuel, hf⟩ := h
 rcases open_ints hu he hc hf with ⟨hcs, _⟩ | ⟨x, l, c, zs, hcs, _, hl, _, hz, hx, _, _⟩
 ·simp [Value.cells] at hcs
  obtain ⟨rfl, rfl, rfl⟩ := hcs
  simp
 ·simp [Value.cells] at hcs
  obtain ⟨rfl, rfl, rfl⟩ := hcs
  obtain ⟨hx, _⟩ := Prod.mk.inj hx
  subst hx
  have z := sized_slice hsz ht hd hu
  rw [hB] at z
  have hl2 : len ≤ zs.length := by
   rw [hz]
   split
   ·exact hl
   ·exact Nat.le_refl _
  have h1 : (lits (H := H) k (zs.take len)).length + (lits (H := H) k (zs.drop len)).length = zs.length := by
   simp [lits]
   omega
  rw [h1] at z
  exact Nat.le_trans (Nat.mul_le_mul_right _ hl2) z
end Go.Proofs.YtjloppfdagfpmaaDoorW.PrintWords
end
