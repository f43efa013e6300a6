/- Part 1 of what WidthCliques rests on: contracts of the functions that it reaches, and what they compute, in plain words. -/
import Derived.Test.YtoffehihicabcaaDoorZWidthCliques0
import Derived.WalkSpells
import Derived.Maps.OwnOps
import Derived.Maps.OwnSet
import Derived.Maps.Ext
import Derived.Laws.EntriesVeiled
import Derived.Carry
set_option linter.unusedVariables false
set_option linter.unusedSimpArgs false
section
namespace Go.Proofs.YtoffehihicabcaaDoor.X
open Go.RowKit YtoffehihicabcaaDoorW.PrintWords YtoffehihicabcaaDoorW.PrintLast YtoffehihicabcaaDoorW.PrintMore
attribute [local go_sem] max2_int min2_int max_two min_two max_three min_three max_four min_four
noncomputable section
def width_town_degree.f (k : Nat) (l0 : List Int) (a1 : Int) (a2 : Int) : Option (Int) := if 0 ≤ a1 then ((width_town_part.f k l0 (shl .i64 1 a1) (Go.bits .or .i64 a2 (shl .i64 1 a1))).bind fun t115 => ((width_town_around.f k l0 t115).bind fun t116 => ((width_count.f (Go.bits .andNot .i64 (Go.bits .andNot .i64 t116 a2) (shl .i64 1 a1))).bind fun t117 => (some t117)))) else (none)
theorem width_town_degree.mono : ∀ a0 a1 a2 k, LeO (width_town_degree.f k a0 a1 a2) (width_town_degree.f (k + 1) a0 a1 a2) := by
 intro a0 a1 a2 k
 unfold width_town_degree.f
 repeat' first
   | (with_reducible exact width_town_around.mono _ _ _)
   | (with_reducible exact width_town_part.mono _ _ _ _)
   | (with_reducible exact LeO.refl _)
   | (with_reducible exact LeO.none _)
   | (with_reducible refine LeO.ite ?_ ?_)
   | (with_reducible refine LeO.bind ?_ (fun _ => ?_))
   | exact width_town_around.mono _ _ _
   | exact width_town_part.mono _ _ _ _
   | exact LeO.none _
   | refine LeO.ite ?_ ?_
   | refine LeO.bind ?_ (fun _ => ?_)
def width_town_degree.T1 : Bool × List (List Nat × List Nat) := (true, [([], []), ([], []), ([], []), ([2], [2]), ([], []), ([], []), ([5], [5]), ([4, 6], [4, 6]), ([1, 3, 7], [1, 3, 7]), ([0, 8, 8], [0, 8]), ([], []), ([9, 10], [9, 10]), ([], []), ([12], [12]), ([11, 13], [11, 13]), ([14, 9], [14]), ([15, 15, 0, 1, 2, 3, 4, 5, 6, 7, 8, 9, 10, 11, 12, 13, 14, 15], [15])])
def width_town_degree.B1 : List Nat := [0, 0, 0, 4, 0, 0, 32, 112, 254, 511, 0, 2047, 0, 4096, 16383, 32767, 65535]
theorem width_town_degree.tab1 : rtab .any (opsOf Tryd.f75 1) = width_town_degree.T1 := by kernel_rfl
theorem width_town_degree.bits1 : waitsOk width_town_degree.T1.2 width_town_degree.B1 = true := by kernel_rfl
set_option maxHeartbeats 8000000 in
set_option maxRecDepth 100000 in
theorem width_town_degree.calls (k : Nat) (A0 : Option Addr) (c0 : Nat) (l0 : List Int) (a1 : Int) (a2 : Int) (r : Int) (w : World) (hGL : GL w) (hr0 : Kd.C (Kd.int .i64) w A0 l0.length l0) (hc0 : l0.length ≤ c0) (h : width_town_degree.f k l0 a1 a2 = some r) :
  Calls Tryd.prog 75 #[.slice A0 l0.length c0, .int .i64 a1, .int .i64 a2] w fun e w' => e = .returned (.int .i64 r) ∧ Below w.heap.size w w' := by
 have HGL := Aside0.mk hGL
 clear hGL
 have HR0 := Aside0.mk hr0
 have HC0 := Aside0.mk hc0
 clear hr0 hc0
 have HB := Aside0.mk (Below.refl w.heap.size w)
 have H : (if 0 ≤ a1 then ((width_town_part.f k l0 (shl .i64 1 a1) (Go.bits .or .i64 a2 (shl .i64 1 a1))).bind fun t115 => ((width_town_around.f k l0 t115).bind fun t116 => ((width_count.f (Go.bits .andNot .i64 (Go.bits .andNot .i64 t116 a2) (shl .i64 1 a1))).bind fun t117 => (some t117)))) else (none)) = some r := h
 clear h
 by_cases c4 : 0 ≤ a1
 ·rw [if_pos c4] at H
  have c4b0 := eq_true c4
  have c4b1 : decide (0 ≤ a1) = true := decide_eq_true c4
  clear c4
  obtain ⟨ji5, hji5⟩ : ∃ j_ : Int, (shl .i64 1 a1) = j_ := ⟨_, rfl⟩
  replace H : ((width_town_part.f k l0 (ji5) (Go.bits .or .i64 a2 (ji5))).bind fun t115 => ((width_town_around.f k l0 t115).bind fun t116 => ((width_count.f (Go.bits .andNot .i64 (Go.bits .andNot .i64 t116 a2) (ji5))).bind fun t117 => (some t117)))) = some r := by first | (rw [hji5] at H; exact H) | (simp only [hji5] at H ⊢; exact H)
  have hji5_ : (IntKind.i64.wrap (1 * 2 ^ min a1.toNat 64)) = ji5 := hji5
  have hji5z : a1 ≤ 64 → (IntKind.i64.wrap (1 * 2 ^ a1.toNat)) = ji5 := shl_small hji5
  have hji5u : (IntKind.i64.wrap (2 ^ min a1.toNat 64)) = ji5 := by have h_ := hji5_; rw [Int.one_mul] at h_; exact h_
  have hji5v : a1 ≤ 64 → (IntKind.i64.wrap (2 ^ a1.toNat)) = ji5 := fun hle_ => by have h_ := hji5z hle_; rw [Int.one_mul] at h_; exact h_
  have hji5y : (wrap64 (1 * 2 ^ min a1.toNat 64)) = ji5 := (i64_w _).symm.trans hji5_
  have hji5x : a1 ≤ 64 → (wrap64 (1 * 2 ^ a1.toNat)) = ji5 := fun h_ => (i64_w _).symm.trans (hji5z h_)
  have c6b0 := eq_true (of_decide_eq_true (Qas) : 0 ≤ a1)
  replace H := Option.bind_eq_some_iff.mp H
  obtain ⟨t115, A70, H⟩ := H
  replace H : ((width_town_around.f k l0 t115).bind fun t116 => ((width_count.f (Go.bits .andNot .i64 (Go.bits .andNot .i64 t116 a2) (ji5))).bind fun t117 => (some t117))) = some r := H
  have A7 := Aside0.mk A70
  clear A70
  replace H := Option.bind_eq_some_iff.mp H
  obtain ⟨t116, A80, H⟩ := H
  replace H : ((width_count.f (Go.bits .andNot .i64 (Go.bits .andNot .i64 t116 a2) (ji5))).bind fun t117 => (some t117)) = some r := H
  have A8 := Aside0.mk A80
  clear A80
  have c9b0 := eq_true (of_decide_eq_true (Qas) : 0 ≤ a1)
  replace H := Option.bind_eq_some_iff.mp H
  obtain ⟨t117, A100, H⟩ := H
  replace H : (some t117) = some r := H
  have A10 := Aside0.mk A100
  clear A100
  obtain rfl := Option.some.inj H
  go_enter Tryd.func75, Tryd.ntmps75
  try go_wp2
  have n0_ := Aside0.mk (below_drew1 HB.out)
  clear HB
  have HB := n0_
  clear n0_
  refine start_ (n := 17) (S := fun w' => True) (ds := []) (Qbz 17 0) (by kernel_rfl) rfl rfl trivial (fun hHeld => ?_); refine with_tabW width_town_degree.tab1 width_town_degree.bits1 (fun HT_ HW_ => ?_)
  generalize w.drew = w11 at HB hHeld ⊢
  refine Qpu 0 7 ?_ ?_ (Qbz 17 1) (Qao) ?_
  refine Qpu 1 8 ?_ ?_ (Qbz 17 3) (Qao) ?_
  refine Qpu 2 9 ?_ ?_ (Qbz 17 7) (Qao) ?_
  refine Qpu 3 10 ?_ ?_ (Qbz 17 15) (Qao) ?_
  refine Qpu 4 11 ?_ ?_ (Qbz 17 31) (Qao) ?_
  refine Qpu 5 12 ?_ ?_ (Qbz 17 63) (Qao) ?_
  refine Qpu 6 13 ?_ ?_ (Qbz 17 127) (Qao) ?_
  refine Qpu 7 14 ?_ ?_ (Qbz 17 255) (Qao) ?_
  refine Qpu 10 17 ?_ ?_ (Qbz 17 1279) (Qao) ?_
  refine Qpu 12 19 ?_ ?_ (Qbz 17 5375) (Qao) ?_
  refine Qpu 13 20 ?_ ?_ (Qbz 17 13567) (Qao) ?_
  refine one_ (i := 8) (N := some 15) (Qbz 17 13823) rfl rfl (one_of HT_.out (by kernel_rfl)) (by decide) (fun K hK => ?_)
  refine goes_ Tryd.func92 (by kernel_rfl) rfl #[.slice A0 l0.length c0, .int .i64 ji5, .int .i64 (Go.bits .or .i64 a2 (ji5))] (by rfl) rfl rfl (by (try simp only [List.map_toArray, List.map_cons, List.map_nil]); first | done | (simp only [hji5]; rfl) | rfl | (simp only [List.length_drop, List.length_take]; rfl)) ?_
  with_reducible refine (width_town_part.calls (hGL := (Qlg)) k _ _ l0 ji5 (Go.bits .or .i64 a2 (ji5)) t115 _ ?side1 ?side2 A7.out).mono ?_
  (case side1 => exact Qsc (Kd.C_below HR0.out HB.out))
  (case side2 => exact HC0.out)
  rintro e w12 ⟨rfl, hb⟩
  refine ⟨_, rfl, ?_⟩
  have n0_ := Aside0.mk (below_step (Qaw) hb)
  clear HB
  have HB := n0_
  clear n0_
  (try clear hb)
  (try clear hb2)
  (try clear hk)
  (try clear hi)
  refine hK.out _ _ trivial (fun hHeld => ?_)
  clear hK K
  refine norm_ (a' := ?_) ?_ ?_
  rotate_left
  ·show Act.put _ (some 15) _ = _
   simp only [Act.put, Qp1, Qp2, Qp3, i64_w, i32_w]
   rfl
  refine one_ (i := 9) (N := some 16) (Qbz 17 14335) rfl rfl (one_of HT_.out (by kernel_rfl)) (by decide) (fun K hK => ?_)
  refine goes_ Tryd.func93 (by kernel_rfl) rfl #[.slice A0 l0.length c0, .int .i64 t115] (by rfl) rfl rfl (Qls) ?_
  with_reducible refine (width_town_around.calls (hGL := (Qlg)) k _ _ l0 t115 t116 _ ?side1 ?side2 A8.out).mono ?_
  (case side1 => exact Qsc (Kd.C_below HR0.out HB.out))
  (case side2 => exact HC0.out)
  rintro e w13 ⟨rfl, hb⟩
  refine ⟨_, rfl, ?_⟩
  have n0_ := Aside0.mk (below_step (Qaw) hb)
  clear HB
  have HB := n0_
  clear n0_
  (try clear hb)
  (try clear hb2)
  (try clear hk)
  (try clear hi)
  refine hK.out _ _ trivial (fun hHeld => ?_)
  clear hK K
  refine norm_ (a' := ?_) ?_ ?_
  rotate_left
  ·show Act.put _ (some 16) _ = _
   simp only [Act.put, Qp1, Qp2, Qp3, i64_w, i32_w]
   rfl
  refine Qpu 11 18 ?_ ?_ (Qbz 17 16383) (Qao) ?_
  refine Qpu 14 21 ?_ ?_ (Qbz 17 32767) (Qao) ?_
  refine one_ (i := 15) (N := some 22) (Qbz 17 65535) rfl rfl (one_of HT_.out (by kernel_rfl)) (by decide) (fun K hK => ?_)
  refine goes_ Tryd.func68 (by kernel_rfl) rfl #[.int .i64 (Go.bits .andNot .i64 (Go.bits .andNot .i64 t116 a2) (ji5))] (by rfl) rfl rfl (by (try simp only [List.map_toArray, List.map_cons, List.map_nil]); first | done | (simp only [hji5]; rfl) | rfl | (simp only [List.length_drop, List.length_take]; rfl)) ?_
  with_reducible refine (width_count.calls (Go.bits .andNot .i64 (Go.bits .andNot .i64 t116 a2) (ji5)) t117 _ A10.out).mono ?_
  rintro e w' ⟨rfl, ⟨nd, rfl⟩⟩
  refine ⟨_, rfl, ?_⟩
  refine hK.out _ _ trivial (fun hHeld => ?_)
  clear hK K
  refine norm_ (a' := ?_) ?_ ?_
  rotate_left
  ·show Act.put _ (some 22) _ = _
   simp only [Act.put, Qp1, Qp2, Qp3, i64_w, i32_w]
   rfl
  refine Qpu 16 6 ?_ ?_ (Qbz 17 131071) (Qao) ?_
  refine done_ (done_of HT_.out (by kernel_rfl)) ?_
  try go_wp2
  go_ret
  exact ⟨by first | rfl | (simp [errW_none, errW_some] <;> rfl) | (simp only [← hji5]; first | rfl | (simp [errW_none, errW_some] <;> rfl)) | (simp [*, errW_none, errW_some] <;> rfl), by repeat (first | (with_reducible first | exact HB.out | apply below_alloc | apply pw_below_drewN | apply below_drew1) | exact HB.out)⟩
 ·rw [if_neg c4] at H
  exact absurd H (by simp)
end
noncomputable section
end
noncomputable section
end
noncomputable section
def width_town_all.f (l0 : List Int) : Option (Int) := some (wrap64 ((shl .i64 1 (l0.length : Int)) - 1))
set_option maxHeartbeats 8000000 in
set_option maxRecDepth 100000 in
theorem width_town_all.calls (A0 : Option Addr) (c0 : Nat) (l0 : List Int) (r : Int) (w : World) (hr0 : Kd.C (Kd.int .i64) w A0 l0.length l0) (hc0 : l0.length ≤ c0) (h : width_town_all.f l0 = some r) :
  Calls Tryd.prog 67 #[.slice A0 l0.length c0] w fun e w' => e = .returned (.int .i64 r) ∧ Drawn0 w w' := by
 have HR0 := Aside0.mk hr0
 have HC0 := Aside0.mk hc0
 clear hr0 hc0
 have H : (some (wrap64 ((shl .i64 1 (l0.length : Int)) - 1))) = some r := h
 clear h
 obtain ⟨ji2, hji2⟩ : ∃ j_ : Int, (shl .i64 1 (l0.length : Int)) = j_ := ⟨_, rfl⟩
 replace H : (some (wrap64 ((ji2) - 1))) = some r := by first | (rw [hji2] at H; exact H) | (simp only [hji2] at H ⊢; exact H)
 have hji2_ : (IntKind.i64.wrap (1 * 2 ^ min (l0.length : Int).toNat 64)) = ji2 := hji2
 have hji2z : (l0.length : Int) ≤ 64 → (IntKind.i64.wrap (1 * 2 ^ (l0.length : Int).toNat)) = ji2 := shl_small hji2
 have hji2p : (IntKind.i64.wrap (1 * 2 ^ min l0.length 64)) = ji2 := hji2_
 have hji2q : (l0.length : Int) ≤ 64 → (IntKind.i64.wrap (1 * 2 ^ l0.length)) = ji2 := hji2z
 have hji2r : (IntKind.i64.wrap (2 ^ min l0.length 64)) = ji2 := by have h_ := hji2p; rw [Int.one_mul] at h_; exact h_
 have hji2s : (l0.length : Int) ≤ 64 → (IntKind.i64.wrap (2 ^ l0.length)) = ji2 := fun hle_ => by have h_ := hji2q hle_; rw [Int.one_mul] at h_; exact h_
 have hji2u : (IntKind.i64.wrap (2 ^ min (l0.length : Int).toNat 64)) = ji2 := by have h_ := hji2_; rw [Int.one_mul] at h_; exact h_
 have hji2v : (l0.length : Int) ≤ 64 → (IntKind.i64.wrap (2 ^ (l0.length : Int).toNat)) = ji2 := fun hle_ => by have h_ := hji2z hle_; rw [Int.one_mul] at h_; exact h_
 have hji2y : (wrap64 (1 * 2 ^ min (l0.length : Int).toNat 64)) = ji2 := (i64_w _).symm.trans hji2_
 have hji2x : (l0.length : Int) ≤ 64 → (wrap64 (1 * 2 ^ (l0.length : Int).toNat)) = ji2 := fun h_ => (i64_w _).symm.trans (hji2z h_)
 obtain rfl := Option.some.inj H
 go_enter Tryd.func67, Tryd.ntmps67
 go_wp2
 go_ret
 exact ⟨by first | rfl | (simp; done) | (simp only [← hji2] <;> (first | rfl | simp)) | (simp [*]; done), by repeat (first | exact Drawn0.refl _ | apply Drawn0.step)⟩
end
noncomputable section
end
end Go.Proofs.YtoffehihicabcaaDoor.X
end
section
namespace Go.Proofs.YtoffehihicabcaaDoor.X
open Go.RowKit YtoffehihicabcaaDoorW.PrintWords YtoffehihicabcaaDoorW.PrintLast YtoffehihicabcaaDoorW.PrintMore YtoffehihicabcaaDoor.T
theorem nodes_all : ∀ x : Fin 512, width_nodes.f 12 (x.val : Int) = some (gi (els x.val 9)) := by decide +kernel
theorem nodes_ev (x : Nat) (hx : x < 512) : Ev (fun k => width_nodes.f k (x : Int)) (gi (els x 9)) :=
 Ev.of (width_nodes.mono _) (nodes_all ⟨x, hx⟩)
theorem count_all : ∀ x : Fin 512, width_count.f (x.val : Int) = some (pc x.val 9 : Int) := by decide +kernel
theorem count_eq (x : Nat) (hx : x < 512) : width_count.f (x : Int) = some (pc x 9 : Int) := count_all ⟨x, hx⟩
theorem small (G : List Nat) (h : G.length ≤ 9) {x : Nat} (hx : x < 2 ^ G.length) : x < 512 := Nat.lt_of_lt_of_le hx (show 2 ^ G.length ≤ 2 ^ 9 from Nat.pow_le_pow_right (by omega) h)
theorem big {x : Nat} (h : x < 512) : x < 2 ^ 62 := by omega
theorem around_l0 (G : List Nat) (hG : Gr 9 G) (L : List Nat) (hL : ∀ x ∈ L, x < G.length) (hLl : L.length ≤ 100) : ∀ d i (o : Nat), i + d = L.length → o < 2 ^ G.length →
  ∃ r : Nat, Ev (fun k => width_town_around.l0 k (gi G) (o : Int) (gi L) (L.length : Int) (i : Int)) (r : Int) ∧ r < 2 ^ G.length ∧ ∀ j, bset r j ↔ bset o j ∨ ∃ x, x ∈ L.drop i ∧ Adj G x j := by
 intro d
 induction d with
 | zero =>
  intro i o hi ho
  refine ⟨o, Ev.step (f := fun _ => some (o : Int)) (fun k => ?_) (Ev.some rfl), ho, fun j => ?_⟩
  ·rw [width_town_around.l0, if_neg (by omega)]
  ·rw [List.drop_eq_nil_of_le (by omega)]; simp
 | succ d ih =>
  intro i o hi ho
  have hi' : i < L.length := by omega
  have hm := hL _ (List.getElem_mem hi')
  have hr : rd (gi L) (i : Int) = ((L[i] : Nat) : Int) := by rw [rd_gi, List.getD_eq_getElem?_getD, List.getElem?_eq_getElem hi']; rfl
  have hrow := hG.row L[i]
  have ho2 : o ||| G.getD L[i] 0 < 2 ^ G.length := or_lt ho hrow
  obtain ⟨r, h1, h2, h3⟩ := ih (i + 1) (o ||| G.getD L[i] 0) (by omega) ho2
  refine ⟨r, Ev.step (fun k => ?_) h1, h2, fun j => ?_⟩
  ·rw [width_town_around.l0, if_pos (by omega), if_pos (by omega), if_pos (by rw [gi_length]; omega), hr, if_pos (by omega), if_pos (by rw [gi_length]; omega), rd_gi,
    b_or _ _ (big (small G hG.most ho)) (big (small G hG.most hrow)), wrap_succ i (by omega)]
  ·rw [h3, or_bset, List.drop_eq_getElem_cons hi']
   constructor
   ·rintro ((h | h) | ⟨x, hx, ha⟩)
    ·exact .inl h
    ·exact .inr ⟨_, List.mem_cons_self, h⟩
    ·exact .inr ⟨x, List.mem_cons_of_mem _ hx, ha⟩
   ·rintro (h | ⟨x, hx, ha⟩)
    ·exact .inl (.inl h)
    ·rcases List.mem_cons.1 hx with h | h
     ·subst h; exact .inl (.inr ha)
     ·exact .inr ⟨x, h, ha⟩
theorem around_ev (G : List Nat) (hG : Gr 9 G) (s : Nat) (hs : s < 2 ^ G.length) : Ev (fun k => width_town_around.f k (gi G) (s : Int)) ((Around G s : Nat) : Int) := by
 have hs5 := small G hG.most hs
 obtain ⟨r, h1, h2, h3⟩ := around_l0 G hG (els s 9) (fun x hx => bit_lt hs (mem_els.1 hx).2) (by rw [els_length]; have := pc_le s 9; omega) (els s 9).length 0 0 (by omega) (Nat.two_pow_pos _)
 have e : r = Around G s := eq_of_bits fun j => by
  have hh := h3 j
  rw [Around_bit hG]
  unfold bset at hh
  rw [hh]
  constructor
  ·rintro (h | ⟨x, hx, ha⟩)
   ·simp at h
   ·exact ⟨x, (mem_els.1 hx).2, ha⟩
  ·rintro ⟨x, hx, ha⟩
   exact .inr ⟨x, mem_els.2 ⟨Nat.lt_of_lt_of_le (bit_lt hs hx) hG.most, hx⟩, ha⟩
 subst e
 refine Ev.bind (nodes_ev s hs5) ?_
 rw [gi_length]
 exact h1
theorem part_l0 (G : List Nat) (hG : Gr 9 G) (s w : Nat) (hs : s < 2 ^ G.length) (hw : w < 2 ^ G.length) : ∀ d x, 2 ^ G.length - x = d → x < 2 ^ G.length → (∀ j, bset s j → bset x j) → (∀ j, bset x j → Con (Adj G) (bset w) (bset s) j) →
  Ev (fun k => width_town_part.l0 k (gi G) (x : Int) (w : Int)) ((conset G s w : Nat) : Int) := by
 intro d
 induction d using Nat.strongRecOn with
 | _ d ih =>
  intro x hd hx h1 h2
  have hA := Around_lt hG x
  have hb : Go.bits .or .i64 (x : Int) (Go.bits .and .i64 ((Around G x : Nat) : Int) (w : Int)) = ((x ||| (Around G x &&& w) : Nat) : Int) := by
   rw [b_and _ _ (big (small G hG.most hA)) (big (small G hG.most hw)), b_or _ _ (big (small G hG.most hx)) (Nat.lt_of_le_of_lt Nat.and_le_left (big (small G hG.most hA)))]
  have hy : x ||| (Around G x &&& w) < 2 ^ G.length := or_lt hx (Nat.lt_of_le_of_lt Nat.and_le_left hA)
  refine Ev.step (fun k => by rw [width_town_part.l0]) (Ev.bind (around_ev G hG x hx) ?_)
  simp only [hb]
  by_cases e : x ||| (Around G x &&& w) = x
  ·refine Ev.if_pos (by rw [e]) (Ev.some ?_)
   congr 1
   refine conset_eq hG hs hx h1 h2 fun i j hi ha hj => ?_
   rw [← e, or_bset, and_bset]
   exact .inr ⟨(Around_bit hG x j).2 ⟨i, hi, ha⟩, hj⟩
  ·refine Ev.if_neg (by omega) ?_
   have hle : x ≤ x ||| (Around G x &&& w) := Nat.left_le_or
   refine ih (2 ^ G.length - (x ||| (Around G x &&& w))) (by omega) _ rfl hy (fun j hj => (or_bset _ _ _).2 (.inl (h1 j hj))) fun j hj => ?_
   rcases (or_bset _ _ _).1 hj with h | h
   ·exact h2 j h
   ·obtain ⟨ha, hw'⟩ := (and_bset _ _ _).1 h
    obtain ⟨i, hi, hij⟩ := (Around_bit hG x j).1 ha
    exact .step (h2 i hi) hij hw'
theorem part_ev (G : List Nat) (hG : Gr 9 G) (s w : Nat) (hs : s < 2 ^ G.length) (hw : w < 2 ^ G.length) : Ev (fun k => width_town_part.f k (gi G) (s : Int) (w : Int)) ((conset G s w : Nat) : Int) :=
 part_l0 G hG s w hs hw _ s rfl hs (fun _ h => h) (fun _ h => .base h)
theorem degree_ev (G : List Nat) (hG : Gr 9 G) (gone v : Nat) (hg : gone < 2 ^ G.length) (hv : v < G.length) :
  Ev (fun k => width_town_degree.f k (gi G) (v : Int) (gone : Int)) ((pc (nbset G gone v) 9 : Nat) : Int) := by
 have hp : 2 ^ v < 2 ^ G.length := Nat.pow_lt_pow_right (by omega) hv
 have hn := hG.most
 have hc := conset_lt G (2 ^ v) (gone ||| 2 ^ v)
 have hA := Around_lt hG (conset G (2 ^ v) (gone ||| 2 ^ v))
 have hd : diff (Around G (conset G (2 ^ v) (gone ||| 2 ^ v))) gone < 2 ^ G.length := Nat.lt_of_le_of_lt (diff_le _ _) hA
 unfold width_town_degree.f
 refine Ev.if_pos (by omega) ?_
 simp only [s_one v (by omega), b_or gone (2 ^ v) (big (small G hn hg)) (big (small G hn hp))]
 refine Ev.bind (part_ev G hG _ _ hp (or_lt hg hp)) ?_
 refine Ev.bind (around_ev G hG _ hc) ?_
 simp only [b_andNot _ gone (big (small G hn hA)) (big (small G hn hg)), b_andNot _ (2 ^ v) (big (small G hn hd)) (big (small G hn hp))]
 exact Ev.bind1 (count_eq _ (small G hn (nbset_lt hG gone v))) (Ev.some rfl)
theorem all_eq (G : List Nat) (h : G.length ≤ 9) : width_town_all.f (gi G) = some ((2 ^ G.length - 1 : Nat) : Int) := by
 unfold width_town_all.f
 have h1 : 2 ^ G.length ≤ 2 ^ 9 := Nat.pow_le_pow_right (by omega) h
 have h2 := Nat.two_pow_pos G.length
 rw [gi_length, s_one _ (by omega), w64_small _ (by omega) (by omega)]
 congr 1
 omega
end Go.Proofs.YtoffehihicabcaaDoor.X
end
section
namespace Go.Proofs.YtoffehihicabcaaDoor.X
open Go.RowKit YtoffehihicabcaaDoorW.PrintWords YtoffehihicabcaaDoorW.PrintLast YtoffehihicabcaaDoorW.PrintMore
attribute [local go_sem] max2_int min2_int max_two min_two max_three min_three max_four min_four
noncomputable section
mutual
def width_town_widths.l0 : Nat → List Int → List Int → Int → Option (List Int)
 | 0, _, _, _ => none
 | k + 1, x0, x3, x4 => if x4 < (x3.length : Int) then (if 0 ≤ x4 then ((width_nodes.f k x4).bind fun t122 => (width_town_widths.l1 k x0 (x3.set (x4 : Int).toNat (x0.length : Int)) x4 t122 (t122.length : Int) 0)) else (none)) else (some x3)
def width_town_widths.l1 : Nat → List Int → List Int → Int → List Int → Int → Int → Option (List Int)
 | 0, _, _, _, _, _, _ => none
 | k + 1, x0, x3, x4, x23, x24, x25 => if x25 < x24 then (if 0 ≤ x25 then (if x25 < (x23.length : Int) then (if 0 ≤ x4 then (if x4 < (x3.length : Int) then (if 0 ≤ (rd x23 x25) then (if 0 ≤ (Go.bits .andNot .i64 x4 (shl .i64 1 (rd x23 x25))) then (if (Go.bits .andNot .i64 x4 (shl .i64 1 (rd x23 x25))) < (x3.length : Int) then ((width_town_degree.f k x0 (rd x23 x25) (Go.bits .andNot .i64 x4 (shl .i64 1 (rd x23 x25)))).bind fun t128 => (width_town_widths.l1 k x0 (x3.set (x4 : Int).toNat (mn (rd x3 x4) (mx (rd x3 (Go.bits .andNot .i64 x4 (shl .i64 1 (rd x23 x25)))) t128))) x4 x23 x24 (wrap64 (x25 + 1)))) else (none)) else (none)) else (none)) else (none)) else (none)) else (none)) else (none)) else (width_town_widths.l0 k x0 x3 (wrap64 (x4 + 1)))
end
def width_town_widths.f (k : Nat) (l0 : List Int) : Option (List Int) := if 0 ≤ (shl .i64 1 (l0.length : Int)) then (if (shl .i64 1 (l0.length : Int) : Int).toNat ≤ 35184372088832 then (width_town_widths.l0 k l0 (List.replicate (shl .i64 1 (l0.length : Int) : Int).toNat 0) 1) else (none)) else (none)
theorem width_town_widths.mono_l : ∀ k, (∀ y0 y1 y2, LeO (width_town_widths.l0 k y0 y1 y2) (width_town_widths.l0 (k + 1) y0 y1 y2)) ∧ (∀ y0 y1 y2 y3 y4 y5, LeO (width_town_widths.l1 k y0 y1 y2 y3 y4 y5) (width_town_widths.l1 (k + 1) y0 y1 y2 y3 y4 y5))
 | 0 => ⟨fun _ _ _ r h => by simp [width_town_widths.l0] at h, fun _ _ _ _ _ _ r h => by simp [width_town_widths.l1] at h⟩
 | k + 1 => by
  obtain ⟨ih0, ih1⟩ := width_town_widths.mono_l k
  refine ⟨?_, ?_⟩
  ·intro y0 y1 y2
   unfold width_town_widths.l0
   repeat' first
   | (with_reducible exact ih0 _ _ _)
   | (with_reducible exact ih1 _ _ _ _ _ _)
   | (with_reducible exact width_nodes.mono _ _)
   | (with_reducible exact width_town_degree.mono _ _ _ _)
   | (with_reducible exact LeO.refl _)
   | (with_reducible exact LeO.none _)
   | (with_reducible refine LeO.ite ?_ ?_)
   | (with_reducible refine LeO.bind ?_ (fun _ => ?_))
   | exact ih0 _ _ _
   | exact ih1 _ _ _ _ _ _
   | exact width_nodes.mono _ _
   | exact width_town_degree.mono _ _ _ _
   | exact LeO.none _
   | refine LeO.ite ?_ ?_
   | refine LeO.bind ?_ (fun _ => ?_)
  ·intro y0 y1 y2 y3 y4 y5
   unfold width_town_widths.l1
   repeat' first
   | (with_reducible exact ih0 _ _ _)
   | (with_reducible exact ih1 _ _ _ _ _ _)
   | (with_reducible exact width_nodes.mono _ _)
   | (with_reducible exact width_town_degree.mono _ _ _ _)
   | (with_reducible exact LeO.refl _)
   | (with_reducible exact LeO.none _)
   | (with_reducible refine LeO.ite ?_ ?_)
   | (with_reducible refine LeO.bind ?_ (fun _ => ?_))
   | exact ih0 _ _ _
   | exact ih1 _ _ _ _ _ _
   | exact width_nodes.mono _ _
   | exact width_town_degree.mono _ _ _ _
   | exact LeO.none _
   | refine LeO.ite ?_ ?_
   | refine LeO.bind ?_ (fun _ => ?_)
theorem width_town_widths.mono : ∀ a0 k, LeO (width_town_widths.f k a0) (width_town_widths.f (k + 1) a0) := by
 intro a0 k
 obtain ⟨ih0, ih1⟩ := width_town_widths.mono_l k
 unfold width_town_widths.f
 repeat' first
   | (with_reducible exact ih0 _ _ _)
   | (with_reducible exact ih1 _ _ _ _ _ _)
   | (with_reducible exact width_nodes.mono _ _)
   | (with_reducible exact width_town_degree.mono _ _ _ _)
   | (with_reducible exact LeO.refl _)
   | (with_reducible exact LeO.none _)
   | (with_reducible refine LeO.ite ?_ ?_)
   | (with_reducible refine LeO.bind ?_ (fun _ => ?_))
   | exact ih0 _ _ _
   | exact ih1 _ _ _ _ _ _
   | exact width_nodes.mono _ _
   | exact width_town_degree.mono _ _ _ _
   | exact LeO.none _
   | refine LeO.ite ?_ ?_
   | refine LeO.bind ?_ (fun _ => ?_)
def width_town_widths.T9 : Bool × List (List Nat × List Nat) := (true, [([], []), ([], []), ([], []), ([], []), ([2, 3], [2, 3]), ([4], [4]), ([], []), ([], []), ([], []), ([8], [8]), ([7, 9], [7, 9]), ([6, 10], [6, 10]), ([11], [11]), ([], []), ([], []), ([], []), ([], []), ([16], [16]), ([15, 17], [15, 17]), ([13, 14, 18], [13, 14, 18]), ([12, 19], [12, 19]), ([5, 20], [5, 20]), ([0, 1, 0, 1, 2, 3, 4, 5, 6, 7, 8, 9, 10, 11, 12, 13, 14, 15, 16, 17, 18, 19, 20, 21], [0, 1]), ([22, 21, 19, 0, 1, 2, 3, 4, 5, 6, 7, 8, 9, 10, 11, 12, 13, 14, 15, 16, 17, 18, 19, 20, 21], [21, 22])])
def width_town_widths.B9 : List Nat := [0, 0, 0, 0, 12, 28, 0, 0, 0, 256, 896, 1984, 4032, 0, 0, 0, 0, 65536, 229376, 516096, 1048512, 2097148, 4194303, 8388607]
theorem width_town_widths.tab9 : rtab .any (opsOf Tryd.f91 9) = width_town_widths.T9 := by kernel_rfl
theorem width_town_widths.bits9 : waitsOk width_town_widths.T9.2 width_town_widths.B9 = true := by kernel_rfl
set_option maxHeartbeats 8000000 in
set_option maxRecDepth 100000 in
theorem width_town_widths.calls (k : Nat) (A0 : Option Addr) (c0 : Nat) (l0 : List Int) (r : List Int) (w : World) (hGL : GL w) (hr0 : Kd.C (Kd.int .i64) w A0 l0.length l0) (hc0 : l0.length ≤ c0) (h : width_town_widths.f k l0 = some r) :
  Calls Tryd.prog 91 #[.slice A0 l0.length c0] w fun e w' => ∃ v0_ : Value, e = .returned (v0_) ∧ Kd.R (Kd.int .i64) 3 w' w.heap.size (fun _ => True) v0_ r ∧ Below w.heap.size w w' := by
 have HGL := Aside0.mk hGL
 clear hGL
 have HR0 := Aside0.mk hr0
 have HC0 := Aside0.mk hc0
 clear hr0 hc0
 have HB := Aside0.mk (Below.refl w.heap.size w)
 have H : (if 0 ≤ (shl .i64 1 (l0.length : Int)) then (if (shl .i64 1 (l0.length : Int) : Int).toNat ≤ 35184372088832 then (width_town_widths.l0 k l0 (List.replicate (shl .i64 1 (l0.length : Int) : Int).toNat 0) 1) else (none)) else (none)) = some r := h
 clear h
 obtain ⟨ji2, hji2⟩ : ∃ j_ : Int, (shl .i64 1 (l0.length : Int)) = j_ := ⟨_, rfl⟩
 replace H : (if 0 ≤ (ji2) then (if (ji2 : Int).toNat ≤ 35184372088832 then (width_town_widths.l0 k l0 (List.replicate (ji2 : Int).toNat 0) 1) else (none)) else (none)) = some r := by first | (rw [hji2] at H; exact H) | (simp only [hji2] at H ⊢; exact H)
 have hji2_ : (IntKind.i64.wrap (1 * 2 ^ min (l0.length : Int).toNat 64)) = ji2 := hji2
 have hji2z : (l0.length : Int) ≤ 64 → (IntKind.i64.wrap (1 * 2 ^ (l0.length : Int).toNat)) = ji2 := shl_small hji2
 have hji2p : (IntKind.i64.wrap (1 * 2 ^ min l0.length 64)) = ji2 := hji2_
 have hji2q : (l0.length : Int) ≤ 64 → (IntKind.i64.wrap (1 * 2 ^ l0.length)) = ji2 := hji2z
 have hji2r : (IntKind.i64.wrap (2 ^ min l0.length 64)) = ji2 := by have h_ := hji2p; rw [Int.one_mul] at h_; exact h_
 have hji2s : (l0.length : Int) ≤ 64 → (IntKind.i64.wrap (2 ^ l0.length)) = ji2 := fun hle_ => by have h_ := hji2q hle_; rw [Int.one_mul] at h_; exact h_
 have hji2u : (IntKind.i64.wrap (2 ^ min (l0.length : Int).toNat 64)) = ji2 := by have h_ := hji2_; rw [Int.one_mul] at h_; exact h_
 have hji2v : (l0.length : Int) ≤ 64 → (IntKind.i64.wrap (2 ^ (l0.length : Int).toNat)) = ji2 := fun hle_ => by have h_ := hji2z hle_; rw [Int.one_mul] at h_; exact h_
 have hji2y : (wrap64 (1 * 2 ^ min (l0.length : Int).toNat 64)) = ji2 := (i64_w _).symm.trans hji2_
 have hji2x : (l0.length : Int) ≤ 64 → (wrap64 (1 * 2 ^ (l0.length : Int).toNat)) = ji2 := fun h_ => (i64_w _).symm.trans (hji2z h_)
 by_cases c3 : 0 ≤ (ji2)
 ·rw [if_pos c3] at H
  have c3b0 := eq_true c3
  have c3b1 : decide (0 ≤ (ji2)) = true := decide_eq_true c3
  clear c3
  by_cases c4 : (ji2 : Int).toNat ≤ 35184372088832
  ·rw [if_pos c4] at H
   have c4b0 := eq_true c4
   have c4b1 : decide ((ji2 : Int).toNat ≤ 35184372088832) = true := decide_eq_true c4
   clear c4
   obtain ⟨y118, hy118⟩ : ∃ y_ : List Int, y_ = (List.replicate (ji2 : Int).toNat 0) := ⟨_, rfl⟩
   replace H : (width_town_widths.l0 k l0 y118 1) = some r := by first | (rw [hy118]; with_reducible exact H) | (have H2_ := (Option.bind_some _ _).symm.trans H; rw [hy118]; with_reducible exact H2_) | (have H2_ := (Option.bind_some _ _).symm.trans H; with_reducible exact H2_) | with_reducible exact H | (rw [hy118]; exact H) | exact H
   have Ny118 := Aside0.mk hy118
   clear hy118
   have H' := Aside0.mk H
   clear H
   go_enter Tryd.func91, Tryd.ntmps91
   go_wp2_with (first | ((with_reducible refine gate_dst (N := 10) rfl ?_); refine Kd.R_make (Kd.int .i64) _ 3 rfl (N := 10) rfl 22 _ _ rfl ji2 rfl rfl Tryd.underlying22 (.int .i64 0) 8 info3 rfl (by decide) (by omega) 0 (ok := fun _ => True) (okp := fun _ => True) rfl (fun _ hk => hk) trivial (of_decide_eq_true (Qas)) (Nat.le_trans (Nat.mul_le_mul_right _ (of_decide_eq_true (Qas) : ji2.toNat ≤ 35184372088832)) (by omega)) (Below.refl _ _) (Nat.le_refl _) ?_; intro v119 w5 ho6 hb hg_ hnew_; clear hg_ hnew_; (first | rw [← Ny118.out] at ho6 | (simp only [Int.reduceToNat] at ho6; rw [← Ny118.out] at ho6)); have n0_ := Aside0.mk (Kd.R_lower ho6 (below_size (Qaw))); have n1_ := Aside0.mk (below_step (Qaw) hb); clear HB; have HO120 := n0_; have HB := n1_; clear n0_ n1_; clear hb ho6))
   go_loopg [4] k (fun kq v4 w' => ∃ (x3_1 : List Int) (x4_1 : Int), v4 = .int .i64 x4_1 ∧ Aside0 (width_town_widths.l0 kq l0 x3_1 x4_1 = some r) ∧ Aside0 (kq ≤ k) ∧ Aside0 (Kd.R (Kd.int .i64) 3 w' w.heap.size (fun _ => True) v119 x3_1) ∧ Aside0 (Below w.heap.size w w'))
   case atStart => exact ⟨(y118), (1), (Qrs), H', ⟨Nat.le_refl _⟩, ⟨by (with_reducible repeat (first | apply Kd.R_alloc | apply Kd.R_drewN | apply Kd.R_drew)); exact HO120.out⟩, ⟨by repeat (first | (with_reducible first | exact HB.out | apply below_alloc | apply pw_below_drewN | apply below_drew1) | exact HB.out)⟩⟩
   case round =>
    clear H'
    try clear p2
    try clear c3
    try clear c3b0
    try clear c3b1
    try clear c4
    try clear c4b0
    try clear c4b1
    try clear p6
    obtain ⟨x3_1, x4_1, rfl, HA, HK1, HO_3, HB⟩ := hrel
    cases gk with
    | zero => exact absurd HA.out (by simp [width_town_widths.l0])
    | succ k1 =>
     have H := HA.out
     clear HA
     simp only [width_town_widths.l0] at H
     by_cases c7 : x4_1 < (x3_1.length : Int)
     ·rw [if_pos c7] at H
      have c7b0 : decide (x4_1 < (x3_1.length : Int)) = true := decide_eq_true c7
      clear c7
      by_cases c8 : 0 ≤ x4_1
      ·rw [if_pos c8] at H
       have c8b0 : decide (0 ≤ x4_1) = true := decide_eq_true c8
       clear c8
       obtain ⟨y121, hy121⟩ : ∃ y_ : List Int, y_ = (x3_1.set (x4_1 : Int).toNat (l0.length : Int)) := ⟨_, rfl⟩
       replace H : ((width_nodes.f k1 x4_1).bind fun t122 => (width_town_widths.l1 k1 l0 y121 x4_1 t122 (t122.length : Int) 0)) = some r := by first | (rw [hy121]; with_reducible exact H) | (have H2_ := (Option.bind_some _ _).symm.trans H; rw [hy121]; with_reducible exact H2_) | (have H2_ := (Option.bind_some _ _).symm.trans H; with_reducible exact H2_) | with_reducible exact H | (rw [hy121]; exact H) | exact H
       have Ny121 := Aside0.mk hy121
       clear hy121
       replace H := Option.bind_eq_some_iff.mp H
       obtain ⟨t122, A100, H⟩ := H
       replace H : (width_town_widths.l1 k1 l0 y121 x4_1 t122 (t122.length : Int) 0) = some r := H
       have A10 := Aside0.mk A100
       clear A100
       have H' := Aside0.mk H
       clear H
       obtain ⟨Ao11, co11, eo11⟩ := Kd.R_slice HO_3.out
       subst eo11
       have p9 : 0 ≤ (x4_1 : Int) := of_decide_eq_true (Qas)
       have q9 : (x4_1 : Int) < ((x3_1.length : Int) : Int) := of_decide_eq_true (Qas)
       obtain ⟨go9, co9, eo9, gb9, gl9, cl9, HG9⟩ := Kd.R_form HO_3.out (by omega)
       (first | cases eo9 | (injection eo9 with ea_ en_ ec_; (first | subst ea_ | (injection ea_ with ea_; subst ea_)); subst ec_; clear en_))
       have GB9 := Aside0.mk gb9
       have GG9 := Aside0.mk HG9
       clear gb9 gl9 HG9
       obtain ⟨hx9_0, hf9_0⟩ := Kd.R_celln 0 HO_3.out (x4_1 : Int) p9 q9
       replace p9 := eq_true p9
       replace q9 := eq_true q9
       have HP12 := Kd.R_putg HO_3.out (x4_1 : Int) (l0.length : Int)
       go_wp2_with (first | ((with_reducible refine gate_store (t := 3) (p := 21) rfl ?_); refine store_event (t := 3) (p := 21) (v := ?vo_w13) (w1 := (wr.setCell ⟨go9, (x4_1 : Int).toNat, none⟩ (.int .i64 (l0.length : Int)))) ?hg ?ho ?hn ?hr ?_; (case ho => rfl); (case hg => rfl); (case hn => rfl); (case hr => first | (go_simp; done) | (go_simp; rfl)); intro w13 hw; have hg : wr.grownBy w13 (some go9) := (by rw [hw]; exact HP12.2); have hp_ : Kd.R (Kd.int .i64) 3 w13 w.heap.size (fun _ => True) (.slice (some ⟨go9, 0, none⟩) x3_1.length co11) y121 := (by rw [hw, Ny121.out]; exact HP12.1); clear HP12; have n0_ := Aside0.mk (hp_); have n1_ := Aside0.mk ((by rw [hw]; exact below_set (HB.out) GB9.out : Below w.heap.size w w13)); clear HO_3; clear HB; have HO_3 := n0_; have HB := n1_; clear n0_ n1_; clear hg hw hp_) | ((with_reducible refine gate_callee (f := 98) rfl ?_); refine goesL_ (some 23) rfl rfl Tryd.func98 (by kernel_rfl) rfl #[.int .i64 x4_1] rfl (Qls) ?_; (with_reducible refine (width_nodes.calls (hGL := (Qlg)) k1 x4_1 t122 _ A10.out).mono ?_); rintro e w14 ⟨v123, rfl, ho0, hb⟩; refine ⟨_, rfl, ?_⟩; have n0_ := Aside0.mk (Kd.R_elder' (Qro HO_3.out) (Kd.R_base ho0) hb); have n1_ := Aside0.mk (Kd.R_lower (Kd.R_new' ho0 (Kd.R_lt (Qro HO_3.out))) (below_size (Qaw))); have n2_ := Aside0.mk (below_step (Qaw) hb); clear HO_3; clear HB; have HO_3 := n0_; have HO124 := n1_; have HB := n2_; clear n0_ n1_ n2_; (try clear hb); (try clear hb2); (try clear hk); (try clear hi); (try clear ho0); obtain ⟨Ao15, co15, eo15⟩ := Kd.R_slice HO124.out; subst eo15))
       go_loopg [25] k1 (fun kq v25 w' => ∃ (x3_2 : List Int) (x25_2 : Int), v25 = .int .i64 x25_2 ∧ Aside0 (width_town_widths.l1 kq l0 x3_2 x4_1 t122 (t122.length : Int) x25_2 = some r) ∧ Aside0 (kq ≤ k1) ∧ Aside0 (Kd.R (Kd.int .i64) 3 w' w.heap.size (fun k_ => some k_ ≠ ((.slice Ao15 t122.length co15) : Value).ownBlock) (.slice (some ⟨go9, 0, none⟩) x3_1.length co11) x3_2) ∧ Aside0 (Kd.R (Kd.int .i64) 3 w' w.heap.size (fun k_ => some k_ ≠ ((.slice (some ⟨go9, 0, none⟩) x3_1.length co11) : Value).ownBlock) (.slice Ao15 t122.length co15) t122) ∧ Aside0 (Below w.heap.size w w'))
       case atStart => exact ⟨(y121), (0), (Qrs), H', ⟨Nat.le_refl _⟩, ⟨by (with_reducible repeat (first | apply Kd.R_alloc | apply Kd.R_drewN | apply Kd.R_drew)); exact Kd.R_mono HO_3.out (fun _ hk => hk.2)⟩, ⟨by (with_reducible repeat (first | apply Kd.R_alloc | apply Kd.R_drewN | apply Kd.R_drew)); exact Kd.R_mono HO124.out (fun _ hk => hk.2)⟩, ⟨by repeat (first | (with_reducible first | exact HB.out | apply below_alloc | apply pw_below_drewN | apply below_drew1) | exact HB.out)⟩⟩
       case round =>
        clear H'
        try clear p2
        try clear c3
        try clear c3b0
        try clear c3b1
        try clear c4
        try clear c4b0
        try clear c4b1
        try clear p6
        try clear c7
        try clear c7b0
        try clear c8
        try clear c8b0
        try clear c9
        try clear p9
        try clear q9
        try clear hx9
        try clear hf9
        try clear hx9_0
        try clear p2
        try clear p6
        try clear p9
        try clear q9
        obtain ⟨x3_2, x25_2, rfl, HA, HK2, HO_3, HO_23, HB⟩ := hrel
        have hl3_2 := (Kd.R_reads' HO_3.out).1
        rw [hl3_2] at HO_3
        (try simp only [hl3_2])
        (try simp only [hl3_2] at HO_23)
        cases gk with
        | zero => exact absurd HA.out (by simp [width_town_widths.l1])
        | succ k2 =>
         have H := HA.out
         clear HA
         simp only [width_town_widths.l1] at H
         by_cases c16 : x25_2 < (t122.length : Int)
         ·rw [if_pos c16] at H
          have c16b0 : decide (x25_2 < (t122.length : Int)) = true := decide_eq_true c16
          clear c16
          by_cases c17 : 0 ≤ x25_2
          ·rw [if_pos c17] at H
           have c17b0 : decide (0 ≤ x25_2) = true := decide_eq_true c17
           clear c17
           by_cases c18 : x25_2 < (t122.length : Int)
           ·rw [if_pos c18] at H
            have c18b0 : decide (x25_2 < (t122.length : Int)) = true := decide_eq_true c18
            clear c18
            by_cases c19 : 0 ≤ x4_1
            ·rw [if_pos c19] at H
             have c19b0 : decide (0 ≤ x4_1) = true := decide_eq_true c19
             clear c19
             by_cases c20 : x4_1 < (x3_2.length : Int)
             ·rw [if_pos c20] at H
              have c20b0 : decide (x4_1 < (x3_2.length : Int)) = true := decide_eq_true c20
              clear c20
              by_cases c21 : 0 ≤ (rd t122 x25_2)
              ·rw [if_pos c21] at H
               have c21b0 := eq_true c21
               have c21b1 : decide (0 ≤ (rd t122 x25_2)) = true := decide_eq_true c21
               clear c21
               obtain ⟨ji22, hji22⟩ : ∃ j_ : Int, (shl .i64 1 (rd t122 x25_2)) = j_ := ⟨_, rfl⟩
               replace H : (if 0 ≤ (Go.bits .andNot .i64 x4_1 (ji22)) then (if (Go.bits .andNot .i64 x4_1 (ji22)) < (x3_2.length : Int) then ((width_town_degree.f k2 l0 (rd t122 x25_2) (Go.bits .andNot .i64 x4_1 (ji22))).bind fun t128 => (width_town_widths.l1 k2 l0 (x3_2.set (x4_1 : Int).toNat (mn (rd x3_2 x4_1) (mx (rd x3_2 (Go.bits .andNot .i64 x4_1 (ji22))) t128))) x4_1 t122 (t122.length : Int) (wrap64 (x25_2 + 1)))) else (none)) else (none)) = some r := by first | (rw [hji22] at H; exact H) | (simp only [hji22] at H ⊢; exact H)
               have hji22_ : (IntKind.i64.wrap (1 * 2 ^ min (rd t122 x25_2).toNat 64)) = ji22 := hji22
               have hji22z : (rd t122 x25_2) ≤ 64 → (IntKind.i64.wrap (1 * 2 ^ (rd t122 x25_2).toNat)) = ji22 := shl_small hji22
               have hji22u : (IntKind.i64.wrap (2 ^ min (rd t122 x25_2).toNat 64)) = ji22 := by have h_ := hji22_; rw [Int.one_mul] at h_; exact h_
               have hji22v : (rd t122 x25_2) ≤ 64 → (IntKind.i64.wrap (2 ^ (rd t122 x25_2).toNat)) = ji22 := fun hle_ => by have h_ := hji22z hle_; rw [Int.one_mul] at h_; exact h_
               have hji22y : (wrap64 (1 * 2 ^ min (rd t122 x25_2).toNat 64)) = ji22 := (i64_w _).symm.trans hji22_
               have hji22x : (rd t122 x25_2) ≤ 64 → (wrap64 (1 * 2 ^ (rd t122 x25_2).toNat)) = ji22 := fun h_ => (i64_w _).symm.trans (hji22z h_)
               by_cases c23 : 0 ≤ (Go.bits .andNot .i64 x4_1 (ji22))
               ·rw [if_pos c23] at H
                have c23b0 : decide (0 ≤ (Go.bits .andNot .i64 x4_1 (ji22))) = true := decide_eq_true c23
                clear c23
                by_cases c24 : (Go.bits .andNot .i64 x4_1 (ji22)) < (x3_2.length : Int)
                ·rw [if_pos c24] at H
                 have c24b0 : decide ((Go.bits .andNot .i64 x4_1 (ji22)) < (x3_2.length : Int)) = true := decide_eq_true c24
                 clear c24
                 have c25b0 := eq_true (of_decide_eq_true (Qas) : 0 ≤ (rd t122 x25_2))
                 replace H := Option.bind_eq_some_iff.mp H
                 obtain ⟨t128, A260, H⟩ := H
                 replace H : (width_town_widths.l1 k2 l0 (x3_2.set (x4_1 : Int).toNat (mn (rd x3_2 x4_1) (mx (rd x3_2 (Go.bits .andNot .i64 x4_1 (ji22))) t128))) x4_1 t122 (t122.length : Int) (wrap64 (x25_2 + 1))) = some r := H
                 have A26 := Aside0.mk A260
                 clear A260
                 obtain ⟨ji27, hji27⟩ : ∃ j_ : Int, (mx (rd x3_2 (Go.bits .andNot .i64 x4_1 (ji22))) t128) = j_ := ⟨_, rfl⟩
                 replace H : (width_town_widths.l1 k2 l0 (x3_2.set (x4_1 : Int).toNat (mn (rd x3_2 x4_1) (ji27))) x4_1 t122 (t122.length : Int) (wrap64 (x25_2 + 1))) = some r := by first | (rw [hji27] at H; exact H) | (simp only [hji27] at H ⊢; exact H)
                 (try rw [hji27] at A26)
                 have hji27_ : (if (rd x3_2 (Go.bits .andNot .i64 x4_1 (ji22))) < t128 then t128 else (rd x3_2 (Go.bits .andNot .i64 x4_1 (ji22)))) = ji27 := hji27
                 obtain ⟨ji28, hji28⟩ : ∃ j_ : Int, (mn (rd x3_2 x4_1) (ji27)) = j_ := ⟨_, rfl⟩
                 replace H : (width_town_widths.l1 k2 l0 (x3_2.set (x4_1 : Int).toNat (ji28)) x4_1 t122 (t122.length : Int) (wrap64 (x25_2 + 1))) = some r := by first | (rw [hji28] at H; exact H) | (simp only [hji28] at H ⊢; exact H)
                 (try rw [hji28] at A26)
                 have hji28_ : (if (ji27) < (rd x3_2 x4_1) then (ji27) else (rd x3_2 x4_1)) = ji28 := hji28
                 obtain ⟨y129, hy129⟩ : ∃ y_ : List Int, y_ = (x3_2.set (x4_1 : Int).toNat (ji28)) := ⟨_, rfl⟩
                 replace H : (width_town_widths.l1 k2 l0 y129 x4_1 t122 (t122.length : Int) (wrap64 (x25_2 + 1))) = some r := by first | (rw [hy129]; with_reducible exact H) | (have H2_ := (Option.bind_some _ _).symm.trans H; rw [hy129]; with_reducible exact H2_) | (have H2_ := (Option.bind_some _ _).symm.trans H; with_reducible exact H2_) | with_reducible exact H | (rw [hy129]; exact H) | exact H
                 have Ny129 := Aside0.mk hy129
                 clear hy129
                 have H' := Aside0.mk H
                 clear H
                 have p125 : 0 ≤ (x25_2 : Int) := of_decide_eq_true (Qas)
                 have q125 : x25_2 < (t122.length : Int) := of_decide_eq_true (Qas)
                 obtain ⟨ad125, e125, hx125_0⟩ := Kd.at_int (Kd.R_reads' HO_23.out).2.2 x25_2 p125 q125
                 cases e125
                 replace p125 := eq_true p125
                 replace q125 := eq_true q125
                 try go_wp2
                 have n0_ := Aside0.mk (Kd.R_drew HO_3.out)
                 have n1_ := Aside0.mk (Kd.R_drew HO_23.out)
                 have n2_ := Aside0.mk (below_drew1 HB.out)
                 clear HO_3
                 clear HO_23
                 clear HB
                 have HO_3 := n0_
                 have HO_23 := n1_
                 have HB := n2_
                 clear n0_ n1_ n2_
                 have p126 : 0 ≤ (x4_1 : Int) := of_decide_eq_true (Qas)
                 have q126 : x4_1 < (x3_2.length : Int) := of_decide_eq_true (Qas)
                 obtain ⟨ad126, e126, hx126_0⟩ := Kd.at_int (Kd.R_reads' HO_3.out).2.2 x4_1 p126 q126
                 obtain rfl : (⟨go9, 0, none⟩ : Addr) = ad126 := (by injection e126)
                 (first | simp only [add_plain] at hx126_0 | simp only [add_at] at hx126_0 | simp only [Addr.add, Nat.zero_add] at hx126_0 | skip)
                 replace p126 := eq_true p126
                 replace q126 := eq_true q126
                 have p127 : 0 ≤ ((Go.bits .andNot .i64 x4_1 (ji22)) : Int) := of_decide_eq_true (Qas)
                 have q127 : (Go.bits .andNot .i64 x4_1 (ji22)) < (x3_2.length : Int) := of_decide_eq_true (Qas)
                 obtain ⟨ad127, e127, hx127_0⟩ := Kd.at_int (Kd.R_reads' HO_3.out).2.2 (Go.bits .andNot .i64 x4_1 (ji22)) p127 q127
                 obtain rfl : (⟨go9, 0, none⟩ : Addr) = ad127 := (by injection e127)
                 (first | simp only [add_plain] at hx127_0 | simp only [add_at] at hx127_0 | simp only [Addr.add, Nat.zero_add] at hx127_0 | skip)
                 replace p127 := eq_true p127
                 replace q127 := eq_true q127
                 refine start_ (n := 24) (S := fun w' => w'.cell? ⟨go9, (x4_1).toNat, none⟩ = some (.int .i64 (rd x3_2 x4_1)) ∧ w'.cell? ⟨go9, ((Go.bits .andNot .i64 x4_1 (ji22))).toNat, none⟩ = some (.int .i64 (rd x3_2 (Go.bits .andNot .i64 x4_1 (ji22))))) (ds := [23]) (Qbz 24 0) (by kernel_rfl) rfl rfl ⟨hx126_0, hx127_0⟩ (fun hHeld => ?_); refine with_tabW width_town_widths.tab9 width_town_widths.bits9 (fun HT_ HW_ => ?_)
                 generalize wr.drew = w30 at HO_3 HO_23 HB hx126_0 hx127_0 hHeld ⊢
                 refine Qpu 0 29 ?_ ?_ (Qbz 24 1) (Qao) ?_
                 refine Qpu 1 30 ?_ ?_ (Qbz 24 3) (Qao) ?_
                 refine Qpu 2 31 ?_ ?_ (Qbz 24 7) (Qao) ?_
                 refine Qpu 3 32 ?_ ?_ (Qbz 24 15) (Qao) ?_
                 refine Qpu 4 33 ?_ ?_ (Qbz 24 31) (Qao) ?_
                 refine Qpu 6 35 ?_ ?_ (Qbz 24 95) (Qao) ?_
                 refine Qpu 7 36 ?_ ?_ (Qbz 24 223) (Qao) ?_
                 refine Qpu 8 37 ?_ ?_ (Qbz 24 479) (Qao) ?_
                 refine Qpu 9 38 ?_ ?_ (Qbz 24 991) (Qao) ?_
                 refine Qpu 10 39 ?_ ?_ (Qbz 24 2015) (Qao) ?_
                 refine Qpu 11 40 ?_ ?_ (Qbz 24 4063) (Qao) ?_
                 refine Qpu 13 42 ?_ ?_ (Qbz 24 12255) (Qao) ?_
                 refine Qpu 14 43 ?_ ?_ (Qbz 24 28639) (Qao) ?_
                 refine Qpu 15 44 ?_ ?_ (Qbz 24 61407) (Qao) ?_
                 refine Qpu 16 45 ?_ ?_ (Qbz 24 126943) (Qao) ?_
                 refine Qpu 17 46 ?_ ?_ (Qbz 24 258015) (Qao) ?_
                 refine Qpu 18 47 ?_ ?_ (Qbz 24 520159) (Qao) ?_
                 refine take_ (i := 5) (N := some 34) (v := ?_) (a' := ?_) (Qbz 24 520191) rfl rfl (take_ofW HT_.out HW_.out (by kernel_rfl)) (fun _ _ _ h => h) (Or.inl ⟨by rfl, ?_⟩) hHeld ?_ ?_;rotate_left;(·rintro w' ⟨s0, s1⟩;go_simp;with_reducible rfl);rotate_left;(·simp only [Act.put, Qp1, Qp2, Qp3, i64_w, i32_w];rfl)
                 refine take_ (i := 12) (N := some 41) (v := ?_) (a' := ?_) (Qbz 24 524287) rfl rfl (take_ofW HT_.out HW_.out (by kernel_rfl)) (fun _ _ _ h => h) (Or.inl ⟨by rfl, ?_⟩) hHeld ?_ ?_;rotate_left;(·rintro w' ⟨s0, s1⟩;go_simp;with_reducible rfl);rotate_left;(·simp only [Act.put, Qp1, Qp2, Qp3, i64_w, i32_w];rfl)
                 refine one_ (i := 19) (N := some 48) (Qbz 24 1048575) rfl rfl (one_of HT_.out (by kernel_rfl)) (by decide) (fun K hK => ?_)
                 refine goes_ Tryd.func75 (by kernel_rfl) rfl #[.slice A0 l0.length c0, .int .i64 (rd t122 x25_2), .int .i64 (Go.bits .andNot .i64 x4_1 (ji22))] (by rfl) rfl rfl (by (try simp only [List.map_toArray, List.map_cons, List.map_nil]); first | done | (simp only [hji22]; rfl) | rfl | (simp only [List.length_drop, List.length_take]; rfl)) ?_
                 with_reducible refine (width_town_degree.calls (hGL := (Qlg)) k2 _ _ l0 (rd t122 x25_2) (Go.bits .andNot .i64 x4_1 (ji22)) t128 _ ?side1 ?side2 A26.out).mono ?_
                 (case side1 => exact Qsc (Kd.C_below HR0.out HB.out))
                 (case side2 => exact HC0.out)
                 rintro e w31 ⟨rfl, hb⟩
                 have HS0_ := (hb.cell (World.block_lt_of_cell? _ _ (hHeld.1))).trans (hHeld.1)
                 have HS1_ := (hb.cell (World.block_lt_of_cell? _ _ (hHeld.2))).trans (hHeld.2)
                 refine ⟨_, rfl, ?_⟩
                 have n0_ := Aside0.mk (Kd.R_below (Qro HO_3.out) hb)
                 have n1_ := Aside0.mk (Kd.R_below (Qro HO_23.out) hb)
                 have n2_ := Aside0.mk (below_step (Qaw) hb)
                 clear HO_3
                 clear HO_23
                 clear HB
                 have HO_3 := n0_
                 have HO_23 := n1_
                 have HB := n2_
                 clear n0_ n1_ n2_
                 (try clear hb)
                 (try clear hb2)
                 (try clear hk)
                 (try clear hi)
                 have p29 : 0 ≤ (x4_1 : Int) := of_decide_eq_true (Qas)
                 have q29 : (x4_1 : Int) < ((x3_2.length : Int) : Int) := of_decide_eq_true (Qas)
                 obtain ⟨hx29_0, hf29_0⟩ := Kd.R_celln 0 HO_3.out (x4_1 : Int) p29 q29
                 replace p29 := eq_true p29
                 replace q29 := eq_true q29
                 have HP32 := Kd.R_putn HO_3.out (x4_1 : Int) ji28
                 rw [← Ny129.out] at HP32
                 have HQ32 := Aside0.mk HP32
                 clear HP32
                 refine hK.out _ _ ⟨HS0_, HS1_⟩ (fun hHeld => ?_)
                 clear hK K
                 refine norm_ (a' := ?_) ?_ ?_
                 rotate_left
                 ·show Act.put _ (some 48) _ = _
                  simp only [Act.put, Qp1, Qp2, Qp3, i64_w, i32_w]
                  rfl
                 refine Qpu 20 49 ?_ ?_ (Qbz 24 2097151) (Qao) ?_
                 refine Qpu 21 50 ?_ ?_ (Qbz 24 4194303) (Qao) ?_
                 refine Qpu 22 51 ?_ ?_ (Qbz 24 8388607) (Qao) ?_
                 refine last_ (i := 23) (N := none) (Qbz 24 16777215) rfl rfl (one_of HT_.out (by kernel_rfl)) (by decide) (fun K hK => ?_)
                 refine skip_ (w1 := ?_) (by rfl) rfl ?_ ?_
                 rotate_left
                 ·go_simp
                  rfl
                 refine hK.out _ _ ?_
                 clear hK K
                 refine done_ (done_of HT_.out (by kernel_rfl)) ?_
                 try go_wp2
                 (try simp only [← hl3_2])
                 go_roundg k2
                 case measure => have := HK1.out; have := HK2.out; omega
                 case rel => exact ⟨(y129), (wrap64 (x25_2 + 1)), (Qrs), H', ⟨by have := HK1.out; have := HK2.out; omega⟩, ⟨by (try simp only [hl3_2]); (with_reducible repeat (first | apply Kd.R_alloc | apply Kd.R_drewN | apply Kd.R_drew)); exact HQ32.out⟩, ⟨by (try simp only [hl3_2]); (with_reducible repeat (first | apply Kd.R_alloc | apply Kd.R_drewN | apply Kd.R_drew)); exact Kd.R_mono (Kd.R_far (p := ⟨go9, (x4_1 : Int).toNat, none⟩) (Kd.R_mono HO_23.out (fun k_ hk => (⟨hk, fun e_ => hk (by rw [e_]; rfl)⟩ : _ ∧ k_ ≠ go9))) (fun _ hk => hk.2) (.int .i64 ji28)) (fun _ hk => hk.1)⟩, ⟨by repeat (first | (with_reducible first | exact HB.out | apply below_alloc | apply pw_below_drewN | apply below_drew1 | refine below_set ?_ GB9.out) | exact HB.out)⟩⟩
                ·rw [if_neg c24] at H
                 exact absurd H (by simp)
               ·rw [if_neg c23] at H
                exact absurd H (by simp)
              ·rw [if_neg c21] at H
               exact absurd H (by simp)
             ·rw [if_neg c20] at H
              exact absurd H (by simp)
            ·rw [if_neg c19] at H
             exact absurd H (by simp)
           ·rw [if_neg c18] at H
            exact absurd H (by simp)
          ·rw [if_neg c17] at H
           exact absurd H (by simp)
         ·rw [if_neg c16] at H
          have c16b0 : decide (x25_2 < (t122.length : Int)) = false := decide_eq_false c16
          clear c16
          have H' := Aside0.mk H
          clear H
          go_wp2
          (try simp only [← hl3_2])
          go_roundg k2
          case measure => have := HK1.out; have := HK2.out; omega
          case rel => exact ⟨(x3_2), (wrap64 (x4_1 + 1)), (Qrs), H', ⟨by have := HK1.out; have := HK2.out; omega⟩, ⟨by (try simp only [hl3_2]); (with_reducible repeat (first | apply Kd.R_alloc | apply Kd.R_drewN | apply Kd.R_drew)); exact Kd.R_mono HO_3.out (fun _ hk => trivial)⟩, ⟨by repeat (first | (with_reducible first | exact HB.out | apply below_alloc | apply pw_below_drewN | apply below_drew1) | exact HB.out)⟩⟩
      ·rw [if_neg c8] at H
       exact absurd H (by simp)
     ·rw [if_neg c7] at H
      have c7b0 : decide (x4_1 < (x3_1.length : Int)) = false := decide_eq_false c7
      clear c7
      obtain rfl := Option.some.inj H
      obtain ⟨Ao33, co33, eo33⟩ := Kd.R_slice HO_3.out
      subst eo33
      go_wp2
      go_ret
      exact ⟨_, by first | rfl | (simp [errW_none, errW_some] <;> rfl) | (simp only [← hji2]; first | rfl | (simp [errW_none, errW_some] <;> rfl)) | (simp [*, errW_none, errW_some] <;> rfl), by (with_reducible repeat (first | apply Kd.R_alloc | apply Kd.R_drewN | apply Kd.R_drew)); exact HO_3.out, by repeat (first | (with_reducible first | exact HB.out | apply below_alloc | apply pw_below_drewN | apply below_drew1) | exact HB.out)⟩
  ·rw [if_neg c4] at H
   exact absurd H (by simp)
 ·rw [if_neg c3] at H
  exact absurd H (by simp)
end
noncomputable section
def width_town_width.f (k : Nat) (l0 : List Int) : Option (Int) := (width_town_widths.f k l0).bind fun t130 => ((width_town_all.f l0).bind fun t133 => (if 0 ≤ t133 then (if t133 < (t130.length : Int) then (some (rd t130 t133)) else (none)) else (none)))
theorem width_town_width.mono : ∀ a0 k, LeO (width_town_width.f k a0) (width_town_width.f (k + 1) a0) := by
 intro a0 k
 unfold width_town_width.f
 repeat' first
   | (with_reducible exact width_town_widths.mono _ _)
   | (with_reducible exact LeO.refl _)
   | (with_reducible exact LeO.none _)
   | (with_reducible refine LeO.ite ?_ ?_)
   | (with_reducible refine LeO.bind ?_ (fun _ => ?_))
   | exact width_town_widths.mono _ _
   | exact LeO.none _
   | refine LeO.ite ?_ ?_
   | refine LeO.bind ?_ (fun _ => ?_)
set_option maxHeartbeats 8000000 in
set_option maxRecDepth 100000 in
theorem width_town_width.calls (k : Nat) (A0 : Option Addr) (c0 : Nat) (l0 : List Int) (r : Int) (w : World) (hGL : GL w) (hr0 : Kd.C (Kd.int .i64) w A0 l0.length l0) (hc0 : l0.length ≤ c0) (h : width_town_width.f k l0 = some r) :
  Calls Tryd.prog 60 #[.slice A0 l0.length c0] w fun e w' => e = .returned (.int .i64 r) ∧ Below w.heap.size w w' := by
 have HGL := Aside0.mk hGL
 clear hGL
 have HR0 := Aside0.mk hr0
 have HC0 := Aside0.mk hc0
 clear hr0 hc0
 have HB := Aside0.mk (Below.refl w.heap.size w)
 have H : ((width_town_widths.f k l0).bind fun t130 => ((width_town_all.f l0).bind fun t133 => (if 0 ≤ t133 then (if t133 < (t130.length : Int) then (some (rd t130 t133)) else (none)) else (none)))) = some r := h
 clear h
 replace H := Option.bind_eq_some_iff.mp H
 obtain ⟨t130, A20, H⟩ := H
 replace H : ((width_town_all.f l0).bind fun t133 => (if 0 ≤ t133 then (if t133 < (t130.length : Int) then (some (rd t130 t133)) else (none)) else (none))) = some r := H
 have A2 := Aside0.mk A20
 clear A20
 replace H := Option.bind_eq_some_iff.mp H
 obtain ⟨t133, A30, H⟩ := H
 replace H : (if 0 ≤ t133 then (if t133 < (t130.length : Int) then (some (rd t130 t133)) else (none)) else (none)) = some r := H
 have A3 := Aside0.mk A30
 clear A30
 by_cases c4 : 0 ≤ t133
 ·rw [if_pos c4] at H
  have c4b0 : decide (0 ≤ t133) = true := decide_eq_true c4
  clear c4
  by_cases c5 : t133 < (t130.length : Int)
  ·rw [if_pos c5] at H
   have c5b0 : decide (t133 < (t130.length : Int)) = true := decide_eq_true c5
   clear c5
   obtain rfl := Option.some.inj H
   go_enter Tryd.func60, Tryd.ntmps60
   go_wp2_with (first | ((with_reducible refine gate_callee (f := 91) rfl ?_); refine goesL_ (some 4) rfl rfl Tryd.func91 (by kernel_rfl) rfl #[.slice A0 l0.length c0] rfl (Qls) ?_; (with_reducible refine (width_town_widths.calls (hGL := (Qlg)) k _ _ l0 t130 _ ?side1 ?side2 A2.out).mono ?_); (case side1 => exact Qsc HR0.out); (case side2 => exact HC0.out); rintro e w6 ⟨v131, rfl, ho0, hb⟩; refine ⟨_, rfl, ?_⟩; have n0_ := Aside0.mk (Kd.R_lower ho0 (below_size (Qaw))); have n1_ := Aside0.mk (below_step (Qaw) hb); clear HB; have HO132 := n0_; have HB := n1_; clear n0_ n1_; (try clear hb); (try clear hb2); (try clear hk); (try clear hi); (try clear ho0)) | ((with_reducible refine gate_callee (f := 67) rfl ?_); refine goesL_ (some 6) rfl rfl Tryd.func67 (by kernel_rfl) rfl #[.slice A0 l0.length c0] rfl (Qls) ?_; (with_reducible refine (width_town_all.calls _ _ l0 t133 _ ?side1 ?side2 A3.out).mono ?_); (case side1 => exact Qsc (Kd.C_below HR0.out HB.out)); (case side2 => exact HC0.out); rintro e w' ⟨rfl, ⟨nd, rfl⟩⟩; refine ⟨_, rfl, ?_⟩; obtain ⟨Ao7, co7, eo7⟩ := Kd.R_slice HO132.out; subst eo7; have p134 : 0 ≤ (t133 : Int) := of_decide_eq_true (Qas); have q134 : t133 < (t130.length : Int) := of_decide_eq_true (Qas); obtain ⟨ad134, e134, hx134_0⟩ := Kd.at_int (Kd.R_reads' HO132.out).2.2 t133 p134 q134; cases e134; replace p134 := eq_true p134; replace q134 := eq_true q134))
   go_ret
   exact ⟨by first | rfl | (simp [errW_none, errW_some] <;> rfl) | (simp [*, errW_none, errW_some] <;> rfl), by repeat (first | (with_reducible first | exact HB.out | apply below_alloc | apply pw_below_drewN | apply below_drew1) | exact HB.out)⟩
  ·rw [if_neg c5] at H
   exact absurd H (by simp)
 ·rw [if_neg c4] at H
  exact absurd H (by simp)
end
noncomputable section
def width_Width.f (k : Nat) (l0 : List Int) : Option (Int × Int) := (width_read.f k l0).bind fun bt135 => (if bt135.2 = true then ((width_town_width.f k bt135.1).bind fun t139 => (some (t139, 0))) else (some (0, 2)))
theorem width_Width.mono : ∀ a0 k, LeO (width_Width.f k a0) (width_Width.f (k + 1) a0) := by
 intro a0 k
 unfold width_Width.f
 repeat' first
   | (with_reducible exact width_read.mono _ _)
   | (with_reducible exact width_town_width.mono _ _)
   | (with_reducible exact LeO.refl _)
   | (with_reducible exact LeO.none _)
   | (with_reducible refine LeO.ite ?_ ?_)
   | (with_reducible refine LeO.bind ?_ (fun _ => ?_))
   | exact width_read.mono _ _
   | exact width_town_width.mono _ _
   | exact LeO.none _
   | refine LeO.ite ?_ ?_
   | refine LeO.bind ?_ (fun _ => ?_)
set_option maxHeartbeats 8000000 in
set_option maxRecDepth 100000 in
theorem width_Width.calls (k : Nat) (A0 : Option Addr) (c0 : Nat) (l0 : List Int) (r1 : Int) (r2 : Int) (w : World) (hGL : GL w) (hr0 : Kd.C (Kd.int .i64) w A0 l0.length l0) (hc0 : l0.length ≤ c0) (h : width_Width.f k l0 = some (r1, r2)) :
  Calls Tryd.prog 18 #[.slice A0 l0.length c0] w fun e w' => e = .returned (.tuple #[.int .i64 r1, .int .i64 r2]) ∧ Below w.heap.size w w' := by
 have HGL := Aside0.mk hGL
 clear hGL
 have HR0 := Aside0.mk hr0
 have HC0 := Aside0.mk hc0
 clear hr0 hc0
 have HB := Aside0.mk (Below.refl w.heap.size w)
 have H : ((width_read.f k l0).bind fun bt135 => (if bt135.2 = true then ((width_town_width.f k bt135.1).bind fun t139 => (some (t139, 0))) else (some (0, 2)))) = some (r1, r2) := h
 clear h
 replace H := Option.bind_eq_some_iff.mp H
 obtain ⟨⟨t135, t138⟩, A20, H⟩ := H
 replace H : (if t138 = true then ((width_town_width.f k t135).bind fun t139 => (some (t139, 0))) else (some (0, 2))) = some (r1, r2) := H
 have A2 := Aside0.mk A20
 clear A20
 by_cases c3 : t138 = true
 ·subst c3
  have H1 : ((width_town_width.f k t135).bind fun t139 => (some (t139, 0))) = some (r1, r2) := by rw [if_pos rfl] at H; exact H
  clear H
  have H := H1
  clear H1
  replace H := Option.bind_eq_some_iff.mp H
  obtain ⟨t139, A40, H⟩ := H
  replace H : (some (t139, 0)) = some (r1, r2) := H
  have A4 := Aside0.mk A40
  clear A40
  simp only [Option.some.injEq, Prod.mk.injEq] at H
  obtain ⟨rfl, rfl⟩ := H
  go_enter Tryd.func18, Tryd.ntmps18
  go_wp2_with (first | ((with_reducible refine gate_callee (f := 59) rfl ?_); refine goesL_ (some 8) rfl rfl Tryd.func59 (by kernel_rfl) rfl #[.slice A0 l0.length c0] rfl (Qls) ?_; (with_reducible refine (width_read.calls k (fun k_ => k_ < w.heap.size) _ _ l0 t135 true _ ?side1 A2.out).mono ?_); (case side1 => exact Kd.V_mk HC0.out (Kd.F_below (Kd.C_F (Kd.heap_int .i64) HR0.out) (Qaw))); rintro e w5 ⟨v136, rfl, ho0, hb⟩; refine ⟨_, rfl, ?_⟩; have n0_ := Aside0.mk (Kd.V_lower (Kd.V_mono (ok' := fun k_ => True) ho0 (fun k_ hk_ => trivial)) (below_size (Qaw))); have n1_ := Aside0.mk (below_step (Qaw) hb); clear HB; have HO137 := n0_; have HB := n1_; clear n0_ n1_; (try clear hb); (try clear hb2); (try clear hk); (try clear hi); (try clear ho0); obtain ⟨Ao6, co6, eo6⟩ := Kd.V_slice HO137.out; subst eo6) | ((with_reducible refine gate_callee (f := 60) rfl ?_); refine goesL_ (some 14) rfl rfl Tryd.func60 (by kernel_rfl) rfl #[.slice Ao6 t135.length co6] rfl (Qls) ?_; (with_reducible refine (width_town_width.calls (hGL := (Qlg)) k _ _ t135 t139 _ ?side1 ?side2 A4.out).mono ?_); (case side1 => exact Qsc (Kd.V_reads' HO137.out).2.2); (case side2 => exact (Kd.V_reads' HO137.out).2.1); rintro e w7 ⟨rfl, hb⟩; refine ⟨_, rfl, ?_⟩; have n0_ := Aside0.mk (Kd.V_below (by (with_reducible repeat (first | apply Kd.V_alloc | apply Kd.V_drewN | apply Kd.V_drew)); exact HO137.out) hb); have n1_ := Aside0.mk (below_step (Qaw) hb); clear HO137; clear HB; have HO137 := n0_; have HB := n1_; clear n0_ n1_; (try clear hb); (try clear hb2); (try clear hk); (try clear hi)))
  go_ret2
  exact ⟨by first | rfl | (simp [errW_none, errW_some] <;> rfl) | (simp [*, errW_none, errW_some] <;> rfl), by repeat (first | (with_reducible first | exact HB.out | apply below_alloc | apply pw_below_drewN | apply below_drew1) | exact HB.out)⟩
 ·replace c3 := Bool.eq_false_iff.mpr c3
  subst c3
  have H1 : (some (0, 2)) = some (r1, r2) := by rw [if_neg (show ¬ (false = true) by decide)] at H; exact H
  clear H
  have H := H1
  clear H1
  simp only [Option.some.injEq, Prod.mk.injEq] at H
  obtain ⟨rfl, rfl⟩ := H
  go_enter Tryd.func18, Tryd.ntmps18
  go_wp2_with (first | ((with_reducible refine gate_callee (f := 59) rfl ?_); refine goesL_ (some 8) rfl rfl Tryd.func59 (by kernel_rfl) rfl #[.slice A0 l0.length c0] rfl (Qls) ?_; (with_reducible refine (width_read.calls k (fun k_ => k_ < w.heap.size) _ _ l0 t135 false _ ?side1 A2.out).mono ?_); (case side1 => exact Kd.V_mk HC0.out (Kd.F_below (Kd.C_F (Kd.heap_int .i64) HR0.out) (Qaw))); rintro e w8 ⟨v136, rfl, ho0, hb⟩; refine ⟨_, rfl, ?_⟩; have n0_ := Aside0.mk (Kd.V_lower (Kd.V_mono (ok' := fun k_ => True) ho0 (fun k_ hk_ => trivial)) (below_size (Qaw))); have n1_ := Aside0.mk (below_step (Qaw) hb); clear HB; have HO137 := n0_; have HB := n1_; clear n0_ n1_; (try clear hb); (try clear hb2); (try clear hk); (try clear hi); (try clear ho0)))
  go_ret2
  exact ⟨by first | rfl | (simp [errW_none, errW_some] <;> rfl) | (simp [*, errW_none, errW_some] <;> rfl), by repeat (first | (with_reducible first | exact HB.out | apply below_alloc | apply pw_below_drewN | apply below_drew1) | exact HB.out)⟩
end
noncomputable section
def lampblacklaw02_awake.f (k : Nat)  : Option (Bool) := (width_Width.f k (([2, 1] : List Int))).bind fun bt153 => (if bt153.1 = 1 then (some (bt153.2 == 0)) else (some false))
theorem lampblacklaw02_awake.mono : ∀ k, LeO (lampblacklaw02_awake.f k ) (lampblacklaw02_awake.f (k + 1) ) := by
 intro  k
 unfold lampblacklaw02_awake.f
 repeat' first
   | (with_reducible exact width_Width.mono _ _)
   | (with_reducible exact LeO.refl _)
   | (with_reducible exact LeO.none _)
   | (with_reducible refine LeO.ite ?_ ?_)
   | (with_reducible refine LeO.bind ?_ (fun _ => ?_))
   | exact width_Width.mono _ _
   | exact LeO.none _
   | refine LeO.ite ?_ ?_
   | refine LeO.bind ?_ (fun _ => ?_)
set_option maxHeartbeats 8000000 in
set_option maxRecDepth 100000 in
theorem lampblacklaw02_awake.calls (k : Nat)  (r : Bool) (w : World) (hGL : GL w) (h : lampblacklaw02_awake.f k  = some r) :
  Calls Tryd.prog 20 #[] w fun e w' => e = .returned (.bool r) ∧ Below w.heap.size w w' := by
 have HGL := Aside0.mk hGL
 clear hGL
 have HB := Aside0.mk (Below.refl w.heap.size w)
 have H : ((width_Width.f k (([2, 1] : List Int))).bind fun bt153 => (if bt153.1 = 1 then (some (bt153.2 == 0)) else (some false))) = some r := h
 clear h
 obtain ⟨y150, hy150⟩ : ∃ y_ : List Int, y_ = (([2, 1] : List Int)) := ⟨_, rfl⟩
 replace H : ((width_Width.f k y150).bind fun bt153 => (if bt153.1 = 1 then (some (bt153.2 == 0)) else (some false))) = some r := by first | (rw [hy150]; with_reducible exact H) | (have H2_ := (Option.bind_some _ _).symm.trans H; rw [hy150]; with_reducible exact H2_) | (have H2_ := (Option.bind_some _ _).symm.trans H; with_reducible exact H2_) | with_reducible exact H | (rw [hy150]; exact H) | exact H
 have Ny150 := Aside0.mk hy150
 clear hy150
 replace H := Option.bind_eq_some_iff.mp H
 obtain ⟨⟨t153, t154⟩, A10, H⟩ := H
 replace H : (if t153 = 1 then (some (t154 == 0)) else (some false)) = some r := H
 have A1 := Aside0.mk A10
 clear A10
 by_cases c2 : t153 = 1
 ·rw [if_pos c2] at H
  have c2b0 : (t153 == 1) = true := beq_iff_eq.mpr c2
  have c2b1 : (t153 != 1) = false := bne_eq_false_iff_eq.mpr c2
  clear c2
  obtain rfl := Option.some.inj H
  go_enter Tryd.func20, Tryd.ntmps20
  go_wp2_with (first | ((with_reducible refine gate_dst (N := 4) rfl ?_); refine Kd.R_lit (Kd.int .i64) _ 3 ?hg (N := 4) ?hd (xs := ([2, 1] : List Int)) (inner := [.int .i64 2, .int .i64 1]) (ok := fun _ => True) (okp := fun _ => True) ?hr ?hp (fun _ hk => hk) trivial (Below.refl _ _) (Nat.le_refl _) (by simp) ?_; (case hd => rfl); (case hg => rfl); (case hr => first | (go_simp; done) | (go_simp; rfl)); (case hp => exact (Reps.one (show Kd.M (Kd.int .i64) _ _ _ 2 [.int .i64 2] from rfl) (Reps.one (show Kd.M (Kd.int .i64) _ _ _ 1 [.int .i64 1] from rfl) (Reps.none _ _)))); intro v151 w3 ho4 hb hg_ hnew_; clear hg_ hnew_; (first | rw [← Ny150.out] at ho4 | (simp only [Int.reduceToNat] at ho4; rw [← Ny150.out] at ho4)); have n0_ := Aside0.mk (Kd.R_lower ho4 (below_size (Qaw))); have n1_ := Aside0.mk (below_step (Qaw) hb); clear HB; have HO152 := n0_; have HB := n1_; clear n0_ n1_; clear hb ho4; obtain ⟨Ao5, co5, eo5⟩ := Kd.R_slice HO152.out; subst eo5) | ((with_reducible refine gate_callee (f := 18) rfl ?_); refine goesL_ (some 5) rfl rfl Tryd.func18 (by kernel_rfl) rfl #[.slice Ao5 y150.length co5] rfl (Qls) ?_; (with_reducible refine (width_Width.calls (hGL := (Qlg)) k _ _ y150 t153 t154 _ ?side1 ?side2 A1.out).mono ?_); (case side1 => exact Qsc (Kd.R_reads' HO152.out).2.2); (case side2 => exact (Kd.R_reads' HO152.out).2.1); rintro e w6 ⟨rfl, hb⟩; refine ⟨_, rfl, ?_⟩; have n0_ := Aside0.mk (Kd.R_below (Qro HO152.out) hb); have n1_ := Aside0.mk (below_step (Qaw) hb); clear HO152; clear HB; have HO152 := n0_; have HB := n1_; clear n0_ n1_; (try clear hb); (try clear hb2); (try clear hk); (try clear hi)))
  go_ret
  exact ⟨by first | rfl | (simp [errW_none, errW_some] <;> rfl) | (simp [*, errW_none, errW_some] <;> rfl), by repeat (first | (with_reducible first | exact HB.out | apply below_alloc | apply pw_below_drewN | apply below_drew1) | exact HB.out)⟩
 ·rw [if_neg c2] at H
  have c2b0 : (t153 == 1) = false := beq_eq_false_iff_ne.mpr c2
  have c2b1 : (t153 != 1) = true := bne_iff_ne.mpr c2
  obtain rfl := Option.some.inj H
  go_enter Tryd.func20, Tryd.ntmps20
  go_wp2_with (first | ((with_reducible refine gate_dst (N := 4) rfl ?_); refine Kd.R_lit (Kd.int .i64) _ 3 ?hg (N := 4) ?hd (xs := ([2, 1] : List Int)) (inner := [.int .i64 2, .int .i64 1]) (ok := fun _ => True) (okp := fun _ => True) ?hr ?hp (fun _ hk => hk) trivial (Below.refl _ _) (Nat.le_refl _) (by simp) ?_; (case hd => rfl); (case hg => rfl); (case hr => first | (go_simp; done) | (go_simp; rfl)); (case hp => exact (Reps.one (show Kd.M (Kd.int .i64) _ _ _ 2 [.int .i64 2] from rfl) (Reps.one (show Kd.M (Kd.int .i64) _ _ _ 1 [.int .i64 1] from rfl) (Reps.none _ _)))); intro v151 w7 ho8 hb hg_ hnew_; clear hg_ hnew_; (first | rw [← Ny150.out] at ho8 | (simp only [Int.reduceToNat] at ho8; rw [← Ny150.out] at ho8)); have n0_ := Aside0.mk (Kd.R_lower ho8 (below_size (Qaw))); have n1_ := Aside0.mk (below_step (Qaw) hb); clear HB; have HO152 := n0_; have HB := n1_; clear n0_ n1_; clear hb ho8; obtain ⟨Ao9, co9, eo9⟩ := Kd.R_slice HO152.out; subst eo9) | ((with_reducible refine gate_callee (f := 18) rfl ?_); refine goesL_ (some 5) rfl rfl Tryd.func18 (by kernel_rfl) rfl #[.slice Ao9 y150.length co9] rfl (Qls) ?_; (with_reducible refine (width_Width.calls (hGL := (Qlg)) k _ _ y150 t153 t154 _ ?side1 ?side2 A1.out).mono ?_); (case side1 => exact Qsc (Kd.R_reads' HO152.out).2.2); (case side2 => exact (Kd.R_reads' HO152.out).2.1); rintro e w10 ⟨rfl, hb⟩; refine ⟨_, rfl, ?_⟩; have n0_ := Aside0.mk (Kd.R_below (Qro HO152.out) hb); have n1_ := Aside0.mk (below_step (Qaw) hb); clear HO152; clear HB; have HO152 := n0_; have HB := n1_; clear n0_ n1_; (try clear hb); (try clear hb2); (try clear hk); (try clear hi)))
  go_ret
  exact ⟨by first | rfl | (simp [errW_none, errW_some] <;> rfl) | (simp [*, errW_none, errW_some] <;> rfl), by repeat (first | (with_reducible first | exact HB.out | apply below_alloc | apply pw_below_drewN | apply below_drew1) | exact HB.out)⟩
end
end Go.Proofs.YtoffehihicabcaaDoor.X
end
section
namespace Go.Proofs.YtoffehihicabcaaDoor.X
open Go.RowKit YtoffehihicabcaaDoorW.PrintWords YtoffehihicabcaaDoorW.PrintLast YtoffehihicabcaaDoorW.PrintMore YtoffehihicabcaaDoor.T
def PS (G : List Nat) (S x : Nat) : Prop := ∀ k, x ≤ k ↔ ElimG G k S
theorem mx_nat (a b : Nat) : mx (a : Int) (b : Int) = ((max a b : Nat) : Int) := by unfold mx; split <;> omega
theorem mn_nat (a b : Nat) : mn (a : Int) (b : Int) = ((min a b : Nat) : Int) := by unfold mn; split <;> omega
def Good (G : List Nat) (r : List Int) : Prop := ∃ W : List Nat, r = gi W ∧ W.length = 2 ^ G.length ∧ ∀ S, S < 2 ^ G.length → PS G S (W.getD S 0)
theorem getD_set (W : List Nat) (i j x : Nat) (hi : i < W.length) : (W.set i x).getD j 0 = if j = i then x else W.getD j 0 := by
 simp only [List.getD_eq_getElem?_getD, List.getElem?_set]
 by_cases h : i = j
 ·subst h; simp [hi]
 ·rw [if_neg h, if_neg (fun e => h e.symm)]
theorem widths_l1 (G : List Nat) (hG : Gr 9 G) (S : Nat) (hS : S < 2 ^ G.length) (h0 : S ≠ 0)
  (cont : ∀ W : List Nat, W.length = 2 ^ G.length → (∀ T, T < S + 1 → PS G T (W.getD T 0)) → ∃ r, Ev (fun k => width_town_widths.l0 k (gi G) (gi W) ((S + 1 : Nat) : Int)) r ∧ Good G r) :
  ∀ d i (W : List Nat), i + d = (els S 9).length → W.length = 2 ^ G.length → (∀ T, T < S → PS G T (W.getD T 0)) →
   (∀ k, W.getD S 0 ≤ k ↔ G.length ≤ k ∨ ∃ v, v ∈ (els S 9).take i ∧ ElimG G k (diff S (2 ^ v)) ∧ pc (nbset G (diff S (2 ^ v)) v) 9 ≤ k) →
   ∃ r, Ev (fun k => width_town_widths.l1 k (gi G) (gi W) (S : Int) (gi (els S 9)) ((els S 9).length : Int) (i : Int)) r ∧ Good G r := by
 have hS5 := small G hG.most hS
 have h29 : 2 ^ G.length ≤ 2 ^ 9 := Nat.pow_le_pow_right (by omega) hG.most
 have hn := hG.most
 have hlen : (els S 9).length ≤ 9 := by rw [els_length]; exact pc_le _ _
 intro d
 induction d with
 | zero =>
  intro i W hi hW hT hc
  have hPS : PS G S (W.getD S 0) := by
   intro k
   rw [hc k]
   by_cases hk : G.length ≤ k
   ·exact ⟨fun _ => elimG_big hG hk S hS, fun _ => .inl hk⟩
   ·rw [elimG_step hG hS h0]
    have e : (els S 9).take i = els S 9 := List.take_of_length_le (by omega)
    rw [e]
    constructor
    ·rintro (h | ⟨v, hv, h1, h2⟩)
     ·exact (hk h).elim
     ·exact ⟨v, (mem_els.1 hv).2, h1, by rwa [← pc_nine (nbset_lt hG _ _) hn]⟩
    ·rintro ⟨v, hv, h1, h2⟩
     exact .inr ⟨v, mem_els.2 ⟨Nat.lt_of_lt_of_le (bit_lt hS hv) hn, hv⟩, h1, by rwa [pc_nine (nbset_lt hG _ _) hn]⟩
  obtain ⟨r, h1, h2⟩ := cont W hW (fun T hT' => by
   by_cases e : T = S
   ·subst e; exact hPS
   ·exact hT T (by omega))
  refine ⟨r, Ev.step (fun k => ?_) h1, h2⟩
  rw [width_town_widths.l1, if_neg (by omega), wrap_succ S (by omega)]
 | succ d ih =>
  intro i W hi hW hT hc
  have hi' : i < (els S 9).length := by omega
  have hmem := List.getElem_mem hi'
  have hv := (mem_els.1 hmem).2
  have hvn := bit_lt hS hv
  have hr : rd (gi (els S 9)) (i : Int) = (((els S 9)[i] : Nat) : Int) := by rw [rd_gi, List.getD_eq_getElem?_getD, List.getElem?_eq_getElem hi']; rfl
  generalize hev : (els S 9)[i] = v at hr hv hvn hmem
  have hp : 2 ^ v < 2 ^ G.length := Nat.pow_lt_pow_right (by omega) hvn
  have hd : diff S (2 ^ v) < S := diff_lt hv
  have hdl : diff S (2 ^ v) < 2 ^ G.length := by omega
  have hdeg := degree_ev G hG (diff S (2 ^ v)) v hdl hvn
  obtain ⟨r, h1, h2⟩ := ih (i + 1) (W.set S (min (W.getD S 0) (max (W.getD (diff S (2 ^ v)) 0) (pc (nbset G (diff S (2 ^ v)) v) 9)))) (by omega) (by simpa using hW)
   (fun T hT' => by
    rw [getD_set W _ _ _ (by omega), if_neg (by omega)]
    exact hT T hT')
   (fun k => by
    rw [getD_set W _ _ _ (by omega), if_pos rfl]
    have hps := hT _ hd k
    have htake : (els S 9).take (i + 1) = (els S 9).take i ++ [v] := by rw [List.take_succ_eq_append_getElem hi', hev]
    rw [htake]
    constructor
    ·intro h
     by_cases hk : W.getD S 0 ≤ k
     ·rcases (hc k).1 hk with h | ⟨u, hu, h3⟩
      ·exact .inl h
      ·exact .inr ⟨u, List.mem_append_left _ hu, h3⟩
     ·refine .inr ⟨v, List.mem_append_right _ (List.mem_singleton.2 rfl), hps.1 (by omega), by omega⟩
    ·rintro (h | ⟨u, hu, h3, h4⟩)
     ·have := (hc k).2 (.inl h); omega
     ·rcases List.mem_append.1 hu with hu | hu
      ·have := (hc k).2 (.inr ⟨u, hu, h3, h4⟩); omega
      ·obtain rfl := List.mem_singleton.1 hu
       have := hps.2 h3
       omega)
  refine ⟨r, Ev.step (f := fun k => (width_town_degree.f k (gi G) (v : Int) ((diff S (2 ^ v) : Nat) : Int)).bind fun t => width_town_widths.l1 k (gi G) ((gi W).set (S : Int).toNat (mn (rd (gi W) (S : Int)) (mx (rd (gi W) ((diff S (2 ^ v) : Nat) : Int)) t))) (S : Int) (gi (els S 9)) ((els S 9).length : Int) ((i + 1 : Nat) : Int)) (fun k => ?_) (Ev.bind hdeg ?_), h2⟩
  ·rw [width_town_widths.l1, if_pos (by omega), if_pos (by omega), if_pos (by rw [gi_length]; omega), if_pos (by omega), if_pos (by rw [gi_length]; omega), hr, if_pos (by omega), s_one v (by omega),
    b_andNot S (2 ^ v) (big hS5) (big (small G hn hp)), if_pos (by omega), if_pos (by rw [gi_length]; omega), wrap_succ i (by omega)]
  ·simp only [rd_gi, mx_nat, mn_nat, Int.toNat_natCast, gi_set]
   exact h1
theorem widths_l0 (G : List Nat) (hG : Gr 9 G) : ∀ d S (W : List Nat), S + d = 2 ^ G.length → 0 < S → W.length = 2 ^ G.length → (∀ T, T < S → PS G T (W.getD T 0)) →
  ∃ r, Ev (fun k => width_town_widths.l0 k (gi G) (gi W) (S : Int)) r ∧ Good G r := by
 have h29 : 2 ^ G.length ≤ 2 ^ 9 := Nat.pow_le_pow_right (by omega) hG.most
 intro d
 induction d with
 | zero =>
  intro S W hS h0 hW hT
  refine ⟨gi W, Ev.step (f := fun _ => some (gi W)) (fun k => ?_) (Ev.some rfl), W, rfl, hW, fun T h => hT T (by omega)⟩
  rw [width_town_widths.l0, if_neg (by rw [gi_length]; omega)]
 | succ d ih =>
  intro S W hS h0 hW hT
  have hSn : S < 2 ^ G.length := by omega
  have hS5 := small G hG.most hSn
  obtain ⟨r, h1, h2⟩ := widths_l1 G hG S hSn (by omega) (fun W' hW' hT' => ih (S + 1) W' (by omega) (by omega) hW' hT') (els S 9).length 0 (W.set S G.length) (by omega) (by simpa using hW)
   (fun T hT' => by
    rw [getD_set W _ _ _ (by omega), if_neg (by omega)]
    exact hT T hT')
   (fun k => by
    rw [getD_set W _ _ _ (by omega), if_pos rfl]
    simp)
  refine ⟨r, Ev.step (fun k => by rw [width_town_widths.l0, if_pos (by rw [gi_length]; omega), if_pos (by omega)]) (Ev.bind (nodes_ev S hS5) ?_), h2⟩
  simp only [Int.toNat_natCast, gi_length]
  have e : (gi W).set S (G.length : Int) = gi (W.set S G.length) := gi_set W S G.length
  rw [e]
  exact h1
theorem widths_ev (G : List Nat) (hG : Gr 9 G) : ∃ r, Ev (fun k => width_town_widths.f k (gi G)) r ∧ Good G r := by
 have h29 : 2 ^ G.length ≤ 2 ^ 9 := Nat.pow_le_pow_right (by omega) hG.most
 have h2p := Nat.two_pow_pos G.length
 have hn := hG.most
 obtain ⟨r, h1, h2⟩ := widths_l0 G hG (2 ^ G.length - 1) 1 (List.replicate (2 ^ G.length) 0) (by omega) (by omega) (by simp)
  (fun T hT k => by
   have : T = 0 := by omega
   subst this
   have e : (List.replicate (2 ^ G.length) 0).getD 0 0 = 0 := by
    rw [List.getD_eq_getElem?_getD, List.getElem?_replicate]; split <;> rfl
   rw [e]
   exact ⟨fun _ => elimG_zero G k, fun _ => Nat.zero_le k⟩)
 refine ⟨r, Ev.congr (fun k => ?_) h1, h2⟩
 unfold width_town_widths.f
 rw [gi_length, s_one _ (by omega), if_pos (by omega), Int.toNat_natCast, if_pos (by omega)]
 have e : List.replicate (2 ^ G.length) (0 : Int) = gi (List.replicate (2 ^ G.length) 0) := by simp [gi]
 rw [e]
 rfl
theorem width_ev (G : List Nat) (hG : Gr 9 G) : ∃ W : Nat, IsWidth G W ∧ Ev (fun k => width_town_width.f k (gi G)) (W : Int) := by
 have h2p := Nat.two_pow_pos G.length
 obtain ⟨r, h1, W, rfl, hW, hg⟩ := widths_ev G hG
 refine ⟨W.getD (2 ^ G.length - 1) 0, hg _ (by omega), ?_⟩
 unfold width_town_width.f
 refine Ev.bind h1 (Ev.bind1 (all_eq G hG.most) ?_)
 refine Ev.if_pos (by omega) (Ev.if_pos (by rw [gi_length]; omega) (Ev.some ?_))
 rw [rd_gi]
theorem awake_ev : Ev (fun k => lampblacklaw02_awake.f k) true := Ev.of (lampblacklaw02_awake.mono) (k := 40) (by decide +kernel)
end Go.Proofs.YtoffehihicabcaaDoor.X
end
section
namespace Go.Proofs.YtoffehihicabcaaDoor.X
open Go.RowKit YtoffehihicabcaaDoorW.PrintWords YtoffehihicabcaaDoorW.PrintLast YtoffehihicabcaaDoorW.PrintMore
attribute [local go_sem] max2_int min2_int max_two min_two max_three min_three max_four min_four
noncomputable section
mutual
def lampblackref02_Connected.j0 : Nat → List Int → Int → Bool → Option (Bool)
 | 0, _, _, _ => none
 | k + 1, x0, x1, x14 => if x14 = true then (some false) else (lampblackref02_Connected.l0 k x0 x1 0)
def lampblackref02_Connected.l0 : Nat → List Int → Int → Int → Option (Bool)
 | 0, _, _, _ => none
 | k + 1, x0, x1, x5 => if 0 ≤ x5 then (if (Go.bits .and .i64 (shr .i64 x1 x5) 1) = 0 then (lampblackref02_Connected.l0 k x0 x1 (wrap64 (x5 + 1))) else ((lampblackref01_Reached.f k x0 x1 x5).bind fun t219 => (some (t219 == x1)))) else (none)
end
def lampblackref02_Connected.f (k : Nat) (l0 : List Int) (a1 : Int) : Option (Bool) := if a1 ≤ 0 then (lampblackref02_Connected.j0 k l0 a1 true) else (lampblackref02_Connected.j0 k l0 a1 (decide (a1 ≥ (shl .i64 1 (l0.length : Int)))))
end
noncomputable section
def lampblackref02_Around.l0 : Nat → List Int → Int → Int → Int → Int → Option (Int)
 | 0, _, _, _, _, _ => none
 | k + 1, x0, x1, x5, x8, x9 => if x9 < x8 then (if 0 ≤ x9 then (if (Go.bits .and .i64 (shr .i64 x1 x9) 1) = 1 then (if x9 < (x0.length : Int) then (lampblackref02_Around.l0 k x0 x1 (Go.bits .or .i64 x5 (rd x0 x9)) x8 (wrap64 (x9 + 1))) else (none)) else (lampblackref02_Around.l0 k x0 x1 x5 x8 (wrap64 (x9 + 1)))) else (none)) else (some x5)
def lampblackref02_Around.f (k : Nat) (l0 : List Int) (a1 : Int) : Option (Int) := lampblackref02_Around.l0 k l0 a1 0 (l0.length : Int) 0
end
noncomputable section
def lampblackref02_Touch.f (k : Nat) (l0 : List Int) (a1 : Int) (a2 : Int) : Option (Bool) := (lampblackref02_Around.f k l0 a1).bind fun t221 => (some ((Go.bits .and .i64 (Go.bits .or .i64 a1 t221) a2) != 0))
end
noncomputable section
end
noncomputable section
def lampblackref02_Size.l0 : Nat → Int → Int → Option (Int)
 | 0, _, _ => none
 | k + 1, x0, x3 => if x0 > 0 then (lampblackref02_Size.l0 k (Go.bits .and .i64 x0 (wrap64 (x0 - 1))) (wrap64 (x3 + 1))) else (some x3)
def lampblackref02_Size.f (k : Nat) (a0 : Int) : Option (Int) := lampblackref02_Size.l0 k a0 0
end
noncomputable section
def slices_Clone_Graph.f (l0 : List Int) : Option (List Int) := (some (([] : List Int) : List Int)).bind fun y140 => (if y140.length + l0.length < 17592186044416 then (some (y140 ++ l0)) else (none))
set_option maxHeartbeats 8000000 in
set_option maxRecDepth 100000 in
theorem slices_Clone_Graph.calls_some (a0 : Addr) (c0 : Nat) (l0 : List Int) (r : List Int) (w : World) (hr0 : Kd.C (Kd.int .i64) w (some a0) l0.length l0) (hc0 : l0.length ≤ c0) (h : slices_Clone_Graph.f l0 = some r) :
  Calls Tryd.prog 61 #[.slice (some a0) l0.length c0] w fun e w' => ∃ v0_ : Value, e = .returned (v0_) ∧ Kd.R (Kd.int .i64) 3 w' w.heap.size (fun _ => True) v0_ r ∧ Below w.heap.size w w' := by
 have HR0 := Aside0.mk hr0
 have HC0 := Aside0.mk hc0
 clear hr0 hc0
 have HB := Aside0.mk (Below.refl w.heap.size w)
 have H : ((some (([] : List Int) : List Int)).bind fun y140 => (if y140.length + l0.length < 17592186044416 then (some (y140 ++ l0)) else (none))) = some r := h
 clear h
 obtain ⟨y140, hy140⟩ : ∃ y_ : List Int, y_ = (([] : List Int)) := ⟨_, rfl⟩
 replace H : (if y140.length + l0.length < 17592186044416 then (some (y140 ++ l0)) else (none)) = some r := by first | (rw [hy140]; with_reducible exact H) | (have H2_ := (Option.bind_some _ _).symm.trans H; rw [hy140]; with_reducible exact H2_) | (have H2_ := (Option.bind_some _ _).symm.trans H; with_reducible exact H2_) | with_reducible exact H | (rw [hy140]; exact H) | exact H
 have Ny140 := Aside0.mk hy140
 clear hy140
 by_cases c2 : y140.length + l0.length < 17592186044416
 ·rw [if_pos c2] at H
  have LMc2 := Aside0.mk c2
  clear c2
  obtain ⟨y143, hy143⟩ : ∃ y_ : List Int, y_ = (y140 ++ l0) := ⟨_, rfl⟩
  replace H : (some y143) = some r := by first | (rw [hy143]; with_reducible exact H) | (have H2_ := (Option.bind_some _ _).symm.trans H; rw [hy143]; with_reducible exact H2_) | (have H2_ := (Option.bind_some _ _).symm.trans H; with_reducible exact H2_) | with_reducible exact H | (rw [hy143]; exact H) | exact H
  have Ny143 := Aside0.mk hy143
  clear hy143
  obtain rfl := Option.some.inj H
  have heq_ := fun (w : World) => Lib.run_eql_slice_nil (P := Tryd.prog) w 23 3 (some a0) l0.length c0 0 0 Tryd.underlying23
  go_enter Tryd.func61, Tryd.ntmps61
  go_wp2_with (first | ((with_reducible refine gate_dst (N := 5) rfl ?_); refine Kd.R_lit (Kd.int .i64) _ 3 ?hg (N := 5) ?hd (xs := ([] : List Int)) (inner := []) (ok := fun _ => True) (okp := fun _ => True) ?hr ?hp (fun _ hk => hk) trivial (Below.refl _ _) (Nat.le_refl _) (by simp) ?_; (case hd => rfl); (case hg => rfl); (case hr => first | (go_simp; done) | (go_simp; rfl)); (case hp => exact (Reps.none _ _)); intro v141 w3 ho4 hb hg_ hnew_; clear hg_ hnew_; (first | rw [← Ny140.out] at ho4 | (simp only [Int.reduceToNat] at ho4; rw [← Ny140.out] at ho4)); have n0_ := Aside0.mk (Kd.R_lower ho4 (below_size (Qaw))); have n1_ := Aside0.mk (below_step (Qaw) hb); clear HB; have HO142 := n0_; have HB := n1_; clear n0_ n1_; clear hb ho4) | ((with_reducible refine gate_builtin (b := .append) (xs := #[.tmp 5, .tmp 6]) rfl ?_); at_builtin; refine Kd.R_append_rows (Kd.int .i64) (w0 := w) w.heap.size rfl (.tmp 5) (.tmp 6) 23 3 (.int .i64 0) 8 rfl Tryd.underlying23 info3 rfl (by decide) (by omega) v141 y140 l0 _ _ _ (fun _ => True) (fun _ => False) rfl rfl ?aO ?aR (fun _ _ h => h) (fun _ h => h.elim) ?aF ?aB ?aS ?aL ?_; (case aR => exact Qsc (Kd.C_below HR0.out HB.out)); (case aB => exact (Qaw)); (case aF => exact (fun _ _ => trivial)); (case aO => exact (Qro HO142.out)); (case aS => exact (below_size (Qaw))); (case aL => have := LMc2.out; omega); intro v144 w5 ho hb hg hat; rw [← Ny143.out] at ho; have n0_ := Aside0.mk (hb); have n1_ := Aside0.mk (ho); clear HB; clear HO142; have HB := n0_; have HO145 := n1_; clear n0_ n1_; clear ho hb hg hat))
  go_ret
  exact ⟨_, by first | rfl | (simp [errW_none, errW_some] <;> rfl) | (simp [*, errW_none, errW_some] <;> rfl), by (with_reducible repeat (first | apply Kd.R_alloc | apply Kd.R_drewN | apply Kd.R_drew)); exact HO145.out, by repeat (first | (with_reducible first | exact HB.out | apply below_alloc | apply pw_below_drewN | apply below_drew1) | exact HB.out)⟩
 ·rw [if_neg c2] at H
  exact absurd H (by simp)
theorem slices_Clone_Graph.calls (A0 : Option Addr) (c0 : Nat) (l0 : List Int) (r : List Int) (w : World) (hr0 : Kd.C (Kd.int .i64) w A0 l0.length l0) (hc0 : l0.length ≤ c0) (h : slices_Clone_Graph.f l0 = some r) :
  Calls Tryd.prog 61 #[.slice A0 l0.length c0] w fun e w' => ∃ v0_ : Value, e = .returned (v0_) ∧ Kd.R (Kd.int .i64) 3 w' w.heap.size (fun _ => True) v0_ r ∧ Below w.heap.size w w' := by
 cases A0 with
 | some a0 => exact slices_Clone_Graph.calls_some a0 c0 l0 r w hr0 hc0 h
 | none =>
  have hl : l0 = [] := by
   rcases Nat.eq_zero_or_pos l0.length with h0 | h0
   ·exact List.length_eq_zero_iff.mp h0
   ·obtain ⟨ad, he, _⟩ := hr0.2.2 h0
    cases he
  subst hl
  obtain rfl : [] = r := by simpa [slices_Clone_Graph.f] using h
  clear h hr0 hc0
  have heq_ := fun (w : World) => Lib.run_eql_slice_nil (P := Tryd.prog) w 23 3 none 0 c0 0 0 Tryd.underlying23
  go_enter Tryd.func61, Tryd.ntmps61
  go_wp2
  go_ret
  exact ⟨_, rfl, Kd.R_nil _ _ _ _ _, Below.refl _ _⟩
end
noncomputable section
def lampblacklaw02_Few.f (l0 : List Int) : Option (List Int) := if 0 ≤ (mn (l0.length : Int) 13) then (if (mn (l0.length : Int) 13) ≤ (l0.length : Int) then ((slices_Clone_Graph.f (l0.take ((mn (l0.length : Int) 13) : Int).toNat)).bind fun t147 => (some t147)) else (none)) else (none)
set_option maxHeartbeats 8000000 in
set_option maxRecDepth 100000 in
theorem lampblacklaw02_Few.calls (A0 : Option Addr) (c0 : Nat) (l0 : List Int) (r : List Int) (w : World) (hr0 : Kd.C (Kd.int .i64) w A0 l0.length l0) (hc0 : l0.length ≤ c0) (h : lampblacklaw02_Few.f l0 = some r) :
  Calls Tryd.prog 19 #[.slice A0 l0.length c0] w fun e w' => ∃ v0_ : Value, e = .returned (v0_) ∧ Kd.R (Kd.int .i64) 3 w' w.heap.size (fun _ => True) v0_ r ∧ Below w.heap.size w w' := by
 have HR0 := Aside0.mk hr0
 have HC0 := Aside0.mk hc0
 clear hr0 hc0
 have HB := Aside0.mk (Below.refl w.heap.size w)
 have H : (if 0 ≤ (mn (l0.length : Int) 13) then (if (mn (l0.length : Int) 13) ≤ (l0.length : Int) then ((slices_Clone_Graph.f (l0.take ((mn (l0.length : Int) 13) : Int).toNat)).bind fun t147 => (some t147)) else (none)) else (none)) = some r := h
 clear h
 obtain ⟨ji2, hji2⟩ : ∃ j_ : Int, (mn (l0.length : Int) 13) = j_ := ⟨_, rfl⟩
 replace H : (if 0 ≤ (ji2) then (if (ji2) ≤ (l0.length : Int) then ((slices_Clone_Graph.f (l0.take ((ji2) : Int).toNat)).bind fun t147 => (some t147)) else (none)) else (none)) = some r := by first | (rw [hji2] at H; exact H) | (simp only [hji2] at H ⊢; exact H)
 (try (have hji2h : ji2 ≤ 13 := by (rw [← hji2]; unfold mn; (repeat' split) <;> omega)))
 (try (have hji2g : ji2 ≤ 64 := by omega))
 (try (have hji2l : 0 ≤ ji2 := by (rw [← hji2]; unfold mn; (repeat' split) <;> omega)))
 (try (have hji2m : 0 ≤ ji2 := by omega))
 have hji2_ : (if 13 < (l0.length : Int) then 13 else (l0.length : Int)) = ji2 := hji2
 by_cases c3 : 0 ≤ (ji2)
 ·rw [if_pos c3] at H
  have c3b0 := eq_true c3
  have c3b1 : decide (0 ≤ (ji2)) = true := decide_eq_true c3
  clear c3
  by_cases c4 : (ji2) ≤ (l0.length : Int)
  ·rw [if_pos c4] at H
   have c4b0 := eq_true c4
   have c4b1 : decide ((ji2) ≤ (l0.length : Int)) = true := decide_eq_true c4
   clear c4
   replace H := Option.bind_eq_some_iff.mp H
   obtain ⟨t147, A50, H⟩ := H
   replace H : (some t147) = some r := H
   have A5 := Aside0.mk A50
   clear A50
   obtain rfl := Option.some.inj H
   obtain ⟨i06, hi06, _, hsz6, _⟩ := info_parts info3
   obtain ⟨hcut6, hA6, hC6⟩ := print_take_of (P := Tryd.prog) (Value.int .i64) 0 23 3 .i64 Tryd.underlying23 hi06 hsz6 A0 c0 l0 (ji2) (of_decide_eq_true (Qas)) (of_decide_eq_true (Qas)) HC0.out
   have HR146 := Aside0.mk (Kd.C_of_reads (h1 := fun _ => rfl) (hA6 _ (Kd.reads_of_C HR0.out)))
   have HC146 := Aside0.mk hC6
   clear hA6 hC6 hi06 hsz6
   go_enter Tryd.func19, Tryd.ntmps19
   go_wp2_with (first | ((with_reducible refine gate_callee (f := 61) rfl ?_); refine goesL_ (some 8) rfl rfl Tryd.func61 (by kernel_rfl) rfl #[.slice A0 (l0.take ((ji2) : Int).toNat).length c0] rfl (by (try simp only [List.map_toArray, List.map_cons, List.map_nil]); first | done | (rw [show (l0.take ((ji2) : Int).toNat).length = (ji2).toNat from (by rw [List.length_take]; have h_ : ((ji2) : Int) ≤ (l0.length : Int) := of_decide_eq_true (Qas); omega)] <;> rfl) | (simp only [hji2]; rfl) | rfl | (simp only [List.length_drop, List.length_take]; rfl)) ?_; (with_reducible refine (slices_Clone_Graph.calls _ _ (l0.take ((ji2) : Int).toNat) t147 _ ?side1 ?side2 A5.out).mono ?_); (case side1 => exact Qsc HR146.out); (case side2 => exact HC146.out); rintro e w7 ⟨v148, rfl, ho0, hb⟩; refine ⟨_, rfl, ?_⟩; have n0_ := Aside0.mk (Kd.R_lower ho0 (below_size (Qaw))); have n1_ := Aside0.mk (below_step (Qaw) hb); clear HB; have HO149 := n0_; have HB := n1_; clear n0_ n1_; (try clear hb); (try clear hb2); (try clear hk); (try clear hi); (try clear ho0)))
   go_ret
   exact ⟨_, by first | rfl | (simp [errW_none, errW_some] <;> rfl) | (simp only [← hji2]; first | rfl | (simp [errW_none, errW_some] <;> rfl)) | (simp [*, errW_none, errW_some] <;> rfl), by (with_reducible repeat (first | apply Kd.R_alloc | apply Kd.R_drewN | apply Kd.R_drew)); exact HO149.out, by repeat (first | (with_reducible first | exact HB.out | apply below_alloc | apply pw_below_drewN | apply below_drew1) | exact HB.out)⟩
  ·rw [if_neg c4] at H
   exact absurd H (by simp)
 ·rw [if_neg c3] at H
  exact absurd H (by simp)
end
noncomputable section
end
end Go.Proofs.YtoffehihicabcaaDoor.X
end
section
namespace Go.Proofs.YtoffehihicabcaaDoor.X
open Go.RowKit YtoffehihicabcaaDoorW.PrintWords YtoffehihicabcaaDoorW.PrintLast YtoffehihicabcaaDoorW.PrintMore YtoffehihicabcaaDoor.T
def low (a : Nat) : Nat := (els a 9).headD 0
theorem few_eq (g : List Int) (hg : g.length < 2 ^ 44) : ∃ h, lampblacklaw02_Few.f g = some h ∧ (chk 9 g = true → h = g) ∧ (chk 9 g = false → chk 9 h = false) ∧ h.length ≤ 13 := by
 have hm : mn (g.length : Int) 13 = ((min g.length 13 : Nat) : Int) := mn_nat g.length 13
 refine ⟨g.take (min g.length 13), ?_, ?_, ?_, ?_⟩
 ·unfold lampblacklaw02_Few.f slices_Clone_Graph.f
  simp only [hm, Int.toNat_natCast]
  rw [if_pos (by omega), if_pos (by omega)]
  simp only [Option.bind_some, List.length_nil, List.nil_append]
  rw [if_pos (by rw [List.length_take]; omega)]
  rfl
 ·intro h
  simp only [chk, Bool.and_eq_true, decide_eq_true_eq] at h
  exact List.take_of_length_le (by omega)
 ·intro h
  by_cases hl : g.length ≤ 13
  ·rw [List.take_of_length_le (by omega)]; exact h
  ·unfold chk
   have : ¬ (List.take (min g.length 13) g).length ≤ 9 := by rw [List.length_take]; omega
   rw [decide_eq_false this, Bool.and_false, Bool.false_and]
 ·rw [List.length_take]; omega
def cycB (P : List Int) : Nat → Int → Bool
 | 0, at_ => decide (0 ≤ at_)
 | d + 1, at_ => if at_ < 0 then false else cycB P d (rd P at_)
def InP (P : List Int) : Prop := ∀ i, i < P.length → -1 ≤ rd P (i : Int) ∧ rd P (i : Int) < (P.length : Int)
def bothB (u v : Nat) (b : Int) : Bool := b.toNat.testBit u && b.toNat.testBit v
def bitI (x : Int) (v : Nat) : Bool := x.toNat.testBit v
def tl1 (B P : List Int) (n all_ : Nat) : Nat → Nat → Nat → Nat → Option (Nat × Nat)
 | 0, _, ro, ac => some (ro, ac)
 | d + 1, i, ro, ac => if rd P (i : Int) < -1 then none else if (n : Int) ≤ rd P (i : Int) then none else if rd B (i : Int) < 0 then none else if (all_ : Int) < rd B (i : Int) then none else tl1 B P n all_ d (i + 1) (if rd P (i : Int) < 0 then ro + 1 else ro) (ac ||| (rd B (i : Int)).toNat)
def topsF (B P : List Int) (v : Nat) : Nat → Nat → Nat → Nat
 | 0, _, t => t
 | d + 1, i, t => topsF B P v d (i + 1) (if bitI (rd B (i : Int)) v && (decide (rd P (i : Int) < 0) || !bitI (rd B (rd P (i : Int))) v) then t + 1 else t)
def nbF (B : List Int) (v : Nat) : List Nat → Bool
 | [] => true
 | u :: us => B.any (bothB u v) && nbF B v us
def tl2 (G : List Nat) (B P : List Int) : Nat → Nat → Bool
 | 0, _ => true
 | d + 1, v => if topsF B P v B.length 0 0 = 1 then nbF B v (els (G.getD v 0) 9) && tl2 G B P d (v + 1) else false
def treeB2 (G : List Nat) (B P : List Int) : Option (Nat × Nat) → Bool
 | none => false
 | some r => if r.1 = 1 then if r.2 = 2 ^ G.length - 1 then if P.any (cycB P P.length) then false else tl2 G B P G.length 0 else false else false
def treeB (G : List Nat) (B P : List Int) : Bool := if B.length < 1 then false else if 30 < B.length then false else if P.length = B.length then treeB2 G B P (tl1 B P B.length (2 ^ G.length - 1) B.length 0 0 0) else false
theorem tl1_ok (B P : List Int) (n all_ : Nat) : ∀ (d i ro ac : Nat) (r : Nat × Nat), tl1 B P n all_ d i ro ac = some r → ∀ j, i ≤ j → j < i + d → -1 ≤ rd P (j : Int) ∧ rd P (j : Int) < (n : Int) ∧ 0 ≤ rd B (j : Int) ∧ rd B (j : Int) ≤ (all_ : Int)
 | 0, i, _, _, _, _, j, h1, h2 => by omega
 | d + 1, i, ro, ac, r, h, j, h1, h2 => by
  simp only [tl1] at h
  split at h
  ·cases h
  ·split at h
   ·cases h
   ·split at h
    ·cases h
    ·split at h
     ·cases h
     ·by_cases e : j = i
      ·subst e; omega
      ·exact tl1_ok B P n all_ d (i + 1) _ _ r h j (by omega) (by omega)
end Go.Proofs.YtoffehihicabcaaDoor.X
end
section
namespace Go.Proofs.YtoffehihicabcaaDoor.X
open Go.RowKit YtoffehihicabcaaDoorW.PrintWords YtoffehihicabcaaDoorW.PrintLast YtoffehihicabcaaDoorW.PrintMore
attribute [local go_sem] max2_int min2_int max_two min_two max_three min_three max_four min_four
noncomputable section
mutual
def lampblackref02_IsTree.j0 : Nat → List Int → Int → Bool → List Int → List Int → Option (Int × Bool)
 | 0, _, _, _, _, _ => none
 | k + 1, x0, x6, x34, x418000, x418001 => if x34 = true then (some (0, false)) else (lampblackref02_IsTree.l0 k x0 x6 0 0 x418001 (x418001.length : Int) 0 x418000 x418001)
def lampblackref02_IsTree.l0 : Nat → List Int → Int → Int → Int → List Int → Int → Int → List Int → List Int → Option (Int × Bool)
 | 0, _, _, _, _, _, _, _, _, _ => none
 | k + 1, x0, x6, x7, x8, x36, x37, x38, x418000, x418001 => if x38 < x37 then (if 0 ≤ x38 then (if x38 < (x36.length : Int) then (if (rd x36 x38) < (-1) then (lampblackref02_IsTree.j2 k x0 x6 x7 x8 x38 (rd x36 x38) x36 x37 x38 true x418000 x418001) else (if (rd x36 x38) ≥ x6 then (lampblackref02_IsTree.j2 k x0 x6 x7 x8 x38 (rd x36 x38) x36 x37 x38 true x418000 x418001) else (if x38 < (x418000.length : Int) then (if (rd x418000 x38) < 0 then (lampblackref02_IsTree.j2 k x0 x6 x7 x8 x38 (rd x36 x38) x36 x37 x38 true x418000 x418001) else (lampblackref02_IsTree.j2 k x0 x6 x7 x8 x38 (rd x36 x38) x36 x37 x38 (decide ((rd x418000 x38) ≥ (shl .i64 1 (x0.length : Int)))) x418000 x418001)) else (none)))) else (none)) else (none)) else (lampblackref02_IsTree.l1 k x0 x6 x7 x8 (x418001.length : Int) 0 x418000 x418001)
def lampblackref02_IsTree.j2 : Nat → List Int → Int → Int → Int → Int → Int → List Int → Int → Int → Bool → List Int → List Int → Option (Int × Bool)
 | 0, _, _, _, _, _, _, _, _, _, _, _, _ => none
 | k + 1, x0, x6, x7, x8, x9, x10, x36, x37, x38, x68, x418000, x418001 => if x68 = true then (some (0, false)) else (if 0 ≤ x9 then (if x9 < (x418000.length : Int) then ((lampblackref02_Size.f k (rd x418000 x9)).bind fun t422 => (if x10 < 0 then (lampblackref02_IsTree.l0 k x0 x6 (wrap64 (x7 + 1)) (mx x8 t422) x36 x37 (wrap64 (x38 + 1)) x418000 x418001) else (lampblackref02_IsTree.l0 k x0 x6 x7 (mx x8 t422) x36 x37 (wrap64 (x38 + 1)) x418000 x418001))) else (none)) else (none))
def lampblackref02_IsTree.l1 : Nat → List Int → Int → Int → Int → Int → Int → List Int → List Int → Option (Int × Bool)
 | 0, _, _, _, _, _, _, _, _ => none
 | k + 1, x0, x6, x7, x8, x84, x85, x418000, x418001 => if x85 < x84 then (lampblackref02_IsTree.l2 k x0 x6 x7 x8 x85 x84 x85 x6 0 x418000 x418001) else (if x7 = 1 then (lampblackref02_IsTree.l3 k x0 x8 (x0.length : Int) 0 x418000 x418001) else (some (0, false)))
def lampblackref02_IsTree.l2 : Nat → List Int → Int → Int → Int → Int → Int → Int → Int → Int → List Int → List Int → Option (Int × Bool)
 | 0, _, _, _, _, _, _, _, _, _, _, _ => none
 | k + 1, x0, x6, x7, x8, x12, x84, x85, x89, x90, x418000, x418001 => if x90 < x89 then (if x12 ≥ 0 then (if 0 ≤ x12 then (if x12 < (x418001.length : Int) then (lampblackref02_IsTree.l2 k x0 x6 x7 x8 (rd x418001 x12) x84 x85 x89 (wrap64 (x90 + 1)) x418000 x418001) else (none)) else (none)) else (lampblackref02_IsTree.l2 k x0 x6 x7 x8 x12 x84 x85 x89 (wrap64 (x90 + 1)) x418000 x418001)) else (if x12 ≥ 0 then (some (0, false)) else (lampblackref02_IsTree.l1 k x0 x6 x7 x8 x84 (wrap64 (x85 + 1)) x418000 x418001))
def lampblackref02_IsTree.l3 : Nat → List Int → Int → Int → Int → List Int → List Int → Option (Int × Bool)
 | 0, _, _, _, _, _, _ => none
 | k + 1, x0, x8, x106, x107, x418000, x418001 => if x107 < x106 then (lampblackref02_IsTree.l4 k x0 x8 x107 0 0 x106 x107 x418000 (x418000.length : Int) 0 x418000 x418001) else (some (wrap64 (x8 - 1), true))
def lampblackref02_IsTree.l4 : Nat → List Int → Int → Int → Int → Int → Int → Int → List Int → Int → Int → List Int → List Int → Option (Int × Bool)
 | 0, _, _, _, _, _, _, _, _, _, _, _, _ => none
 | k + 1, x0, x8, x13, x14, x15, x106, x107, x111, x112, x113, x418000, x418001 => if x113 < x112 then (if 0 ≤ x113 then (if x113 < (x111.length : Int) then (if 0 ≤ x13 then (if (Go.bits .and .i64 (shr .i64 (rd x111 x113) x13) 1) = 0 then (lampblackref02_IsTree.l4 k x0 x8 x13 x14 x15 x106 x107 x111 x112 (wrap64 (x113 + 1)) x418000 x418001) else (if x113 < (x418001.length : Int) then (if (rd x418001 x113) < 0 then (lampblackref02_IsTree.l4 k x0 x8 x13 (wrap64 (x14 + 1)) (Go.bits .or .i64 x15 (rd x111 x113)) x106 x107 x111 x112 (wrap64 (x113 + 1)) x418000 x418001) else (if 0 ≤ (rd x418001 x113) then (if (rd x418001 x113) < (x418000.length : Int) then (if (Go.bits .and .i64 (shr .i64 (rd x418000 (rd x418001 x113)) x13) 1) = 0 then (lampblackref02_IsTree.l4 k x0 x8 x13 (wrap64 (x14 + 1)) (Go.bits .or .i64 x15 (rd x111 x113)) x106 x107 x111 x112 (wrap64 (x113 + 1)) x418000 x418001) else (lampblackref02_IsTree.l4 k x0 x8 x13 x14 (Go.bits .or .i64 x15 (rd x111 x113)) x106 x107 x111 x112 (wrap64 (x113 + 1)) x418000 x418001)) else (none)) else (none))) else (none))) else (none)) else (none)) else (none)) else (if x14 = 1 then (if 0 ≤ x13 then (if x13 < (x0.length : Int) then (if (Go.bits .andNot .i64 (rd x0 x13) x15) = 0 then (lampblackref02_IsTree.l3 k x0 x8 x106 (wrap64 (x107 + 1)) x418000 x418001) else (some (0, false))) else (none)) else (none)) else (some (0, false)))
end
def lampblackref02_IsTree.f (k : Nat) (l0 : List Int) (l1_0 : List Int) (l1_1 : List Int) : Option (Int × Bool) := if (l1_0.length : Int) < 1 then (lampblackref02_IsTree.j0 k l0 (l1_0.length : Int) true l1_0 l1_1) else (if (l1_0.length : Int) > 30 then (lampblackref02_IsTree.j0 k l0 (l1_0.length : Int) true l1_0 l1_1) else (lampblackref02_IsTree.j0 k l0 (l1_0.length : Int) ((l1_1.length : Int) != (l1_0.length : Int)) l1_0 l1_1))
end
noncomputable section
def width_Tree_width.l0 : Nat → Int → List Int → Int → Int → Option (Int)
 | 0, _, _, _, _ => none
 | k + 1, x3, x7, x8, x9 => if x9 < x8 then (if 0 ≤ x9 then (if x9 < (x7.length : Int) then ((width_count.f (rd x7 x9)).bind fun t510 => (width_Tree_width.l0 k (mx x3 t510) x7 x8 (wrap64 (x9 + 1)))) else (none)) else (none)) else (some (wrap64 (x3 - 1)))
def width_Tree_width.f (k : Nat) (l0_0 : List Int) (l0_1 : List Int) : Option (Int) := width_Tree_width.l0 k 0 l0_0 (l0_0.length : Int) 0
set_option maxHeartbeats 8000000 in
set_option maxRecDepth 100000 in
theorem width_Tree_width.calls (k : Nat) (A0_0 : Option Addr) (c0_0 : Nat) (l0_0 : List Int) (A0_1 : Option Addr) (c0_1 : Nat) (l0_1 : List Int) (r : Int) (w : World) (hr0_0 : Kd.C (Kd.int .i64) w A0_0 l0_0.length l0_0) (hc0_0 : l0_0.length ≤ c0_0) (hr0_1 : Kd.C (Kd.int .i64) w A0_1 l0_1.length l0_1) (hc0_1 : l0_1.length ≤ c0_1) (h : width_Tree_width.f k l0_0 l0_1 = some r) :
  Calls Tryd.prog 81 #[.agg #[.slice A0_0 l0_0.length c0_0, .slice A0_1 l0_1.length c0_1]] w fun e w' => e = .returned (.int .i64 r) ∧ Below w.heap.size w w' := by
 have hu53 := Tryd.underlying53
 have HR0_0 := Aside0.mk hr0_0
 have HC0_0 := Aside0.mk hc0_0
 clear hr0_0 hc0_0
 have HR0_1 := Aside0.mk hr0_1
 have HC0_1 := Aside0.mk hc0_1
 clear hr0_1 hc0_1
 have HB := Aside0.mk (Below.refl w.heap.size w)
 have H : (width_Tree_width.l0 k 0 l0_0 (l0_0.length : Int) 0) = some r := h
 clear h
 have H' := Aside0.mk H
 clear H
 go_enter Tryd.func81, Tryd.ntmps81
 go_wp2_with (first | ((with_reducible refine gate_dst (N := 1) rfl ?_); refine box_event ?hg (N := 1) ?hd (cs := #[.slice A0_0 l0_0.length c0_0, .slice A0_1 l0_1.length c0_1]) (t := 53) ?hr ?_; (case hd => rfl); (case hg => rfl); (case hr => first | (go_simp; done) | (go_simp; rfl)); intro gb508 hg w2 hbox hb; have n0_ := Aside0.mk (below_step (Qaw) hb); have n1_ := Aside0.mk (hbox); have n2_ := Aside0.mk ((by rw [hg]; exact (below_size (Qaw)) : w.heap.size ≤ gb508)); have n3_ := Aside0.mk ((by rw [hg]; exact (below_size (Qaw)) : w.heap.size ≤ gb508)); clear HB; have HB := n0_; have BK508 := n1_; have GW508 := n2_; have GE508 := n3_; clear n0_ n1_ n2_ n3_; clear hb hbox hg; have hcz3_0 : w2.cell? ⟨gb508, 0, none⟩ = some (.slice A0_0 l0_0.length c0_0) := (blk_cell BK508.out 0).trans rfl; have hcz3_1 : w2.cell? ⟨gb508, 1, none⟩ = some (.slice A0_1 l0_1.length c0_1) := (blk_cell BK508.out 1).trans rfl; have hfz3_0 := blk_frozen BK508.out 0; have hfz3_1 := blk_frozen BK508.out 1))
 go_loopg [3, 9] k (fun kq v3 v9 w' => ∃ (x3_1 : Int) (x9_1 : Int), v3 = .int .i64 x3_1 ∧ v9 = .int .i64 x9_1 ∧ Aside0 (width_Tree_width.l0 kq x3_1 l0_0 (l0_0.length : Int) x9_1 = some r) ∧ Aside0 (kq ≤ k) ∧ Aside0 (w'.heap[gb508]? = some (.cells #[(.slice A0_0 l0_0.length c0_0), (.slice A0_1 l0_1.length c0_1)] 53 (0, 0))) ∧ Aside0 (Below w.heap.size w w'))
 case atStart => exact ⟨(0), (0), (Qrs), (Qrs), H', ⟨Nat.le_refl _⟩, ⟨by (with_reducible repeat (first | refine blk_drewN ?_ _ | refine blk_drew ?_ | refine blk_alloc ?_ _)); exact BK508.out⟩, ⟨by repeat (first | (with_reducible first | exact HB.out | apply below_alloc | apply pw_below_drewN | apply below_drew1 | refine below_set ?_ GE508.out) | exact HB.out)⟩⟩
 case round =>
  clear H'
  try clear p2
  try clear hcz3_0
  try clear hcz3_1
  try clear hfz3_0
  try clear hfz3_1
  obtain ⟨x3_1, x9_1, rfl, rfl, HA, HK1, BK508, HB⟩ := hrel
  cases gk with
  | zero => exact absurd HA.out (by simp [width_Tree_width.l0])
  | succ k1 =>
   have H := HA.out
   clear HA
   simp only [width_Tree_width.l0] at H
   by_cases c4 : x9_1 < (l0_0.length : Int)
   ·rw [if_pos c4] at H
    have c4b0 : decide (x9_1 < (l0_0.length : Int)) = true := decide_eq_true c4
    clear c4
    by_cases c5 : 0 ≤ x9_1
    ·rw [if_pos c5] at H
     have c5b0 : decide (0 ≤ x9_1) = true := decide_eq_true c5
     clear c5
     by_cases c6 : x9_1 < (l0_0.length : Int)
     ·rw [if_pos c6] at H
      have c6b0 : decide (x9_1 < (l0_0.length : Int)) = true := decide_eq_true c6
      clear c6
      replace H := Option.bind_eq_some_iff.mp H
      obtain ⟨t510, A70, H⟩ := H
      replace H : (width_Tree_width.l0 k1 (mx x3_1 t510) l0_0 (l0_0.length : Int) (wrap64 (x9_1 + 1))) = some r := H
      have A7 := Aside0.mk A70
      clear A70
      obtain ⟨ji8, hji8⟩ : ∃ j_ : Int, (mx x3_1 t510) = j_ := ⟨_, rfl⟩
      replace H : (width_Tree_width.l0 k1 ji8 l0_0 (l0_0.length : Int) (wrap64 (x9_1 + 1))) = some r := by first | (rw [hji8] at H; exact H) | (simp only [hji8] at H ⊢; exact H)
      (try rw [hji8] at A7)
      have hji8_ : (if x3_1 < t510 then t510 else x3_1) = ji8 := hji8
      have H' := Aside0.mk H
      clear H
      have p509 : 0 ≤ (x9_1 : Int) := of_decide_eq_true (Qas)
      have q509 : x9_1 < (l0_0.length : Int) := of_decide_eq_true (Qas)
      obtain ⟨ad509, e509, hx509_0⟩ := Kd.at_int HR0_0.out x9_1 p509 q509
      cases e509
      replace hx509_0 := (HB.out.cell (World.block_lt_of_cell? w _ hx509_0)).trans hx509_0
      replace p509 := eq_true p509
      replace q509 := eq_true q509
      go_wp2_with (first | ((with_reducible refine gate_callee (f := 68) rfl ?_); refine goesL_ (some 15) rfl rfl Tryd.func68 (by kernel_rfl) rfl #[.int .i64 (rd l0_0 x9_1)] rfl (Qls) ?_; (with_reducible refine (width_count.calls (rd l0_0 x9_1) t510 _ A7.out).mono ?_); rintro e w' ⟨rfl, ⟨nd, rfl⟩⟩; refine ⟨_, rfl, ?_⟩))
      go_roundg k1
      case measure => have := HK1.out; omega
      case rel => exact ⟨(ji8), (wrap64 (x9_1 + 1)), (by first | rfl | (simp; done) | (simp only [← hji8] <;> (first | rfl | simp)) | (simp [*]; done)), (Qrs), H', ⟨by have := HK1.out; omega⟩, ⟨by (with_reducible repeat (first | refine blk_drewN ?_ _ | refine blk_drew ?_ | refine blk_alloc ?_ _)); exact BK508.out⟩, ⟨by repeat (first | (with_reducible first | exact HB.out | apply below_alloc | apply pw_below_drewN | apply below_drew1 | refine below_set ?_ GE508.out) | exact HB.out)⟩⟩
     ·rw [if_neg c6] at H
      exact absurd H (by simp)
    ·rw [if_neg c5] at H
     exact absurd H (by simp)
   ·rw [if_neg c4] at H
    have c4b0 : decide (x9_1 < (l0_0.length : Int)) = false := decide_eq_false c4
    clear c4
    obtain rfl := Option.some.inj H
    go_wp2
    go_ret
    exact ⟨by first | rfl | (simp [errW_none, errW_some] <;> rfl) | (simp [*, errW_none, errW_some] <;> rfl), by repeat (first | (with_reducible first | exact HB.out | apply below_alloc | apply pw_below_drewN | apply below_drew1 | refine below_set ?_ GE508.out) | exact HB.out)⟩
end
end Go.Proofs.YtoffehihicabcaaDoor.X
end
section
namespace Go.Proofs.YtoffehihicabcaaDoor.X
open Go.RowKit YtoffehihicabcaaDoorW.PrintWords YtoffehihicabcaaDoorW.PrintLast YtoffehihicabcaaDoorW.PrintMore YtoffehihicabcaaDoor.T
def upI (P : List Int) (a : Int) : Int := if a < 0 then a else rd P a
def upN (P : List Int) : Nat → Int → Int
 | 0, a => a
 | d + 1, a => upN P d (upI P a)
theorem upN_neg (P : List Int) {a : Int} (h : a < 0) : ∀ d, upN P d a = a
 | 0 => rfl
 | d + 1 => by rw [upN, upI, if_pos h, upN_neg P h d]
theorem cycB_up (P : List Int) : ∀ d a, cycB P d a = decide (0 ≤ upN P d a)
 | 0, a => rfl
 | d + 1, a => by
  rw [cycB, upN, upI]
  by_cases h : a < 0
  ·rw [if_pos h, if_pos h, upN_neg P h d]
   simp; omega
  ·rw [if_neg h, if_neg h, cycB_up P d]
theorem upN_add (P : List Int) : ∀ (d e : Nat) (a : Int), upN P (d + e) a = upN P e (upN P d a)
 | 0, e, a => by rw [Nat.zero_add]; rfl
 | d + 1, e, a => by rw [show d + 1 + e = (d + e) + 1 by omega, upN, upN_add P d e, upN]
def rootsF (P : List Int) : Nat → Nat → Nat → Nat
 | 0, _, t => t
 | d + 1, i, t => rootsF P d (i + 1) (if rd P (i : Int) < 0 then t + 1 else t)
def unionF (B : List Int) : Nat → Nat → Nat → Nat
 | 0, _, t => t
 | d + 1, i, t => unionF B d (i + 1) (t ||| (rd B (i : Int)).toNat)
def mostF (B : List Int) : Nat → Nat → Nat → Nat
 | 0, _, t => t
 | d + 1, i, t => mostF B d (i + 1) (max t (pc (rd B (i : Int)).toNat 9))
def InT (G : List Nat) (B P : List Int) (n i : Nat) : Prop := -1 ≤ rd P (i : Int) ∧ rd P (i : Int) < (n : Int) ∧ 0 ≤ rd B (i : Int) ∧ rd B (i : Int) < ((2 ^ G.length : Nat) : Int)
structure TD (G : List Nat) (B P : List Int) : Prop where
 pos : 1 ≤ B.length
 most : B.length ≤ 30
 len : P.length = B.length
 inn : ∀ i, i < B.length → InT G B P B.length i
 root : rootsF P B.length 0 0 = 1
 acyc : ∀ i : Nat, i < B.length → upN P B.length (i : Int) < 0
 tops : ∀ v, v < G.length → topsF B P v B.length 0 0 = 1
 edge : ∀ v u, Adj G v u → ∃ i : Nat, i < B.length ∧ bitI (rd B (i : Int)) v = true ∧ bitI (rd B (i : Int)) u = true
theorem tl1_eq (G : List Nat) (B P : List Int) (n : Nat) : ∀ (d i ro ac : Nat), (∀ j, i ≤ j → j < i + d → InT G B P n j) → tl1 B P n (2 ^ G.length - 1) d i ro ac = some (rootsF P d i ro, unionF B d i ac)
 | 0, i, ro, ac, _ => rfl
 | d + 1, i, ro, ac, h => by
  obtain ⟨h1, h2, h3, h4⟩ := h i (Nat.le_refl _) (by omega)
  have := Nat.two_pow_pos G.length
  rw [tl1, if_neg (by omega), if_neg (by omega), if_neg (by omega), if_neg (by omega), tl1_eq G B P n d (i + 1) _ _ fun j hj hj2 => h j (by omega) (by omega)]
  rfl
theorem tl1_in (G : List Nat) (B P : List Int) (n : Nat) {d i ro ac : Nat} {r : Nat × Nat} (h : tl1 B P n (2 ^ G.length - 1) d i ro ac = some r) (j : Nat) (h1 : i ≤ j) (h2 : j < i + d) : InT G B P n j := by
 have := tl1_ok B P n _ d i ro ac r h j h1 h2
 have := Nat.two_pow_pos G.length
 exact ⟨by omega, by omega, by omega, by omega⟩
theorem unionF_bit (B : List Int) (v : Nat) : ∀ (d i t : Nat), bset (unionF B d i t) v ↔ bset t v ∨ ∃ j, i ≤ j ∧ j < i + d ∧ bitI (rd B (j : Int)) v = true
 | 0, i, t => ⟨fun h => .inl h, fun h => by
   rcases h with h | ⟨j, h1, h2, _⟩
   ·exact h
   ·omega⟩
 | d + 1, i, t => by
  rw [unionF, unionF_bit B v d (i + 1)]
  have e : bset (t ||| (rd B (i : Int)).toNat) v ↔ bset t v ∨ bitI (rd B (i : Int)) v = true := by
   unfold bset bitI
   rw [Nat.testBit_or, Bool.or_eq_true]
  rw [e]
  constructor
  ·rintro ((h | h) | ⟨j, h1, h2, h3⟩)
   ·exact .inl h
   ·exact .inr ⟨i, Nat.le_refl _, by omega, h⟩
   ·exact .inr ⟨j, by omega, by omega, h3⟩
  ·rintro (h | ⟨j, h1, h2, h3⟩)
   ·exact .inl (.inl h)
   ·by_cases e : j = i
    ·subst e; exact .inl (.inr h3)
    ·exact .inr ⟨j, by omega, by omega, h3⟩
theorem unionF_lt (B : List Int) {N : Nat} : ∀ (d i t : Nat), t < 2 ^ N → (∀ j, i ≤ j → j < i + d → 0 ≤ rd B (j : Int) ∧ rd B (j : Int) < ((2 ^ N : Nat) : Int)) → unionF B d i t < 2 ^ N
 | 0, i, t, h, _ => h
 | d + 1, i, t, h, hb => by
  rw [unionF]
  have := hb i (Nat.le_refl _) (by omega)
  exact unionF_lt B d (i + 1) _ (Nat.or_lt_two_pow h (by omega)) fun j h1 h2 => hb j (by omega) (by omega)
theorem topsF_none (B P : List Int) (v : Nat) : ∀ (d i t : Nat), (∀ j, i ≤ j → j < i + d → bitI (rd B (j : Int)) v = false) → topsF B P v d i t = t
 | 0, i, t, _ => rfl
 | d + 1, i, t, h => by
  rw [topsF, h i (Nat.le_refl _) (by omega), topsF_none B P v d (i + 1) _ fun j h1 h2 => h j (by omega) (by omega)]
  simp
theorem nbF_iff (B : List Int) (v : Nat) : ∀ l : List Nat, nbF B v l = true ↔ ∀ u ∈ l, ∃ i : Nat, i < B.length ∧ bitI (rd B (i : Int)) v = true ∧ bitI (rd B (i : Int)) u = true
 | [] => by simp [nbF]
 | u :: l => by
  rw [nbF, Bool.and_eq_true, nbF_iff B v l, List.any_eq_true]
  have e : (∃ x ∈ B, bothB u v x = true) ↔ ∃ i : Nat, i < B.length ∧ bitI (rd B (i : Int)) v = true ∧ bitI (rd B (i : Int)) u = true := by
   constructor
   ·rintro ⟨x, hx, h⟩
    obtain ⟨i, hi, rfl⟩ := List.mem_iff_getElem.1 hx
    have hr : rd B (i : Int) = B[i] := by unfold rd; rw [Int.toNat_natCast, List.getD_eq_getElem?_getD, List.getElem?_eq_getElem hi]; rfl
    unfold bothB at h
    rw [Bool.and_eq_true] at h
    exact ⟨i, hi, by rw [hr]; exact h.2, by rw [hr]; exact h.1⟩
   ·rintro ⟨i, hi, h1, h2⟩
    have hr : rd B (i : Int) = B[i] := by unfold rd; rw [Int.toNat_natCast, List.getD_eq_getElem?_getD, List.getElem?_eq_getElem hi]; rfl
    rw [hr] at h1 h2
    exact ⟨B[i], List.getElem_mem hi, by unfold bothB; rw [Bool.and_eq_true]; exact ⟨h2, h1⟩⟩
  rw [e]
  simp
theorem tl2_iff (G : List Nat) (B P : List Int) : ∀ (d v : Nat), tl2 G B P d v = true ↔ ∀ u, v ≤ u → u < v + d → topsF B P u B.length 0 0 = 1 ∧ nbF B u (els (G.getD u 0) 9) = true
 | 0, v => by
  rw [tl2]
  exact ⟨fun _ u h1 h2 => by omega, fun _ => rfl⟩
 | d + 1, v => by
  rw [tl2]
  constructor
  ·intro h u h1 h2
   by_cases ht : topsF B P v B.length 0 0 = 1
   ·rw [if_pos ht, Bool.and_eq_true, tl2_iff G B P d (v + 1)] at h
    by_cases e : u = v
    ·subst e; exact ⟨ht, h.1⟩
    ·exact h.2 u (by omega) (by omega)
   ·rw [if_neg ht] at h; cases h
  ·intro h
   obtain ⟨h1, h2⟩ := h v (Nat.le_refl _) (by omega)
   rw [if_pos h1, h2, Bool.true_and, tl2_iff G B P d (v + 1)]
   exact fun u h3 h4 => h u (by omega) (by omega)
theorem up_within {P : List Int} {n : Nat} (hP : ∀ i, i < n → rd P (i : Int) < (n : Int)) {i : Nat} (hi : i < n) {m : Nat} (hm : upN P m (i : Int) < 0) : upN P n (i : Int) < 0 := by
 apply Classical.byContradiction
 intro hno
 have stay : ∀ d e : Nat, upN P d (i : Int) < 0 → upN P (d + e) (i : Int) < 0 := fun d e h => by rw [upN_add, upN_neg P h]; exact h
 have hin : ∀ d, d ≤ n → ∃ j : Nat, upN P d (i : Int) = (j : Int) ∧ j < n := by
  intro d
  induction d with
  | zero => intro _; exact ⟨i, rfl, hi⟩
  | succ d ih =>
   intro hd
   obtain ⟨j, h1, h2⟩ := ih (by omega)
   have h3 : upN P (d + 1) (i : Int) = rd P (j : Int) := by
    rw [upN_add P d 1, h1]
    show upI P (j : Int) = _
    rw [upI, if_neg (by omega)]
   have h4 : ¬ upN P (d + 1) (i : Int) < 0 := fun h => hno (by
    have := stay (d + 1) (n - (d + 1)) h
    rwa [show d + 1 + (n - (d + 1)) = n by omega] at this)
   have := hP j h2
   exact ⟨(rd P (j : Int)).toNat, by rw [h3] at h4 ⊢; omega, by rw [h3] at h4; omega⟩
 obtain ⟨a, b, hab, hb, e⟩ : ∃ a b, a < b ∧ b ≤ n ∧ upN P a (i : Int) = upN P b (i : Int) := by
  apply Classical.byContradiction
  intro hx
  have hnd : ((List.range (n + 1)).map fun d => (upN P d (i : Int)).toNat).Nodup := by
   refine List.pairwise_map.2 (List.Pairwise.imp_of_mem (fun {a b} ha hb hlt e => hx ⟨a, b, hlt, by have := List.mem_range.1 hb; omega, ?_⟩) List.pairwise_lt_range)
   obtain ⟨j, h1, _⟩ := hin a (by have := List.mem_range.1 ha; omega)
   obtain ⟨j', h1', _⟩ := hin b (by have := List.mem_range.1 hb; omega)
   rw [h1, h1'] at e ⊢
   have e2 : j = j' := by simpa using e
   rw [e2]
  have := nodup_le hnd (m := List.range n) fun x hx => by
   obtain ⟨d, hd, rfl⟩ := List.mem_map.1 hx
   obtain ⟨j, h1, h2⟩ := hin d (by have := List.mem_range.1 hd; omega)
   rw [h1]
   exact List.mem_range.2 (by simpa using h2)
  simp at this
  omega
 have round : ∀ k, upN P (a + k * (b - a)) (i : Int) = upN P a (i : Int) := by
  intro k
  induction k with
  | zero => simp
  | succ k ih =>
   rw [show a + (k + 1) * (b - a) = (a + k * (b - a)) + (b - a) by rw [Nat.succ_mul]; omega, upN_add, ih, ← upN_add, show a + (b - a) = b by omega, ← e]
 obtain ⟨j, h1, h2⟩ := hin a (by omega)
 have h3 := round m
 have h4 : m ≤ a + m * (b - a) := by
  have : m * 1 ≤ m * (b - a) := Nat.mul_le_mul_left m (by omega)
  omega
 have h5 := stay m (a + m * (b - a) - m) hm
 rw [show m + (a + m * (b - a) - m) = a + m * (b - a) by omega, h3, h1] at h5
 omega
theorem rd_mem {P : List Int} {i : Nat} (hi : i < P.length) : rd P (i : Int) = P[i] := by unfold rd; rw [Int.toNat_natCast, List.getD_eq_getElem?_getD, List.getElem?_eq_getElem hi]; rfl
theorem acyc_iff {P : List Int} {n : Nat} (hl : P.length = n) (hP : ∀ i, i < n → rd P (i : Int) < (n : Int)) : P.any (cycB P n) = false ↔ ∀ i : Nat, i < n → upN P n (i : Int) < 0 := by
 rw [List.any_eq_false]
 have up1 : ∀ i : Nat, upN P n (rd P (i : Int)) = upN P (n + 1) (i : Int) := fun i => by
  rw [upN, upI, if_neg (by omega)]
 constructor
 ·intro h i hi
  have h1 := h (rd P (i : Int)) (by rw [rd_mem (by omega)]; exact List.getElem_mem _)
  rw [cycB_up] at h1
  have h2 : upN P (n + 1) (i : Int) < 0 := by rw [← up1]; simpa using h1
  exact up_within hP hi h2
 ·intro h x hx
  obtain ⟨i, hi, rfl⟩ := List.mem_iff_getElem.1 hx
  rw [cycB_up, ← rd_mem hi, up1, show n + 1 = n + 1 from rfl, upN_add P n 1]
  have := h i (by omega)
  show ¬ decide (0 ≤ upI P (upN P n (i : Int))) = true
  rw [upI, if_pos this]
  simp; omega
theorem treeB_iff {G : List Nat} (hG : Gr 9 G) (B P : List Int) : treeB G B P = true ↔ TD G B P := by
 have hn := hG.most
 have h0 := Nat.two_pow_pos G.length
 unfold treeB
 constructor
 ·intro h
  by_cases h1 : B.length < 1
  ·rw [if_pos h1] at h; cases h
  rw [if_neg h1] at h
  by_cases h2 : 30 < B.length
  ·rw [if_pos h2] at h; cases h
  rw [if_neg h2] at h
  by_cases h3 : P.length = B.length
  ·rw [if_pos h3] at h
   cases ht : tl1 B P B.length (2 ^ G.length - 1) B.length 0 0 0 with
   | none => rw [ht] at h; cases h
   | some r =>
    rw [ht] at h
    have hin : ∀ i, i < B.length → InT G B P B.length i := fun i hi => tl1_in G B P B.length ht i (Nat.zero_le _) (by omega)
    rw [tl1_eq G B P B.length B.length 0 0 0 fun j _ hj => hin j (by omega)] at ht
    obtain rfl := Option.some.inj ht
    simp only [treeB2] at h
    by_cases h4 : rootsF P B.length 0 0 = 1
    ·rw [if_pos h4] at h
     by_cases h5 : unionF B B.length 0 0 = 2 ^ G.length - 1
     ·rw [if_pos h5] at h
      by_cases h6 : P.any (cycB P P.length) = true
      ·rw [if_pos h6] at h; cases h
      ·rw [if_neg h6, tl2_iff] at h
       rw [h3] at h6
       refine ⟨by omega, by omega, h3, hin, h4, (acyc_iff h3 fun i hi => (hin i hi).2.1).1 (by simpa using h6), fun v hv => (h v (Nat.zero_le _) (by omega)).1, fun v u hvu => ?_⟩
       have hv := hG.adj_lt' hvu
       have hu := hG.adj_lt hvu
       exact (nbF_iff B v _).1 (h v (Nat.zero_le _) (by omega)).2 u (mem_els.2 ⟨by omega, hvu⟩)
     ·rw [if_neg h5] at h; cases h
    ·rw [if_neg h4] at h; cases h
  ·rw [if_neg h3] at h; cases h
 ·intro h
  have e1 := h.pos
  have e2 := h.most
  rw [if_neg (by omega), if_neg (by omega), if_pos h.len, tl1_eq G B P B.length B.length 0 0 0 fun j _ hj => h.inn j (by omega)]
  have hun : unionF B B.length 0 0 = 2 ^ G.length - 1 := Nat.eq_of_testBit_eq fun v => by
   have h1 := unionF_bit B v B.length 0 0
   have h2 := all_bit G.length v
   have h3 : bset (unionF B B.length 0 0) v ↔ bset (2 ^ G.length - 1) v := by
    rw [h1, h2]
    constructor
    ·intro h4
     have h5 : unionF B B.length 0 0 < 2 ^ G.length := unionF_lt B B.length 0 0 h0 fun j _ hj => ⟨(h.inn j (by omega)).2.2.1, (h.inn j (by omega)).2.2.2⟩
     exact bit_lt h5 (h1.2 h4)
    ·intro hv
     apply Classical.byContradiction
     intro h4
     have h5 := h.tops v hv
     rw [topsF_none B P v B.length 0 0 fun j _ hj => by
      cases hb : bitI (rd B (j : Int)) v
      ·rfl
      ·exact absurd (.inr ⟨j, Nat.zero_le _, by omega, hb⟩) h4] at h5
     cases h5
   unfold bset at h3
   exact Bool.eq_iff_iff.2 h3
  simp only [treeB2]
  have hac := (acyc_iff h.len fun i hi => (h.inn i hi).2.1).2 h.acyc
  rw [if_pos h.root, if_pos hun, h.len, if_neg (by rw [hac]; simp), tl2_iff]
  intro v _ hv
  refine ⟨h.tops v (by omega), (nbF_iff B v _).2 fun u hu => h.edge v u (mem_els.1 hu).2⟩
section
variable {G : List Nat} (hG : Gr 9 G) {B P : List Int} {n : Nat} (hB : B.length = n) (hP : P.length = n) (hn : n ≤ 30)
include hG hB hP hn
end
end Go.Proofs.YtoffehihicabcaaDoor.X
end
section
namespace Go.Proofs.YtoffehihicabcaaDoor.T
open Go.RowKit YtoffehihicabcaaDoorW.PrintWords YtoffehihicabcaaDoorW.PrintLast YtoffehihicabcaaDoorW.PrintMore
def IsOrd (n : Nat) (l : List Int) : Prop := ∃ P : List Nat, l = gi P ∧ P.Nodup ∧ (∀ v ∈ P, v < n) ∧ P.length = n
theorem gi_inj {a b : List Nat} (h : gi a = gi b) : a = b := by
 induction a generalizing b with
 | nil => cases b with
  | nil => rfl
  | cons => simp [gi] at h
 | cons x a ih => cases b with
  | nil => simp [gi] at h
  | cons y b =>
   simp only [gi, List.map_cons, List.cons.injEq] at h
   rw [ih (show gi a = gi b from h.2)]
   congr 1
   omega
theorem covers_of_nodup {P : List Nat} {n : Nat} (hl : P.length = n) (hn : P.Nodup) (h : ∀ v ∈ P, v < n) (j : Nat) (hj : j < n) : j ∈ P := by
 apply Classical.byContradiction
 intro hno
 have := nodup_le (List.nodup_cons.2 ⟨hno, hn⟩) (m := List.range n) fun x hx => by
  rcases List.mem_cons.1 hx with e | e
  ·subst e; exact List.mem_range.2 hj
  ·exact List.mem_range.2 (h x e)
 simp at this
 omega
def lset : List Nat → Nat
 | [] => 0
 | v :: P => lset P ||| 2 ^ v
theorem lset_bit (P : List Nat) (j : Nat) : bset (lset P) j ↔ j ∈ P := by
 induction P with
 | nil => simp [lset, bset]
 | cons v P ih => rw [lset, or_bset, ih, two_pow_bit, List.mem_cons]; exact Or.comm
theorem lset_lt {P : List Nat} {n : Nat} (h : ∀ v ∈ P, v < n) : lset P < 2 ^ n := lt_of_bits fun j hj => h j ((lset_bit P j).1 hj)
theorem lset_snoc (P : List Nat) (v : Nat) : lset (P ++ [v]) = lset P ||| 2 ^ v := eq_of_bits fun j => by
 show bset _ _ ↔ bset _ _
 rw [lset_bit, or_bset, lset_bit, two_pow_bit, List.mem_append, List.mem_singleton]
theorem IsOrd.of {n : Nat} {P : List Nat} (h1 : P.Nodup) (h2 : ∀ v ∈ P, v < n) : IsOrd n (gi P) ↔ P.length = n := by
 constructor
 ·rintro ⟨Q, e, _, _, h⟩
  rw [gi_inj e]; exact h
 ·intro h; exact ⟨P, rfl, h1, h2, h⟩
theorem IsOrd.length {n : Nat} {l : List Int} (h : IsOrd n l) : l.length = n := by
 obtain ⟨P, rfl, _, _, h⟩ := h
 rw [gi_length, h]
noncomputable def dg (G : List Nat) (gone v : Nat) : Nat := pc (nbset G gone v) 9
def lft (G : List Nat) (gone : Nat) : Nat := diff (2 ^ G.length - 1) gone
theorem lft_bit (G : List Nat) (gone v : Nat) : bset (lft G gone) v ↔ v < G.length ∧ ¬ bset gone v := by
 unfold lft; rw [diff_bset, all_bit]
theorem lft_lt (G : List Nat) (gone : Nat) : lft G gone < 2 ^ G.length := by
 have := Nat.two_pow_pos G.length
 exact Nat.lt_of_le_of_lt (diff_le _ _) (by omega)
noncomputable def canD (G : List Nat) (k : Nat) : Nat → Nat → Bool
 | 0, _ => true
 | d + 1, gone => (els (lft G gone) 9).any fun v => decide (dg G gone v ≤ k) && canD G k d (gone ||| 2 ^ v)
noncomputable def canB (G : List Nat) (k gone : Nat) : Bool := canD G k (pc (lft G gone) 9) gone
theorem eq_bits {x y : Nat} (h : ∀ j, bset x j ↔ bset y j) : x = y := Nat.eq_of_testBit_eq fun j => by
 have := h j
 unfold bset at this
 exact Bool.eq_iff_iff.2 this
theorem or_bit (x v j : Nat) : bset (x ||| 2 ^ v) j ↔ bset x j ∨ j = v := by
 unfold bset
 rw [Nat.testBit_or, Bool.or_eq_true]
 have := two_pow_bit v j
 unfold bset at this
 rw [this]
theorem lft_or {G : List Nat} {gone v : Nat} : lft G (gone ||| 2 ^ v) = diff (lft G gone) (2 ^ v) := by
 apply eq_bits
 intro j
 rw [lft_bit, or_bit, diff_bset, lft_bit, two_pow_bit, not_or]
 exact and_assoc.symm
theorem pc_drop {X v : Nat} (hX : X < 512) (hv : bset X v) : pc X 9 = pc (diff X (2 ^ v)) 9 + 1 := by
 have hv9 : v < 9 := bit_lt hX hv
 have h1 : (els X 9).length = pc X 9 := els_length X 9
 have h2 : (els (diff X (2 ^ v)) 9).length = pc (diff X (2 ^ v)) 9 := els_length _ 9
 have hm : v ∈ els X 9 := mem_els.2 ⟨hv9, hv⟩
 have h3 : ∀ x, x ∈ els (diff X (2 ^ v)) 9 ↔ x ∈ (els X 9).erase v := fun x => by
  rw [(els_nodup X 9).mem_erase_iff, mem_els, mem_els]
  have := diff_bset X (2 ^ v) x
  unfold bset at this
  rw [this]
  have h4 := two_pow_bit v x
  unfold bset at h4
  rw [h4]
  exact ⟨fun ⟨a, b, c⟩ => ⟨c, a, b⟩, fun ⟨c, a, b⟩ => ⟨a, b, c⟩⟩
 have h4 : (els (diff X (2 ^ v)) 9).length = ((els X 9).erase v).length := Nat.le_antisymm (nodup_le (els_nodup _ _) fun x hx => (h3 x).1 hx) (nodup_le ((els_nodup X 9).erase v) fun x hx => (h3 x).2 hx)
 rw [List.length_erase_of_mem hm] at h4
 have : 0 < (els X 9).length := List.length_pos_of_mem hm
 omega
section
variable {G : List Nat} (hn : G.length ≤ 9)
include hn
theorem lft_small (gone : Nat) : lft G gone < 512 := Nat.lt_of_lt_of_le (lft_lt G gone) (show 2 ^ G.length ≤ 2 ^ 9 from Nat.pow_le_pow_right (by omega) hn)
theorem pc_lft {gone v : Nat} (hv : bset (lft G gone) v) : pc (lft G gone) 9 = pc (lft G (gone ||| 2 ^ v)) 9 + 1 := by
 rw [lft_or]
 exact pc_drop (lft_small hn gone) hv
omit hn in
theorem lft_all : lft G (2 ^ G.length - 1) = 0 := eq_bits fun j => by
 rw [lft_bit, all_bit]
 simp [bset]
omit hn in
theorem canB_all (k : Nat) : canB G k (2 ^ G.length - 1) = true := by
 unfold canB
 rw [lft_all]
 rfl
omit hn in
theorem pc_pos {X : Nat} (hX : X < 512) (h0 : X ≠ 0) : pc X 9 ≠ 0 := by
 obtain ⟨v, hv⟩ := some_bit h0
 have := pc_drop hX hv
 omega
omit hn in
theorem lft_ne {gone : Nat} (hg : gone < 2 ^ G.length) (hne : gone ≠ 2 ^ G.length - 1) : lft G gone ≠ 0 := fun h => hne (eq_bits fun j => by
 rw [all_bit]
 constructor
 ·exact fun hj => bit_lt hg hj
 ·intro hj
  apply Classical.byContradiction
  intro hb
  have := (lft_bit G gone j).2 ⟨hj, hb⟩
  rw [h] at this
  simp [bset] at this)
theorem canB_step {k gone : Nat} (hg : gone < 2 ^ G.length) (hne : gone ≠ 2 ^ G.length - 1) :
  canB G k gone = (els (lft G gone) 9).any fun v => decide (dg G gone v ≤ k) && canB G k (gone ||| 2 ^ v) := by
 have h1 := pc_pos (lft_small hn gone) (lft_ne hg hne)
 unfold canB
 obtain ⟨d, hd⟩ := Nat.exists_eq_succ_of_ne_zero h1
 rw [hd, canD]
 rw [Bool.eq_iff_iff, List.any_eq_true, List.any_eq_true]
 have key : ∀ v, v ∈ els (lft G gone) 9 → pc (lft G (gone ||| 2 ^ v)) 9 = d := fun v hv => by
  have := pc_lft hn (mem_els.1 hv).2
  omega
 constructor
 ·rintro ⟨v, hv, h⟩
  exact ⟨v, hv, by rw [key v hv]; exact h⟩
 ·rintro ⟨v, hv, h⟩
  refine ⟨v, hv, ?_⟩
  rw [key v hv] at h
  exact h
theorem canB_true {k gone : Nat} (hg : gone < 2 ^ G.length) (hne : gone ≠ 2 ^ G.length - 1) : canB G k gone = true ↔ ∃ v, bset (lft G gone) v ∧ dg G gone v ≤ k ∧ canB G k (gone ||| 2 ^ v) = true := by
 rw [canB_step hn hg hne, List.any_eq_true]
 constructor
 ·rintro ⟨v, hv, h⟩
  rw [Bool.and_eq_true, decide_eq_true_eq] at h
  exact ⟨v, (mem_els.1 hv).2, h.1, h.2⟩
 ·rintro ⟨v, hv, h1, h2⟩
  exact ⟨v, mem_els.2 ⟨bit_lt (lft_small hn gone) hv, hv⟩, by rw [Bool.and_eq_true, decide_eq_true_eq]; exact ⟨h1, h2⟩⟩
omit hn in
theorem or_in {gone v : Nat} (hg : gone < 2 ^ G.length) (hv : bset (lft G gone) v) : gone ||| 2 ^ v < 2 ^ G.length :=
 Nat.or_lt_two_pow hg (Nat.pow_lt_pow_right (by omega) ((lft_bit G gone v).1 hv).1)
theorem canB_from {m : Nat} (hG : Gr m G) {k : Nat} : ∀ S, S < 2 ^ G.length → ElimG G k S → canB G k S = true → canB G k 0 = true := by
 intro S
 induction S using Nat.strongRecOn with
 | _ S ih =>
  intro hS hE hc
  by_cases h0 : S = 0
  ·subst h0; exact hc
  ·obtain ⟨v, hv, h1, h2⟩ := (elimG_step hG hS h0).1 hE
   have hd := diff_lt hv
   refine ih _ hd (by omega) h1 ?_
   have hvn : v < G.length := bit_lt hS hv
   have hvb : bset (lft G (diff S (2 ^ v))) v := (lft_bit _ _ _).2 ⟨hvn, fun h => ((diff_bset _ _ _).1 h).2 ((two_pow_bit v v).2 rfl)⟩
   refine (canB_true hn (by omega) (by omega)).2 ⟨v, hvb, ?_, ?_⟩
   ·unfold dg
    rw [pc_nine (nbset_lt hG _ _) hn]
    exact h2
   ·rw [show diff S (2 ^ v) ||| 2 ^ v = S from eq_bits fun j => by
     rw [or_bit, diff_bset, two_pow_bit]
     constructor
     ·rintro (h | rfl)
      ·exact h.1
      ·exact hv
     ·intro h
      by_cases e : j = v
      ·exact .inr e
      ·exact .inl ⟨h, e⟩]
    exact hc
theorem canB_elim {m : Nat} (hG : Gr m G) {k : Nat} : ∀ d gone, pc (lft G gone) 9 = d → gone < 2 ^ G.length → ElimG G k gone → canB G k gone = true → ElimG G k (2 ^ G.length - 1) := by
 intro d
 induction d with
 | zero =>
  intro gone hd hg hE hc
  by_cases hne : gone = 2 ^ G.length - 1
  ·rw [← hne]; exact hE
  ·exact absurd hd (pc_pos (lft_small hn gone) (lft_ne hg hne))
 | succ d ih =>
  intro gone hd hg hE hc
  by_cases hne : gone = 2 ^ G.length - 1
  ·rw [← hne]; exact hE
  ·obtain ⟨v, hv, h1, h2⟩ := (canB_true hn hg hne).1 hc
   have h3 := pc_lft hn hv
   have hor := or_in hg hv
   have hvb := (lft_bit G gone v).1 hv
   refine ih _ (by omega) hor ?_ h2
   refine (elimG_step hG hor (fun h => ?_)).2 ⟨v, (or_bit _ _ _).2 (.inr rfl), ?_, ?_⟩
   ·have : bset (gone ||| 2 ^ v) v := (or_bit _ _ _).2 (.inr rfl)
    rw [h] at this
    simp [bset] at this
   ·rw [show diff (gone ||| 2 ^ v) (2 ^ v) = gone from eq_bits fun j => by
     rw [diff_bset, or_bit, two_pow_bit]
     constructor
     ·rintro ⟨h | h, h'⟩
      ·exact h
      ·exact absurd h h'
     ·intro h
      exact ⟨.inl h, fun e => hvb.2 (e ▸ h)⟩]
    exact hE
   ·rw [show diff (gone ||| 2 ^ v) (2 ^ v) = gone from eq_bits fun j => by
     rw [diff_bset, or_bit, two_pow_bit]
     constructor
     ·rintro ⟨h | h, h'⟩
      ·exact h
      ·exact absurd h h'
     ·intro h
      exact ⟨.inl h, fun e => hvb.2 (e ▸ h)⟩]
    unfold dg at h1
    rw [← pc_nine (nbset_lt hG _ _) hn]
    exact h1
theorem canB_zero {m : Nat} (hG : Gr m G) {k : Nat} : canB G k 0 = true ↔ ElimG G k (2 ^ G.length - 1) := by
 have h0 := Nat.two_pow_pos G.length
 exact ⟨canB_elim hn hG _ 0 rfl h0 (elimG_zero G k), fun h => canB_from hn hG _ (by omega) h (canB_all k)⟩
end
noncomputable def nextP (G : List Nat) (k gone : Nat) (v : Nat) : Bool := decide (dg G gone v ≤ k) && canB G k (gone ||| 2 ^ v)
noncomputable def ordD (G : List Nat) (k : Nat) : Nat → Nat → List Nat
 | 0, _ => []
 | d + 1, gone => match (els (lft G gone) 9).find? (nextP G k gone) with
  | some v => v :: ordD G k d (gone ||| 2 ^ v)
  | none => []
noncomputable def ordL (G : List Nat) (k : Nat) : List Nat := ordD G k G.length 0
end Go.Proofs.YtoffehihicabcaaDoor.T
end
section
namespace Go.Proofs.YtoffehihicabcaaDoor.X
open Go.RowKit YtoffehihicabcaaDoorW.PrintWords YtoffehihicabcaaDoorW.PrintLast YtoffehihicabcaaDoorW.PrintMore YtoffehihicabcaaDoor.T
theorem und3 : Tryd.prog.underlying 3 = some (.int .i64) := by kernel_rfl
theorem und4 : Tryd.prog.underlying 4 = some .bool := by kernel_rfl
theorem undM : Tryd.prog.underlying 96 = some (.map 3 4) := by kernel_rfl
theorem zero4 (w : World) : (zeroValue 4).run Tryd.prog w = .ok (.bool false) w := by kernel_rfl
theorem law3 : Maps.Keyed Tryd.prog 3 := Maps.int_keyed und3
theorem key3 (g : Nat) (hg : g < 2 ^ 62) : keyOf Tryd.prog 3 (.int .i64 (g : Int)) = some (.int .i64 (g : Int)) := Maps.keyOf_int_mk und3 (by
 have h1 : (IntKind.i64.min : Int) = -9223372036854775808 := by decide
 have h2 : (IntKind.i64.max : Int) = 9223372036854775807 := by decide
 simp only [Lit.wf, decide_eq_true_eq, Bool.and_eq_true, h1, h2]
 omega)
theorem bool_inv {H : Type} {v : Value} {b : Bool} {ps : List MemPlace} (h : plainElem (H := H) Tryd.prog 4 v = some (.lit (.bool b), ps)) : v = .bool b := by
 unfold plainElem at h
 rw [und4] at h
 cases v <;> simp at h
 rename_i x
 rw [h.1]
def Knows (N : Nat) (f : Nat → Bool) (D : DataW Unit) : Prop :=
 (∀ kl, Maps.has D kl = true → ∃ g : Nat, g < N ∧ kl = .int .i64 (g : Int)) ∧ ∀ g : Nat, g < N → Maps.has D (.int .i64 (g : Int)) = true → D.atKey (.int .i64 (g : Int)) (.lit (.bool false)) = .lit (.bool (f g))
theorem own_bound {W : World} {b n N : Nat} {f : Nat → Bool} {D : DataW Unit} (h : W.ownsMap Tryd.prog 3 (plainElem Tryd.prog 4) b n D) (hk : Knows N f D) : W.ownsMap Tryd.prog 3 (plainElem Tryd.prog 4) b N D := by
 obtain ⟨L, e, h1, h2⟩ := h.canon law3
 obtain ⟨es, clock, hb, F, hs, hD⟩ := h
 refine ⟨es, clock, hb, F, ?_, hD⟩
 rw [hD] at e
 have e := DataW.map.inj e
 have hlen : es.size = L.length := by rw [← e, length_sorted]; simp
 rw [hlen]
 have hnd : (L.map fun p => match p.1 with | .int _ z => z.toNat | _ => 0).Nodup := by
  refine List.pairwise_map.2 (((Maps.apart_of_rising h1).imp_of_mem fun {a b} ha hb hab e2 => hab ?_))
  have key : ∀ p ∈ L, ∃ g : Nat, g < N ∧ p.1 = .int .i64 (g : Int) := fun p hp => hk.1 p.1 (by
   rw [hD, e, Maps.has_eq]
   exact List.any_eq_true.2 ⟨p, hp, WideAt.sameKey_self (h2 p hp)⟩)
  obtain ⟨g1, _, k1⟩ := key a ha
  obtain ⟨g2, _, k2⟩ := key b hb
  rw [k1, k2] at e2 ⊢
  simp at e2
  rw [e2]
 have hle : (L.map fun p => match p.1 with | .int _ z => z.toNat | _ => 0).length ≤ (List.range N).length := by
  refine nodup_le hnd fun x hx => ?_
  obtain ⟨p, hp, rfl⟩ := List.mem_map.1 hx
  obtain ⟨g, hg, k⟩ := hk.1 p.1 (by
   rw [hD, e, Maps.has_eq]
   exact List.any_eq_true.2 ⟨p, hp, WideAt.sameKey_self (h2 p hp)⟩)
  rw [k]
  exact List.mem_range.2 (by simpa using hg)
 simpa using hle
structure KM (W0 W : World) (mB N : Nat) (f : Nat → Bool) : Prop where
 map : ∃ D, W.ownsMap Tryd.prog 3 (plainElem Tryd.prog 4) mB N D ∧ Knows N f D
 grown : W0.grownBy W (some mB)
theorem KM.low {W0 W V : World} {mB N : Nat} {f : Nat → Bool} (h : KM W0 W mB N f) (hg : W.grownBy V none) : KM W0 V mB N f := by
 obtain ⟨⟨D, h1, h2⟩, h3⟩ := h
 exact ⟨⟨D, h1.kept hg (by simp), h2⟩, grown_new h3 hg (fun _ e => by cases e)⟩
theorem KM.lowR {W0 W V : World} {mB N : Nat} {f : Nat → Bool} {r : Option Nat} (h : KM W0 W mB N f) (hmB : mB < W0.heap.size) (hg : W.grownBy V r) (hr : ∀ j, r = some j → W0.heap.size ≤ j) : KM W0 V mB N f := by
 obtain ⟨⟨D, h1, h2⟩, h3⟩ := h
 exact ⟨⟨D, h1.kept hg (fun e => by have := hr mB e.symm; omega), h2⟩, grown_new h3 hg (fun j e => .inl (hr j e))⟩
theorem KM.put {W0 W V : World} {mB N g : Nat} {f : Nat → Bool} {D : DataW Unit} (h : KM W0 W mB N f) (hk : Knows N f D) (hg : g < N) (hN : N < 2 ^ 62) (ho : V.ownsMap Tryd.prog 3 (plainElem Tryd.prog 4) mB (N + 1) (D.put (.int .i64 (g : Int)) (.lit (.bool (f g))))) (hD : Maps.IsMap D) (hgr : W.grownBy V (some mB)) : KM W0 V mB N f := by
 have hkl := law3.key (key3 g (by omega))
 have hk2 : Knows N f (D.put (.int .i64 (g : Int)) (.lit (.bool (f g)))) := by
  refine ⟨fun kl hh => ?_, fun g' hg' hh => ?_⟩
  ·by_cases e : kl = .int .i64 (g : Int)
   ·exact ⟨g, hg, e⟩
   ·rw [Maps.has_put_other e] at hh
    exact hk.1 kl hh
  ·by_cases e : (Lit.int .i64 (g' : Int)) = .int .i64 (g : Int)
   ·have eg : g' = g := by
     injection e with _ e
     omega
    subst eg
    rw [Maps.atKey_put_same hD hkl]
   ·rw [Maps.has_put_other e] at hh
    rw [Maps.atKey_put_other e]
    exact hk.2 g' hg' hh
 exact ⟨⟨_, own_bound ho hk2, hk2⟩, grown_then h.grown hgr⟩
theorem wpList_known {w : World} {ops : Array Oper} {rest : List Oper} {o : Oper} {a : Act} {Q : Exit → Act → World → Prop}
  (hg : o.guard = none) (m x : Operand) (hop : o.op = Op.lookup 96 m x true) (b n : Nat) (D : DataW Unit)
  (hm : a.eval m = .map (some b)) (hown : w.ownsMap Tryd.prog 3 (plainElem Tryd.prog 4) b n D) (key : Value) (kl : Lit) (hx : a.eval x = key) (hkey : keyOf Tryd.prog 3 key = some kl)
  (r ok : Bool) (hr : D.atKey kl (.lit (.bool false)) = .lit (.bool r)) (hok : Maps.has D kl = ok)
  (hK : wpList Tryd.prog ops Q rest (a.put o.dst (.tuple #[.bool r, .bool ok])) w) : wpList Tryd.prog ops Q (o :: rest) a w := by
 refine wpList_lookup_own_ok w hg m x _ hop 3 4 law3 undM (plainElem Tryd.prog 4) (zero4 w) (.lit (.bool false)) [] (plainElem_bool und4 false) b n D hm hown key kl hx hkey fun v ps hv => ?_
 rw [hr] at hv
 rw [bool_inv hv, hok]
 exact hK
theorem goesK_ {P : Program} {ops : Array Oper} {Q : Exit → Act → World → Prop} {oi : Oper} {N : Option Tmp} {a : Act} {w : World} {K : Act → World → Prop} {f : FuncId} {fn : Func} {as_ : Array Operand} {ts : Array TypeId} (hf : P.funcs[f]? = some fn) (hname : (fn.name == "runtime.NumGoroutine") = false) (hb : fn.body.isSome = true) (args caps all : Array Value) (s : Operand)
  (hw : Region.wanted oi (yielded ops a.tmps) = true) (hN : oi.dst = N) (hop : oi.op = .call { callee := .value s, args := as_, argTypes := ts }) (hs : a.eval s = .func (.func f) #[] caps) (hargs : as_.map a.eval = args) (hall : args ++ caps = all)
  (h : Calls P f all w fun e w' => ∃ v, e = .returned v ∧ K (a.put N v) w') : if Region.wanted oi (yielded ops a.tmps) = true then Oper.wp P oi a w K Q else K (a.put N undef) w := by
 subst hall
 refine call_ f (args ++ caps) hw hN ?_ h
 have he := enters_ hf hname hb (args ++ caps) w
 unfold execOp
 simp [hop, resolve, Deferred.ofValue, invoke, hs, hargs, he]
theorem shK (v : Nat) (hv : v < 62) : ∃ J : Int, (wrap64 (2 ^ v) = J ∧ wrap64 (2 ^ min v 64) = J ∧ shl .i64 1 (v : Int) = J) ∧ J = ((2 ^ v : Nat) : Int) := by
 have e := s_one v hv
 have h : (2 : Nat) ^ v < 2 ^ 62 := Nat.pow_lt_pow_right (by omega) hv
 have h2 : wrap64 (2 ^ v) = ((2 ^ v : Nat) : Int) := by
  rw [show ((2 : Int) ^ v) = ((2 ^ v : Nat) : Int) by simp]
  generalize 2 ^ v = x at *
  exact w64_small _ (by omega) (by omega)
 exact ⟨_, ⟨h2, by rw [Nat.min_eq_left (by omega)]; exact h2, e⟩, rfl⟩
end Go.Proofs.YtoffehihicabcaaDoor.X
end
section
namespace Go.Proofs.YtoffehihicabcaaDoor.X
open Go.RowKit YtoffehihicabcaaDoorW.PrintWords YtoffehihicabcaaDoorW.PrintLast YtoffehihicabcaaDoorW.PrintMore YtoffehihicabcaaDoor.T
attribute [local go_sem] max2_int min2_int max_two min_two max_three min_three max_four min_four run_makeMap
theorem smallO {G : List Nat} (h : G.length ≤ 9) {x : Nat} (hx : x < 2 ^ G.length) : x < 512 := Nat.lt_of_lt_of_le hx (show 2 ^ G.length ≤ 2 ^ 9 from Nat.pow_le_pow_right (by omega) h)
theorem degree_callsO {G : List Nat} (hG : Gr 9 G) {gone v : Nat} (hg : gone < 2 ^ G.length) (hv : v < G.length) (Ag : Option Addr) (cg : Nat) (hcg : G.length ≤ cg) (w : World) (hGL : GL w) (h1 : Kd.C (Kd.int .i64) w Ag (gi G).length (gi G)) :
  Calls Tryd.prog 75 #[.slice Ag G.length cg, .int .i64 (v : Int), .int .i64 (gone : Int)] w fun e w' => e = .returned (.int .i64 ((dg G gone v : Nat) : Int)) ∧ Below w.heap.size w w' := by
 obtain ⟨K, hK⟩ := degree_ev G hG gone v hg hv
 have := width_town_degree.calls K Ag cg (gi G) (v : Int) (gone : Int) _ w hGL h1 (by rw [gi_length]; exact hcg) (hK K (Nat.le_refl _))
 rw [gi_length] at this
 exact this
theorem all_callsO {G : List Nat} (hG : Gr 9 G) (Ag : Option Addr) (cg : Nat) (hcg : G.length ≤ cg) (w : World) (h1 : Kd.C (Kd.int .i64) w Ag (gi G).length (gi G)) :
  Calls Tryd.prog 67 #[.slice Ag G.length cg] w fun e w' => e = .returned (.int .i64 ((2 ^ G.length - 1 : Nat) : Int)) ∧ Below w.heap.size w w' := by
 have := width_town_all.calls Ag cg (gi G) _ w h1 (by rw [gi_length]; exact hcg) (all_eq G hG.most)
 rw [gi_length] at this
 exact this.mono fun e w' h => ⟨h.1, h.2.below⟩
theorem nodes_callsO {x : Nat} (hx : x < 512) (mB : Nat) (w : World) (hmB : mB < w.heap.size) (hGL : GL w) :
  Calls Tryd.prog 98 #[.int .i64 (x : Int)] w fun e w' => ∃ A c, e = .returned (.slice A (els x 9).length c) ∧ (els x 9).length ≤ c ∧ (∀ V, w'.grownBy V (some mB) → Kd.C (Kd.int .i64) V A (els x 9).length (gi (els x 9))) ∧ Below w.heap.size w w' := by
 obtain ⟨K, hK⟩ := nodes_ev x hx
 refine (width_nodes.calls K (x : Int) _ w hGL (hK K (Nat.le_refl _))).mono ?_
 rintro e w' ⟨u, rfl, hu, hb⟩
 obtain ⟨A, c, eu, hc, hC⟩ := Kd.R_reads hu
 subst eu
 rw [gi_length] at hu
 refine ⟨A, c, by rw [gi_length], by rw [gi_length] at hc; exact hc, fun V hV => ?_, hb⟩
 have hs2 := hb.size
 have h3 := Kd.R_step (w1 := V) (Kd.R_bound hu) (fun k hk hk2 => hV.block k hk2 (fun e => by have := hk.2.1; have e2 := Option.some.inj e; omega))
 obtain ⟨A2, c2, e2, _, hC2⟩ := Kd.R_reads h3
 injection e2 with e3 e4 e5
 rw [gi_length] at hC2
 rw [e3]; exact hC2
section
variable (tB kB bB cB mB : Nat)
def canV : Value := .func (.func 97) #[] #[.pointer (some ⟨tB, 0, none⟩), .pointer (some ⟨kB, 0, none⟩), .pointer (some ⟨bB, 0, none⟩), .pointer (some ⟨cB, 0, none⟩)]
end
set_option maxHeartbeats 4000000 in
theorem index_can (tB gB bB cB mB N : Nat) (f : Nat → Bool) (W0 : World) (A : Option Addr) (c : Nat) (l : List Int) (p : Int → Bool) (w : World) (hk : KM W0 w mB N f) (hx : ∀ V, w.grownBy V (some mB) → Kd.C (Kd.int .i64) V A l.length l) (hl : l.length ≤ 1000)
  (hp : ∀ W, KM W0 W mB N f → w.grownBy W (some mB) → ∀ x ∈ l, Calls Tryd.prog 99 #[.int .i64 x, .pointer (some ⟨tB, 0, none⟩), .pointer (some ⟨gB, 0, none⟩), .pointer (some ⟨bB, 0, none⟩), .pointer (some ⟨cB, 0, none⟩)] W fun e w' => e = .returned (.bool (p x)) ∧ KM W0 w' mB N f ∧ W.grownBy w' (some mB)) :
  Calls Tryd.prog 84 #[.slice A l.length c, .func (.func 99) #[] #[.pointer (some ⟨tB, 0, none⟩), .pointer (some ⟨gB, 0, none⟩), .pointer (some ⟨bB, 0, none⟩), .pointer (some ⟨cB, 0, none⟩)]] w fun e w' => ∃ z, e = .returned (.int .i64 z) ∧ decide (z ≥ 0) = l.any p ∧ KM W0 w' mB N f ∧ w.grownBy w' (some mB) := by
 have HX := Aside0.mk hx
 have HP := Aside0.mk hp
 have HK := Aside0.mk hk
 clear hx hp hk
 go_enter Tryd.func84, Tryd.ntmps84
 go_wp2
 go_loopg [8] l.length (fun kq v8 w' => ∃ i : Nat, v8 = .int .i64 (i : Int) ∧ i + kq = l.length ∧ Aside0 ((l.drop i).any p = l.any p) ∧ Aside0 (KM W0 w' mB N f ∧ w.grownBy w' (some mB)))
 case atStart => exact ⟨0, rfl, by omega, ⟨rfl⟩, ⟨HK.out, World.grownBy.refl _ _⟩⟩
 case round =>
  obtain ⟨i, rfl, hi, HA, HB⟩ := hrel
  by_cases hil : i < l.length
  ·have hi1 : ((i : Int) < (l.length : Int)) = True := eq_true (by omega)
   have hi2 : decide ((i : Int) < (l.length : Int)) = true := decide_eq_true (by omega)
   cases gk with
   | zero => omega
   | succ gi' =>
   obtain ⟨ad, e1, hgx⟩ := Kd.at_int (HX.out _ HB.out.2) (i : Int) (by omega) (by omega)
   subst e1
   have hra : rd l (i : Int) = l[i] := by unfold rd; rw [Int.toNat_natCast, List.getD_eq_getElem?_getD, List.getElem?_eq_getElem hil]; rfl
   rw [hra, Int.toNat_natCast] at hgx
   have hm : l[i] ∈ l := List.getElem_mem hil
   have ha := HA.out
   rw [List.drop_eq_getElem_cons hil, List.any_cons] at ha
   have HC := Aside0.mk (HP.out wr HB.out.1 HB.out.2 _ hm)
   generalize l[i] = x at *
   clear hra HA
   cases hpx : p x
   ·rw [hpx] at HC ha
    have HA2 : Aside0 ((l.drop (i + 1)).any p = l.any p) := ⟨by simpa using ha⟩
    clear ha hpx hm
    go_wp2_with (go_at_call 99; refine HC.out.mono ?_; rintro e w3 ⟨rfl, hk3, hb3⟩; have HK3 := Aside0.mk hk3; have HB3 := Aside0.mk hb3; clear hk3 hb3)
    go_roundg gi'
    case measure => omega
    case rel => exact ⟨i + 1, by go_num, by omega, HA2, ⟨HK3.out, grown_then HB.out.2 HB3.out⟩⟩
   ·rw [hpx] at HC ha
    have HA2 : Aside0 (true = l.any p) := ⟨by simpa using ha⟩
    clear ha hpx hm
    go_wp2_with (go_at_call 99; refine HC.out.mono ?_; rintro e w3 ⟨rfl, hk3, hb3⟩; have HK3 := Aside0.mk hk3; have HB3 := Aside0.mk hb3; clear hk3 hb3)
    go_ret
    exact ⟨_, rfl, by rw [← HA2.out]; exact decide_eq_true (by omega), HK3.out, grown_then HB.out.2 HB3.out⟩
  ·have hi1 : ((i : Int) < (l.length : Int)) = False := eq_false (by omega)
   have hi2 : decide ((i : Int) < (l.length : Int)) = false := decide_eq_false (by omega)
   have ha := HA.out
   rw [List.drop_eq_nil_of_le (by omega)] at ha
   have HA2 : Aside0 (false = l.any p) := ⟨ha⟩
   clear ha HA
   go_wp2
   go_ret
   exact ⟨_, rfl, by rw [← HA2.out]; rfl, HB.out.1, HB.out.2⟩
theorem contains_can (tB gB bB cB mB N : Nat) (f : Nat → Bool) (W0 : World) (A : Option Addr) (c : Nat) (l : List Int) (p : Int → Bool) (w : World) (hk : KM W0 w mB N f) (hx : ∀ V, w.grownBy V (some mB) → Kd.C (Kd.int .i64) V A l.length l) (hl : l.length ≤ 1000)
  (hp : ∀ W, KM W0 W mB N f → w.grownBy W (some mB) → ∀ x ∈ l, Calls Tryd.prog 99 #[.int .i64 x, .pointer (some ⟨tB, 0, none⟩), .pointer (some ⟨gB, 0, none⟩), .pointer (some ⟨bB, 0, none⟩), .pointer (some ⟨cB, 0, none⟩)] W fun e w' => e = .returned (.bool (p x)) ∧ KM W0 w' mB N f ∧ W.grownBy w' (some mB)) :
  Calls Tryd.prog 54 #[.slice A l.length c, .func (.func 99) #[] #[.pointer (some ⟨tB, 0, none⟩), .pointer (some ⟨gB, 0, none⟩), .pointer (some ⟨bB, 0, none⟩), .pointer (some ⟨cB, 0, none⟩)]] w fun e w' => e = .returned (.bool (l.any p)) ∧ KM W0 w' mB N f ∧ w.grownBy w' (some mB) := by
 have HI := Aside0.mk (index_can tB gB bB cB mB N f W0 A c l p w hk hx hl hp)
 clear hx hl hp hk
 go_enter Tryd.func54, Tryd.ntmps54
 go_wp2_with (go_at_call 84; refine HI.out.mono ?_; rintro e w3 ⟨z, rfl, hz, hb⟩)
 go_ret
 exact ⟨by rw [← hz]; rfl, hb⟩
set_option maxHeartbeats 4000000 in
set_option maxRecDepth 100000 in
theorem can_inner (tB kB gB bB cB mB : Nat) (W0 : World) (Ag : Option Addr) (cg : Nat) (G : List Nat) (hG : Gr 9 G) (hcg : G.length ≤ cg) (bs : Nat)
  (hlow : ∀ W, W0.grownBy W (some mB) → GL W ∧ Kd.C (Kd.int .i64) W Ag (gi G).length (gi G) ∧ W.cell? ⟨tB, 0, none⟩ = some (.slice Ag G.length cg) ∧ W.cell? ⟨kB, 0, none⟩ = some (.map (some mB)) ∧ W.cell? ⟨bB, 0, none⟩ = some (.int .i64 (bs : Int)) ∧ W.cell? ⟨cB, 0, none⟩ = some (canV tB kB bB cB))
  (gone v : Nat) (hg : gone < 2 ^ G.length) (hv : v < G.length) (w : World) (hk : KM W0 w mB 512 (canB G bs)) (hc : w.cell? ⟨gB, 0, none⟩ = some (.int .i64 (gone : Int)))
  (rec : ∀ V, KM W0 V mB 512 (canB G bs) → Calls Tryd.prog 97 #[.int .i64 ((gone ||| 2 ^ v : Nat) : Int), .pointer (some ⟨tB, 0, none⟩), .pointer (some ⟨kB, 0, none⟩), .pointer (some ⟨bB, 0, none⟩), .pointer (some ⟨cB, 0, none⟩)] V fun e w' => e = .returned (.bool (canB G bs (gone ||| 2 ^ v))) ∧ KM W0 w' mB 512 (canB G bs) ∧ V.grownBy w' (some mB)) :
  Calls Tryd.prog 99 #[.int .i64 (v : Int), .pointer (some ⟨tB, 0, none⟩), .pointer (some ⟨gB, 0, none⟩), .pointer (some ⟨bB, 0, none⟩), .pointer (some ⟨cB, 0, none⟩)] w fun e w' => e = .returned (.bool (decide (dg G gone v ≤ bs) && canB G bs (gone ||| 2 ^ v))) ∧ KM W0 w' mB 512 (canB G bs) ∧ w.grownBy w' (some mB) := by
 have hn := hG.most
 obtain ⟨q1, q2, q3, q4, q5, q6⟩ := hlow w hk.grown
 have c0d : w.drew.cell? ⟨tB, 0, none⟩ = some (.slice Ag G.length cg) := q3
 have c1d : w.drew.cell? ⟨gB, 0, none⟩ = some (.int .i64 (gone : Int)) := hc
 have c2d : w.drew.cell? ⟨bB, 0, none⟩ = some (.int .i64 (bs : Int)) := q5
 have c3d : w.drew.cell? ⟨cB, 0, none⟩ = some (.func (.func 97) #[] #[.pointer (some ⟨tB, 0, none⟩), .pointer (some ⟨kB, 0, none⟩), .pointer (some ⟨bB, 0, none⟩), .pointer (some ⟨cB, 0, none⟩)]) := q6
 have c4d : Below w.heap.size w w.drew := below_drew (Below.refl _ _)
 have HK := Aside0.mk hk
 have hg512 : gone < 512 := smallO hn hg
 obtain ⟨N, ⟨hS1, hS2, hS3⟩, hNv⟩ := shK v (by omega)
 have h2v : 2 ^ v < 2 ^ G.length := Nat.pow_lt_pow_right (by omega) hv
 have hor : Go.bits .or .i64 (gone : Int) N = ((gone ||| 2 ^ v : Nat) : Int) := by
  rw [hNv, b_or _ _ (by omega) (by have := smallO hn h2v; omega)]
 have HDG : Aside0 (∀ W, (W.cell? ⟨tB, 0, none⟩ = some (.slice Ag G.length cg) ∧ W.cell? ⟨gB, 0, none⟩ = some (.int .i64 (gone : Int)) ∧ W.cell? ⟨bB, 0, none⟩ = some (.int .i64 (bs : Int)) ∧ W.cell? ⟨cB, 0, none⟩ = some (.func (.func 97) #[] #[.pointer (some ⟨tB, 0, none⟩), .pointer (some ⟨kB, 0, none⟩), .pointer (some ⟨bB, 0, none⟩), .pointer (some ⟨cB, 0, none⟩)]) ∧ Below w.heap.size w W) → Calls Tryd.prog 75 #[.slice Ag G.length cg, .int .i64 (v : Int), .int .i64 (gone : Int)] W fun e w' => e = .returned (.int .i64 ((dg G gone v : Nat) : Int)) ∧ w'.cell? ⟨tB, 0, none⟩ = some (.slice Ag G.length cg) ∧ w'.cell? ⟨gB, 0, none⟩ = some (.int .i64 (gone : Int)) ∧ w'.cell? ⟨bB, 0, none⟩ = some (.int .i64 (bs : Int)) ∧ w'.cell? ⟨cB, 0, none⟩ = some (.func (.func 97) #[] #[.pointer (some ⟨tB, 0, none⟩), .pointer (some ⟨kB, 0, none⟩), .pointer (some ⟨bB, 0, none⟩), .pointer (some ⟨cB, 0, none⟩)]) ∧ Below w.heap.size w w') := ⟨by
  rintro W ⟨s0, s1, s2, s3, s4⟩
  obtain ⟨p1, p2, _⟩ := hlow W ((hk.low (grown_of_below s4 none)).grown)
  refine (degree_callsO hG hg hv Ag cg hcg W p1 p2).mono ?_
  rintro e w' ⟨rfl, hb⟩
  exact ⟨rfl, (hb.cell (World.block_lt_of_cell? W _ s0)).trans s0, (hb.cell (World.block_lt_of_cell? W _ s1)).trans s1, (hb.cell (World.block_lt_of_cell? W _ s2)).trans s2, (hb.cell (World.block_lt_of_cell? W _ s3)).trans s3, below_step s4 hb⟩⟩
 have HREC := Aside0.mk rec
 generalize gone ||| 2 ^ v = gone' at *
 generalize canB G bs gone' = R at *
 generalize dg G gone v = dv at *
 clear hk q1 q2 q3 q4 q5 q6 rec hNv h2v hlow hg hc hG hn hv hg512
 by_cases hle : dv ≤ bs
 ·have hdec1 : ((dv : Int) ≤ (bs : Int)) = True := eq_true (by omega)
  have hdec2 : decide ((dv : Int) ≤ (bs : Int)) = true := decide_eq_true (by omega)
  rw [decide_eq_true hle, Bool.true_and]
  go_enter Tryd.func99, Tryd.ntmps99
  go_wp2
  refine start_ (n := 15) (S := fun w' => w'.cell? ⟨tB, 0, none⟩ = some (.slice Ag G.length cg) ∧ w'.cell? ⟨gB, 0, none⟩ = some (.int .i64 (gone : Int)) ∧ w'.cell? ⟨bB, 0, none⟩ = some (.int .i64 (bs : Int)) ∧ w'.cell? ⟨cB, 0, none⟩ = some (.func (.func 97) #[] #[.pointer (some ⟨tB, 0, none⟩), .pointer (some ⟨kB, 0, none⟩), .pointer (some ⟨bB, 0, none⟩), .pointer (some ⟨cB, 0, none⟩)]) ∧ Below w.heap.size w w') (ds := [12]) (Qbz 15 0) (by kernel_rfl) rfl rfl ⟨c0d, c1d, c2d, c3d, c4d⟩ (fun hHeld => ?_)
  refine Qpu 1 8 ?_ ?_ (Qbz 15 2) (by kernel_rfl) ?_
  refine take_ (i := 0) (N := some 7) (v := ?_) (a' := ?_) (Qbz 15 3) rfl rfl (by kernel_rfl) (fun _ _ _ h => h) (Or.inl ⟨by rfl, ?_⟩) hHeld ?_ ?_;rotate_left;(·rintro w' ⟨s0, s1, s2, s3, s4⟩;go_simp;with_reducible rfl);rotate_left;(·simp only [Act.put, Qp1, Qp2, Qp3, i64_w, i32_w];rfl)
  refine take_ (i := 2) (N := some 9) (v := ?_) (a' := ?_) (Qbz 15 7) rfl rfl (by kernel_rfl) (fun _ _ _ h => h) (Or.inl ⟨by rfl, ?_⟩) hHeld ?_ ?_;rotate_left;(·rintro w' ⟨s0, s1, s2, s3, s4⟩;go_simp;with_reducible rfl);rotate_left;(·simp only [Act.put, Qp1, Qp2, Qp3, i64_w, i32_w];rfl)
  refine take_ (i := 4) (N := some 11) (v := ?_) (a' := ?_) (Qbz 15 23) rfl rfl (by kernel_rfl) (fun _ _ _ h => h) (Or.inl ⟨by rfl, ?_⟩) hHeld ?_ ?_;rotate_left;(·rintro w' ⟨s0, s1, s2, s3, s4⟩;go_simp;with_reducible rfl);rotate_left;(·simp only [Act.put, Qp1, Qp2, Qp3, i64_w, i32_w];rfl)
  refine one_ (i := 3) (N := some 10) (Qbz 15 31) rfl rfl (by kernel_rfl) (by decide) (fun K hK => ?_)
  refine goes_ Tryd.func75 (by kernel_rfl) rfl #[.slice Ag G.length cg, .int .i64 (v : Int), .int .i64 (gone : Int)] (by rfl) rfl rfl (by simp only [List.map_toArray, List.map_cons, List.map_nil]; rfl) ?_
  with_reducible refine (HDG.out _ hHeld).mono ?_
  rintro e w9 ⟨rfl, k0, k1, k2, k3, kB9⟩
  refine ⟨_, rfl, ?_⟩
  refine hK.out _ _ ⟨k0, k1, k2, k3, kB9⟩ (fun hHeld => ?_)
  clear hK K
  refine norm_ (a' := ?_) ?_ ?_
  rotate_left
  ·show Act.put _ (some 10) _ = _
   simp only [Act.put, Qp1, Qp2, Qp3, i64_w, i32_w]
   rfl
  refine Qpu 5 12 ?_ ?_ (Qbz 15 63) (by kernel_rfl) ?_
  refine Qpu 6 13 ?_ ?_ (Qbz 15 127) (by kernel_rfl) ?_
  refine Qpu 9 16 ?_ ?_ (Qbz 15 639) (by kernel_rfl) ?_
  refine Qpu 10 17 ?_ ?_ (Qbz 15 1663) (by kernel_rfl) ?_
  refine take_ (i := 7) (N := some 14) (v := ?_) (a' := ?_) (Qbz 15 1791) rfl rfl (by kernel_rfl) (fun _ _ _ h => h) (Or.inl ⟨by rfl, ?_⟩) hHeld ?_ ?_;rotate_left;(·rintro w' ⟨s0, s1, s2, s3, s4⟩;go_simp;with_reducible rfl);rotate_left;(·simp only [Act.put, Qp1, Qp2, Qp3, i64_w, i32_w];rfl)
  refine take_ (i := 8) (N := some 15) (v := ?_) (a' := ?_) (Qbz 15 2047) rfl rfl (by kernel_rfl) (fun _ _ _ h => h) (Or.inl ⟨by rfl, ?_⟩) hHeld ?_ ?_;rotate_left;(·rintro w' ⟨s0, s1, s2, s3, s4⟩;go_simp;with_reducible rfl);rotate_left;(·simp only [Act.put, Qp1, Qp2, Qp3, i64_w, i32_w];rfl)
  refine Qpu 11 18 ?_ ?_ (Qbz 15 4095) (by kernel_rfl) ?_
  refine last_ (i := 12) (N := some 19) (Qbz 15 8191) rfl rfl (by kernel_rfl) (by decide) (fun K hK => ?_)
  refine goesK_ Tryd.func97 (by kernel_rfl) rfl #[.int .i64 (gone' : Int)] #[.pointer (some ⟨tB, 0, none⟩), .pointer (some ⟨kB, 0, none⟩), .pointer (some ⟨bB, 0, none⟩), .pointer (some ⟨cB, 0, none⟩)] #[.int .i64 (gone' : Int), .pointer (some ⟨tB, 0, none⟩), .pointer (some ⟨kB, 0, none⟩), .pointer (some ⟨bB, 0, none⟩), .pointer (some ⟨cB, 0, none⟩)] (.tmp 14) (by rfl) rfl rfl (by rfl) (by simp only [List.map_toArray, List.map_cons, List.map_nil]; rfl) rfl ?_
  with_reducible refine (HREC.out _ (HK.out.low (grown_of_below hHeld.2.2.2.2 none))).mono ?_
  rintro e w10 ⟨rfl, hK10, hG10⟩
  have HK10 := Aside0.mk hK10
  have HG10 := Aside0.mk hG10
  have HB9 := Aside0.mk kB9
  clear hK10 hG10 kB9
  refine ⟨_, rfl, ?_⟩
  refine hK.out _ _ ?_
  clear hK K
  refine norm_ (a' := ?_) ?_ ?_
  rotate_left
  ·show Act.put _ (some 19) _ = _
   simp only [Act.put, Qp1, Qp2, Qp3, i64_w, i32_w]
   rfl
  refine Qpu 13 20 ?_ ?_ (Qbz 15 16383) (by kernel_rfl) ?_
  refine Qpu 14 6 ?_ ?_ (Qbz 15 32767) (by kernel_rfl) ?_
  refine done_ (by kernel_rfl) ?_
  go_wp2
  go_ret
  exact ⟨rfl, HK10.out, grown_then (grown_of_below HB9.out (some mB)) HG10.out⟩
 ·have hdec1 : ((dv : Int) ≤ (bs : Int)) = False := eq_false (by omega)
  have hdec2 : decide ((dv : Int) ≤ (bs : Int)) = false := decide_eq_false (by omega)
  rw [decide_eq_false hle, Bool.false_and]
  go_enter Tryd.func99, Tryd.ntmps99
  go_wp2
  refine start_ (n := 15) (S := fun w' => w'.cell? ⟨tB, 0, none⟩ = some (.slice Ag G.length cg) ∧ w'.cell? ⟨gB, 0, none⟩ = some (.int .i64 (gone : Int)) ∧ w'.cell? ⟨bB, 0, none⟩ = some (.int .i64 (bs : Int)) ∧ w'.cell? ⟨cB, 0, none⟩ = some (.func (.func 97) #[] #[.pointer (some ⟨tB, 0, none⟩), .pointer (some ⟨kB, 0, none⟩), .pointer (some ⟨bB, 0, none⟩), .pointer (some ⟨cB, 0, none⟩)]) ∧ Below w.heap.size w w') (ds := []) (Qbz 15 0) (by kernel_rfl) rfl rfl ⟨c0d, c1d, c2d, c3d, c4d⟩ (fun hHeld => ?_)
  refine Qpu 1 8 ?_ ?_ (Qbz 15 2) (by kernel_rfl) ?_
  refine take_ (i := 0) (N := some 7) (v := ?_) (a' := ?_) (Qbz 15 3) rfl rfl (by kernel_rfl) (fun _ _ _ h => h) (Or.inl ⟨by rfl, ?_⟩) hHeld ?_ ?_;rotate_left;(·rintro w' ⟨s0, s1, s2, s3, s4⟩;go_simp;with_reducible rfl);rotate_left;(·simp only [Act.put, Qp1, Qp2, Qp3, i64_w, i32_w];rfl)
  refine take_ (i := 2) (N := some 9) (v := ?_) (a' := ?_) (Qbz 15 7) rfl rfl (by kernel_rfl) (fun _ _ _ h => h) (Or.inl ⟨by rfl, ?_⟩) hHeld ?_ ?_;rotate_left;(·rintro w' ⟨s0, s1, s2, s3, s4⟩;go_simp;with_reducible rfl);rotate_left;(·simp only [Act.put, Qp1, Qp2, Qp3, i64_w, i32_w];rfl)
  refine take_ (i := 4) (N := some 11) (v := ?_) (a' := ?_) (Qbz 15 23) rfl rfl (by kernel_rfl) (fun _ _ _ h => h) (Or.inl ⟨by rfl, ?_⟩) hHeld ?_ ?_;rotate_left;(·rintro w' ⟨s0, s1, s2, s3, s4⟩;go_simp;with_reducible rfl);rotate_left;(·simp only [Act.put, Qp1, Qp2, Qp3, i64_w, i32_w];rfl)
  refine one_ (i := 3) (N := some 10) (Qbz 15 31) rfl rfl (by kernel_rfl) (by decide) (fun K hK => ?_)
  refine goes_ Tryd.func75 (by kernel_rfl) rfl #[.slice Ag G.length cg, .int .i64 (v : Int), .int .i64 (gone : Int)] (by rfl) rfl rfl (by simp only [List.map_toArray, List.map_cons, List.map_nil]; rfl) ?_
  with_reducible refine (HDG.out _ hHeld).mono ?_
  rintro e w9 ⟨rfl, k0, k1, k2, k3, kB9⟩
  refine ⟨_, rfl, ?_⟩
  refine hK.out _ _ ⟨k0, k1, k2, k3, kB9⟩ (fun hHeld => ?_)
  clear hK K
  refine norm_ (a' := ?_) ?_ ?_
  rotate_left
  ·show Act.put _ (some 10) _ = _
   simp only [Act.put, Qp1, Qp2, Qp3, i64_w, i32_w]
   rfl
  refine Qpu 5 12 ?_ ?_ (Qbz 15 63) (by kernel_rfl) ?_
  refine Qpu 6 13 ?_ ?_ (Qbz 15 127) (by kernel_rfl) ?_
  refine Qpn 7 14 ?_ (Qbz 15 255) (by kernel_rfl) ?_
  refine Qpn 8 15 ?_ (Qbz 15 511) (by kernel_rfl) ?_
  refine Qpn 9 16 ?_ (Qbz 15 1023) (by kernel_rfl) ?_
  refine Qpn 10 17 ?_ (Qbz 15 2047) (by kernel_rfl) ?_
  refine Qpn 11 18 ?_ (Qbz 15 4095) (by kernel_rfl) ?_
  refine Qpn 12 19 ?_ (Qbz 15 8191) (by kernel_rfl) ?_
  refine Qpu 13 20 ?_ ?_ (Qbz 15 16383) (by kernel_rfl) ?_
  refine Qpu 14 6 ?_ ?_ (Qbz 15 32767) (by kernel_rfl) ?_
  refine done_ (by kernel_rfl) ?_
  go_wp2
  go_ret
  exact ⟨rfl, HK.out.low (grown_of_below hHeld.2.2.2.2 none), grown_of_below hHeld.2.2.2.2 (some mB)⟩
set_option maxHeartbeats 8000000 in
set_option maxRecDepth 100000 in
theorem can_grow (tB kB bB cB mB : Nat) (W0 : World) (hmB : mB < W0.heap.size) (Ag : Option Addr) (cg : Nat) (G : List Nat) (hG : Gr 9 G) (hcg : G.length ≤ cg) (bs : Nat)
  (hlow : ∀ W, W0.grownBy W (some mB) → GL W ∧ Kd.C (Kd.int .i64) W Ag (gi G).length (gi G) ∧ W.cell? ⟨tB, 0, none⟩ = some (.slice Ag G.length cg) ∧ W.cell? ⟨kB, 0, none⟩ = some (.map (some mB)) ∧ W.cell? ⟨bB, 0, none⟩ = some (.int .i64 (bs : Int)) ∧ W.cell? ⟨cB, 0, none⟩ = some (canV tB kB bB cB)) :
  ∀ (d gone : Nat) (w : World), pc (lft G gone) 9 = d → gone < 2 ^ G.length → KM W0 w mB 512 (canB G bs) →
  Calls Tryd.prog 97 #[.int .i64 (gone : Int), .pointer (some ⟨tB, 0, none⟩), .pointer (some ⟨kB, 0, none⟩), .pointer (some ⟨bB, 0, none⟩), .pointer (some ⟨cB, 0, none⟩)] w fun e w' => e = .returned (.bool (canB G bs gone)) ∧ KM W0 w' mB 512 (canB G bs) ∧ w.grownBy w' (some mB) := by
 have hn := hG.most
 intro d
 induction d with
 | zero =>
  intro gone w hd hg hk
  have hall : gone = 2 ^ G.length - 1 := Classical.byContradiction fun h => pc_pos (smallO hn (lft_lt G gone)) (lft_ne hg h) hd
  have hcb : canB G bs gone = true := by rw [hall]; exact canB_all bs
  rw [hcb]
  obtain ⟨w1, hw1⟩ : ∃ W : World, W = w.alloc (.cells #[.int .i64 (gone : Int)] 3) := ⟨_, rfl⟩
  have hB1 : Below w.heap.size w w1 := by rw [hw1]; exact below_alloc (Below.refl _ _) _
  have hk1 := hk.low (grown_of_below hB1 none)
  obtain ⟨q1, q2, q3, q4, q5, q6⟩ := hlow w1 hk1.grown
  have hgc : w1.cell? ⟨w.heap.size, 0, none⟩ = some (.int .i64 (gone : Int)) := by rw [hw1]; exact (blk_cell (show (w.heap.push _)[w.heap.size]? = _ from Array.getElem?_push_size) 0).trans rfl
  have hsz1 : w1.heap.size = w.heap.size + 1 := by rw [hw1]; simp
  have c0d : w1.drew.cell? ⟨tB, 0, none⟩ = some (.slice Ag G.length cg) := q3
  have c1d : w1.drew.cell? ⟨w.heap.size, 0, none⟩ = some (.int .i64 (gone : Int)) := hgc
  have c2d : Below w1.heap.size w1 w1.drew := below_drew (Below.refl _ _)
  have HAL : Aside0 (∀ W, (W.cell? ⟨tB, 0, none⟩ = some (.slice Ag G.length cg) ∧ W.cell? ⟨w.heap.size, 0, none⟩ = some (.int .i64 (gone : Int)) ∧ Below w1.heap.size w1 W) → Calls Tryd.prog 67 #[.slice Ag G.length cg] W fun e w' => e = .returned (.int .i64 ((2 ^ G.length - 1 : Nat) : Int)) ∧ w'.cell? ⟨tB, 0, none⟩ = some (.slice Ag G.length cg) ∧ w'.cell? ⟨w.heap.size, 0, none⟩ = some (.int .i64 (gone : Int)) ∧ Below w1.heap.size w1 w') := ⟨by
   rintro W ⟨s0, s1, s2⟩
   obtain ⟨p1, p2, _⟩ := hlow W ((hk1.low (grown_of_below s2 none)).grown)
   refine (all_callsO hG Ag cg hcg W p2).mono ?_
   rintro e w' ⟨rfl, hb⟩
   exact ⟨rfl, (hb.cell (World.block_lt_of_cell? W _ s0)).trans s0, (hb.cell (World.block_lt_of_cell? W _ s1)).trans s1, below_step s2 hb⟩⟩
  have HK := Aside0.mk hk
  have HB1 := Aside0.mk hB1
  rw [← hall] at HAL
  clear hk hk1 q1 q2 q3 q4 q5 q6 hlow hg hG hn hall hd hcb hB1 hgc
  go_enter Tryd.func97, Tryd.ntmps97
  go_wp2
  rw [← hw1]
  clear hw1
  refine start_ (n := 4) (S := fun w' => w'.cell? ⟨tB, 0, none⟩ = some (.slice Ag G.length cg) ∧ w'.cell? ⟨w.heap.size, 0, none⟩ = some (.int .i64 (gone : Int)) ∧ Below w1.heap.size w1 w') (ds := []) #[false, false, false, false] (by kernel_rfl) rfl rfl ⟨c0d, c1d, c2d⟩ (fun hHeld => ?_)
  refine take_ (i := 0) (N := some 9) (v := ?_) (a' := ?_) #[true, false, false, false] rfl rfl (by kernel_rfl) (fun _ _ _ h => h) (Or.inl ⟨by rfl, ?_⟩) hHeld ?_ ?_;rotate_left;(·rintro w' ⟨s0, s1, s2⟩;go_simp;with_reducible rfl);rotate_left;(·simp only [Act.put, Qp1, Qp2, Qp3, i64_w, i32_w];rfl)
  refine take_ (i := 1) (N := some 10) (v := ?_) (a' := ?_) #[true, true, false, false] rfl rfl (by kernel_rfl) (fun _ _ _ h => h) (Or.inl ⟨by rfl, ?_⟩) hHeld ?_ ?_;rotate_left;(·rintro w' ⟨s0, s1, s2⟩;go_simp;with_reducible rfl);rotate_left;(·simp only [Act.put, Qp1, Qp2, Qp3, i64_w, i32_w];rfl)
  refine one_ (i := 2) (N := some 11) #[true, true, true, false] rfl rfl (by kernel_rfl) (by decide) (fun K hK => ?_)
  refine goes_ Tryd.func67 (by kernel_rfl) rfl #[.slice Ag G.length cg] (by rfl) rfl rfl (by simp only [List.map_toArray, List.map_cons, List.map_nil]; rfl) ?_
  with_reducible refine (HAL.out _ hHeld).mono ?_
  rintro e w2 ⟨rfl, k0, k1, kB2⟩
  refine ⟨_, rfl, ?_⟩
  refine hK.out _ _ ⟨k0, k1, kB2⟩ (fun hHeld => ?_)
  clear hK K
  refine norm_ (a' := ?_) ?_ ?_
  rotate_left
  ·show Act.put _ (some 11) _ = _
   simp only [Act.put, Qp1, Qp2, Qp3, i64_w, i32_w]
   rfl
  refine Qpu 3 12 ?_ ?_ #[true, true, true, true] (by kernel_rfl) ?_
  refine done_ (by kernel_rfl) ?_
  go_wp2
  go_ret
  exact ⟨rfl, (HK.out.low (grown_of_below HB1.out none)).low (grown_of_below hHeld.2.2 none), grown_then (grown_of_below HB1.out (some mB)) (grown_of_below hHeld.2.2 (some mB))⟩
 | succ d ih =>
  intro gone w hd hg hk
  have hnall : gone ≠ 2 ^ G.length - 1 := fun h => by rw [h, lft_all] at hd; simp [pc] at hd
  have hg512 := smallO hn hg
  have hall512 : 2 ^ G.length - 1 < 512 := by
   have := smallO hn (lft_lt G 0)
   have h2 : 2 ^ G.length ≤ 2 ^ 9 := Nat.pow_le_pow_right (by omega) hn
   have h3 := Nat.two_pow_pos G.length
   omega
  have hand : Go.bits .andNot .i64 ((2 ^ G.length - 1 : Nat) : Int) (gone : Int) = ((lft G gone : Nat) : Int) := b_andNot _ _ (by omega) (by omega)
  have hcb := canB_step (k := bs) hn hg hnall
  obtain ⟨w1, hw1⟩ : ∃ W : World, W = w.alloc (.cells #[.int .i64 (gone : Int)] 3) := ⟨_, rfl⟩
  have hB1 : Below w.heap.size w w1 := by rw [hw1]; exact below_alloc (Below.refl _ _) _
  have hk1 := hk.low (grown_of_below hB1 none)
  obtain ⟨q1, q2, q3, q4, q5, q6⟩ := hlow w1 hk1.grown
  have hgc : w1.cell? ⟨w.heap.size, 0, none⟩ = some (.int .i64 (gone : Int)) := by rw [hw1]; exact (blk_cell (show (w.heap.push _)[w.heap.size]? = _ from Array.getElem?_push_size) 0).trans rfl
  have hsz1 : w1.heap.size = w.heap.size + 1 := by rw [hw1]; simp
  have c0d : w1.drew.cell? ⟨tB, 0, none⟩ = some (.slice Ag G.length cg) := q3
  have c1d : w1.drew.cell? ⟨w.heap.size, 0, none⟩ = some (.int .i64 (gone : Int)) := hgc
  have c2d : Below w1.heap.size w1 w1.drew := below_drew (Below.refl _ _)
  have HAL : Aside0 (∀ W, (W.cell? ⟨tB, 0, none⟩ = some (.slice Ag G.length cg) ∧ W.cell? ⟨w.heap.size, 0, none⟩ = some (.int .i64 (gone : Int)) ∧ Below w1.heap.size w1 W) → Calls Tryd.prog 67 #[.slice Ag G.length cg] W fun e w' => e = .returned (.int .i64 ((2 ^ G.length - 1 : Nat) : Int)) ∧ w'.cell? ⟨tB, 0, none⟩ = some (.slice Ag G.length cg) ∧ w'.cell? ⟨w.heap.size, 0, none⟩ = some (.int .i64 (gone : Int)) ∧ Below w1.heap.size w1 w') := ⟨by
   rintro W ⟨s0, s1, s2⟩
   obtain ⟨p1, p2, _⟩ := hlow W ((hk1.low (grown_of_below s2 none)).grown)
   refine (all_callsO hG Ag cg hcg W p2).mono ?_
   rintro e w' ⟨rfl, hb⟩
   exact ⟨rfl, (hb.cell (World.block_lt_of_cell? W _ s0)).trans s0, (hb.cell (World.block_lt_of_cell? W _ s1)).trans s1, below_step s2 hb⟩⟩
  obtain ⟨L, hL⟩ : ∃ L : List Nat, L = els (lft G gone) 9 := ⟨_, rfl⟩
  obtain ⟨P, hP⟩ : ∃ P : Int → Bool, P = fun x => decide (dg G gone x.toNat ≤ bs) && canB G bs (gone ||| 2 ^ x.toNat) := ⟨_, rfl⟩
  have hany : (gi L).any P = canB G bs gone := by
   rw [hcb, hL, hP]
   unfold gi
   rw [List.any_map]
   rfl
  have hLlen : L.length ≤ 9 := by rw [hL, els_length]; exact pc_le _ 9
  have HREC : Aside0 (∀ W, KM W0 W mB 512 (canB G bs) → W.cell? ⟨w.heap.size, 0, none⟩ = some (.int .i64 (gone : Int)) → ∀ x ∈ gi L, Calls Tryd.prog 99 #[.int .i64 x, .pointer (some ⟨tB, 0, none⟩), .pointer (some ⟨w.heap.size, 0, none⟩), .pointer (some ⟨bB, 0, none⟩), .pointer (some ⟨cB, 0, none⟩)] W fun e w' => e = .returned (.bool (P x)) ∧ KM W0 w' mB 512 (canB G bs) ∧ W.grownBy w' (some mB)) := ⟨fun W hKW hcW x hx => by
   unfold gi at hx
   obtain ⟨v, hv, rfl⟩ := List.mem_map.1 hx
   rw [hL] at hv
   have hvb := (mem_els.1 hv).2
   have hvn := ((lft_bit G gone v).1 hvb).1
   have hpc := pc_lft hn hvb
   rw [hP]
   exact can_inner tB kB w.heap.size bB cB mB W0 Ag cg G hG hcg bs hlow gone v hg hvn W hKW hcW fun V hV => ih (gone ||| 2 ^ v) V (by omega) (or_in hg hvb) hV⟩
  have hmBw : mB < w.heap.size := Nat.lt_of_lt_of_le hmB hk.grown.size
  have HND : Aside0 (∀ W, GL W → mB < W.heap.size → Calls Tryd.prog 98 #[.int .i64 ((lft G gone : Nat) : Int)] W fun e w' => ∃ A c, e = .returned (.slice A L.length c) ∧ L.length ≤ c ∧ (∀ V, w'.grownBy V (some mB) → Kd.C (Kd.int .i64) V A L.length (gi L)) ∧ Below W.heap.size W w') := ⟨fun W hGLW hW => by
   rw [hL]
   exact nodes_callsO (smallO hn (lft_lt G gone)) mB W hW hGLW⟩
  have hne : (((gone : Int)) == ((2 ^ G.length - 1 : Nat) : Int)) = false := beq_eq_false_iff_ne.2 (by omega)
  have HK := Aside0.mk hk
  have HB1 := Aside0.mk hB1
  have HLOW := Aside0.mk hlow
  have HANY := Aside0.mk hany
  have hg62 : gone < 2 ^ 62 := by omega
  generalize lft G gone = lf at *
  generalize canB G bs = F at *
  obtain ⟨z, hz⟩ : ∃ z : Nat, z = 2 ^ G.length - 1 := ⟨_, rfl⟩
  have HALG : Aside0 (∀ W, W0.grownBy W (some mB) → Calls Tryd.prog 67 #[.slice Ag G.length cg] W fun e w' => e = .returned (.int .i64 ((2 ^ G.length - 1 : Nat) : Int)) ∧ Below W.heap.size W w') := ⟨fun W hW => all_callsO hG Ag cg hcg W (HLOW.out W hW).2.1⟩
  have HBLK1 : Aside0 (w1.heap[w.heap.size]? = some (.cells #[.int .i64 (gone : Int)] 3 (0, 0))) := ⟨by rw [hw1]; exact Array.getElem?_push_size⟩
  rw [← hz] at hne hand HAL HALG
  clear hk hk1 q1 q2 q3 q4 q5 q6 hlow hg hG hn hd hcb hB1 hgc hz hP hL hany ih hnall hall512
  go_enter Tryd.func97, Tryd.ntmps97
  go_wp2
  rw [← hw1]
  clear hw1
  refine start_ (n := 4) (S := fun w' => w'.cell? ⟨tB, 0, none⟩ = some (.slice Ag G.length cg) ∧ w'.cell? ⟨w.heap.size, 0, none⟩ = some (.int .i64 (gone : Int)) ∧ Below w1.heap.size w1 w') (ds := []) #[false, false, false, false] (by kernel_rfl) rfl rfl ⟨c0d, c1d, c2d⟩ (fun hHeld => ?_)
  refine take_ (i := 0) (N := some 9) (v := ?_) (a' := ?_) #[true, false, false, false] rfl rfl (by kernel_rfl) (fun _ _ _ h => h) (Or.inl ⟨by rfl, ?_⟩) hHeld ?_ ?_;rotate_left;(·rintro w' ⟨s0, s1, s2⟩;go_simp;with_reducible rfl);rotate_left;(·simp only [Act.put, Qp1, Qp2, Qp3, i64_w, i32_w];rfl)
  refine take_ (i := 1) (N := some 10) (v := ?_) (a' := ?_) #[true, true, false, false] rfl rfl (by kernel_rfl) (fun _ _ _ h => h) (Or.inl ⟨by rfl, ?_⟩) hHeld ?_ ?_;rotate_left;(·rintro w' ⟨s0, s1, s2⟩;go_simp;with_reducible rfl);rotate_left;(·simp only [Act.put, Qp1, Qp2, Qp3, i64_w, i32_w];rfl)
  refine one_ (i := 2) (N := some 11) #[true, true, true, false] rfl rfl (by kernel_rfl) (by decide) (fun K hK => ?_)
  refine goes_ Tryd.func67 (by kernel_rfl) rfl #[.slice Ag G.length cg] (by rfl) rfl rfl (by simp only [List.map_toArray, List.map_cons, List.map_nil]; rfl) ?_
  with_reducible refine (HAL.out _ hHeld).mono ?_
  rintro e w2 ⟨rfl, k0, k1, kB2⟩
  refine ⟨_, rfl, ?_⟩
  refine hK.out _ _ ⟨k0, k1, kB2⟩ (fun hHeld => ?_)
  clear hK K
  refine norm_ (a' := ?_) ?_ ?_
  rotate_left
  ·show Act.put _ (some 11) _ = _
   simp only [Act.put, Qp1, Qp2, Qp3, i64_w, i32_w]
   rfl
  refine Qpu 3 12 ?_ ?_ #[true, true, true, true] (by kernel_rfl) ?_
  refine done_ (by kernel_rfl) ?_
  obtain ⟨s0, s1, s2⟩ := hHeld
  have hk2 := (HK.out.low (grown_of_below HB1.out none)).low (grown_of_below s2 none)
  have HG2 : Aside0 (w.grownBy w2 (some mB)) := ⟨grown_then (grown_of_below HB1.out (some mB)) (grown_of_below s2 (some mB))⟩
  have HK2 := Aside0.mk hk2
  have HBLK2 : Aside0 (w2.heap[w.heap.size]? = some (.cells #[.int .i64 (gone : Int)] 3 (0, 0))) := ⟨blk_grown HBLK1.out (grown_of_below s2 none) (by simp)⟩
  clear HAL HBLK1
  obtain ⟨p1, p2, p3, p4, p5, p6⟩ := HLOW.out w2 hk2.grown
  obtain ⟨⟨D, hown, hkn⟩, hgr⟩ := hk2
  have HOWN := Aside0.mk hown
  have hkey := key3 gone hg62
  have S2 := Aside0.mk s2
  have c0e : w2.drew.cell? ⟨tB, 0, none⟩ = some (.slice Ag G.length cg) := s0
  have c1e : w2.drew.cell? ⟨w.heap.size, 0, none⟩ = some (.int .i64 (gone : Int)) := s1
  have c2e : Below w2.heap.size w2 w2.drew := below_drew (Below.refl _ _)
  cases hh : Maps.has D (.int .i64 (gone : Int))
  ·have hr : D.atKey (.int .i64 (gone : Int)) (.lit (.bool false)) = .lit (.bool false) := Maps.atKey_of_not_has hh _
   clear hkn hgr s2 p5 p6 hown
   go_wp2_with (at_lookup; refine wpList_known rfl _ _ rfl mB 512 D rfl HOWN.out _ _ rfl hkey false false hr hh ?_)
   have HAL2 : Aside0 (∀ W, (W.cell? ⟨tB, 0, none⟩ = some (.slice Ag G.length cg) ∧ W.cell? ⟨w.heap.size, 0, none⟩ = some (.int .i64 (gone : Int)) ∧ Below w2.heap.size w2 W) → Calls Tryd.prog 67 #[.slice Ag G.length cg] W fun e w' => e = .returned (.int .i64 (z : Int)) ∧ w'.cell? ⟨tB, 0, none⟩ = some (.slice Ag G.length cg) ∧ w'.cell? ⟨w.heap.size, 0, none⟩ = some (.int .i64 (gone : Int)) ∧ Below w2.heap.size w2 w') := ⟨by
    rintro W ⟨s0, s1, s2⟩
    refine (HALG.out W ((HK2.out.low (grown_of_below s2 none)).grown)).mono ?_
    rintro e w' ⟨rfl, hb⟩
    exact ⟨rfl, (hb.cell (World.block_lt_of_cell? W _ s0)).trans s0, (hb.cell (World.block_lt_of_cell? W _ s1)).trans s1, below_step s2 hb⟩⟩
   have HND2 : Aside0 (∀ W, (W.cell? ⟨tB, 0, none⟩ = some (.slice Ag G.length cg) ∧ W.cell? ⟨w.heap.size, 0, none⟩ = some (.int .i64 (gone : Int)) ∧ Below w2.heap.size w2 W) → Calls Tryd.prog 98 #[.int .i64 (lf : Int)] W fun e w' => ∃ A c, e = .returned (.slice A L.length c) ∧ (∀ V, w'.grownBy V (some mB) → Kd.C (Kd.int .i64) V A L.length (gi L)) ∧ w'.cell? ⟨tB, 0, none⟩ = some (.slice Ag G.length cg) ∧ w'.cell? ⟨w.heap.size, 0, none⟩ = some (.int .i64 (gone : Int)) ∧ Below w2.heap.size w2 w') := ⟨by
    rintro W ⟨s0, s1, s2⟩
    have hkW := HK2.out.low (grown_of_below s2 none)
    refine (HND.out W (HLOW.out W hkW.grown).1 (Nat.lt_of_lt_of_le hmB hkW.grown.size)).mono ?_
    rintro e w' ⟨A, c, rfl, hc, hC, hb⟩
    exact ⟨A, c, rfl, hC, (hb.cell (World.block_lt_of_cell? W _ s0)).trans s0, (hb.cell (World.block_lt_of_cell? W _ s1)).trans s1, below_step s2 hb⟩⟩
   have HCC : Aside0 (∀ W A c, Below w2.heap.size w2 W → (∀ V, W.grownBy V (some mB) → Kd.C (Kd.int .i64) V A L.length (gi L)) → Calls Tryd.prog 54 #[.slice A L.length c, .func (.func 99) #[] #[.pointer (some ⟨tB, 0, none⟩), .pointer (some ⟨w.heap.size, 0, none⟩), .pointer (some ⟨bB, 0, none⟩), .pointer (some ⟨cB, 0, none⟩)]] W fun e w' => e = .returned (.bool (F gone)) ∧ KM W0 w' mB 512 F ∧ W.grownBy w' (some mB)) := ⟨by
    intro W A c hb hC
    have hkW := HK2.out.low (grown_of_below hb none)
    have hblkW := blk_grown HBLK2.out (grown_of_below hb none) (by simp)
    have := contains_can tB w.heap.size bB cB mB 512 F W0 A c (gi L) P W hkW (fun V hV => by rw [gi_length]; exact hC V hV) (by rw [gi_length]; omega) (fun V hKV hV x hx => HREC.out V hKV ((blk_cell (blk_grown hblkW hV (fun e => by have := Option.some.inj e; omega)) 0).trans rfl) x hx)
    rw [gi_length, HANY.out] at this
    exact this⟩
   clear HND HALG HREC HANY
   refine start_ (n := 8) (S := fun w' => w'.cell? ⟨tB, 0, none⟩ = some (.slice Ag G.length cg) ∧ w'.cell? ⟨w.heap.size, 0, none⟩ = some (.int .i64 (gone : Int)) ∧ Below w2.heap.size w2 w') (ds := [6]) (Qbz 8 0) (by kernel_rfl) rfl rfl ⟨c0e, c1e, c2e⟩ (fun hHeld => ?_)
   refine Qpu 5 26 ?_ ?_ (Qbz 8 32) (by kernel_rfl) ?_
   refine take_ (i := 0) (N := some 21) (v := ?_) (a' := ?_) (Qbz 8 33) rfl rfl (by kernel_rfl) (fun _ _ _ h => h) (Or.inl ⟨by rfl, ?_⟩) hHeld ?_ ?_;rotate_left;(·rintro w' ⟨s0, s1, s2⟩;go_simp;with_reducible rfl);rotate_left;(·simp only [Act.put, Qp1, Qp2, Qp3, i64_w, i32_w];rfl)
   refine take_ (i := 2) (N := some 23) (v := ?_) (a' := ?_) (Qbz 8 37) rfl rfl (by kernel_rfl) (fun _ _ _ h => h) (Or.inl ⟨by rfl, ?_⟩) hHeld ?_ ?_;rotate_left;(·rintro w' ⟨s0, s1, s2⟩;go_simp;with_reducible rfl);rotate_left;(·simp only [Act.put, Qp1, Qp2, Qp3, i64_w, i32_w];rfl)
   refine one_ (i := 1) (N := some 22) (Qbz 8 39) rfl rfl (by kernel_rfl) (by decide) (fun K hK => ?_)
   refine goes_ Tryd.func67 (by kernel_rfl) rfl #[.slice Ag G.length cg] (by rfl) rfl rfl (by simp only [List.map_toArray, List.map_cons, List.map_nil]; rfl) ?_
   with_reducible refine (HAL2.out _ hHeld).mono ?_
   rintro e w5 ⟨rfl, k0, k1, kB5⟩
   refine ⟨_, rfl, ?_⟩
   refine hK.out _ _ ⟨k0, k1, kB5⟩ (fun hHeld => ?_)
   clear hK K
   refine norm_ (a' := ?_) ?_ ?_
   rotate_left
   ·show Act.put _ (some 22) _ = _
    simp only [Act.put, Qp1, Qp2, Qp3, i64_w, i32_w]
    rfl
   refine Qpu 3 24 ?_ ?_ (Qbz 8 47) (by kernel_rfl) ?_
   refine one_ (i := 4) (N := some 25) (Qbz 8 63) rfl rfl (by kernel_rfl) (by decide) (fun K hK => ?_)
   refine goes_ Tryd.func98 (by kernel_rfl) rfl #[.int .i64 (lf : Int)] (by rfl) rfl rfl (by simp only [List.map_toArray, List.map_cons, List.map_nil]; rfl) ?_
   with_reducible refine (HND2.out _ hHeld).mono ?_
   rintro e w6 ⟨A6, c6, rfl, hC6, k0, k1, kB6⟩
   refine ⟨_, rfl, ?_⟩
   have HC6 := Aside0.mk hC6
   clear hC6
   refine hK.out _ _ ⟨k0, k1, kB6⟩ (fun hHeld => ?_)
   clear hK K
   refine norm_ (a' := ?_) ?_ ?_
   rotate_left
   ·show Act.put _ (some 25) _ = _
    simp only [Act.put, Qp1, Qp2, Qp3, i64_w, i32_w]
    rfl
   refine last_ (i := 6) (N := some 27) (Qbz 8 127) rfl rfl (by kernel_rfl) (by decide) (fun K hK => ?_)
   refine goes_ Tryd.func54 (by kernel_rfl) rfl #[.slice A6 L.length c6, .func (.func 99) #[] #[.pointer (some ⟨tB, 0, none⟩), .pointer (some ⟨w.heap.size, 0, none⟩), .pointer (some ⟨bB, 0, none⟩), .pointer (some ⟨cB, 0, none⟩)]] (by rfl) rfl rfl (by simp only [List.map_toArray, List.map_cons, List.map_nil]; rfl) ?_
   with_reducible refine (HCC.out _ _ _ hHeld.2.2 HC6.out).mono ?_
   rintro e w7 ⟨rfl, hK7, hG7⟩
   have HK7 := Aside0.mk hK7
   have HG7 := Aside0.mk hG7
   have HB6 := Aside0.mk kB6
   clear hK7 hG7 kB6
   refine ⟨_, rfl, ?_⟩
   refine hK.out _ _ ?_
   clear hK K
   refine norm_ (a' := ?_) ?_ ?_
   rotate_left
   ·show Act.put _ (some 27) _ = _
    simp only [Act.put, Qp1, Qp2, Qp3, i64_w, i32_w]
    rfl
   refine Qpu 7 7 ?_ ?_ (Qbz 8 255) (by kernel_rfl) ?_
   refine done_ (by kernel_rfl) ?_
   have hG27 := grown_then (grown_of_below HB6.out (some mB)) HG7.out
   obtain ⟨n1, n2, n3, n4, n5, n6⟩ := HLOW.out w7 HK7.out.grown
   have n7 : w7.cell? ⟨w.heap.size, 0, none⟩ = some (.int .i64 (gone : Int)) := (blk_cell (blk_grown HBLK2.out hG27 (fun e => by have := Option.some.inj e; omega)) 0).trans rfl
   obtain ⟨⟨D7, hown7, hkn7⟩, hgr7⟩ := HK7.out
   have HOWN7 := Aside0.mk hown7
   have HKN7 := Aside0.mk hkn7
   have HG27 := Aside0.mk hG27
   clear hown7 hkn7 hgr7 hG27 n1 n2 n3 n5 n6
   go_wp2_with (at_mapUpdate; refine wpList_mapUpdate_own _ rfl _ _ _ _ rfl 3 4 law3 undM (plainElem Tryd.prog 4) mB 512 D7 rfl HOWN7.out (by unfold maxLen; omega) _ _ _ rfl rfl hkey _ [] (plainElem_bool und4 (F gone)) ?_; intro w8 hown8 hgrow8; have HOWN8 := Aside0.mk hown8; have HG8 := Aside0.mk hgrow8; clear hown8 hgrow8)
   go_ret
   exact ⟨rfl, HK7.out.put HKN7.out hg512 (by omega) HOWN8.out HOWN7.out.isMap HG8.out, grown_then (grown_then HG2.out HG27.out) HG8.out⟩
  ·have hr := hkn.2 gone hg512 hh
   clear hkn hgr s2 p5 p6 hown HREC HANY HND HALG c0e c1e c2e
   go_wp2_with (at_lookup; refine wpList_known rfl _ _ rfl mB 512 D rfl HOWN.out _ _ rfl hkey (F gone) true hr hh ?_)
   go_ret
   exact ⟨rfl, HK2.out, HG2.out⟩
theorem undS : Tryd.prog.underlying 22 = some (.slice 3) := by kernel_rfl
theorem width_callsO {G : List Nat} (hG : Gr 9 G) {W : Nat} (hW : IsWidth G W) (Ag : Option Addr) (cg : Nat) (hcg : G.length ≤ cg) (w : World) (hGL : GL w) (h1 : Kd.C (Kd.int .i64) w Ag (gi G).length (gi G)) :
  Calls Tryd.prog 60 #[.slice Ag G.length cg] w fun e w' => e = .returned (.int .i64 (W : Int)) ∧ Below w.heap.size w w' := by
 obtain ⟨W', hW', hE⟩ := width_ev G hG
 rw [hW'.uniq hW] at hE
 obtain ⟨K, hK⟩ := hE
 have := width_town_width.calls K Ag cg (gi G) _ w hGL h1 (by rw [gi_length]; exact hcg) (hK K (Nat.le_refl _))
 rw [gi_length] at this
 exact this
set_option maxHeartbeats 1500000 in
set_option maxRecDepth 100000 in
theorem order_calls (Ag : Option Addr) (cg : Nat) (G : List Nat) (hG : Gr 9 G) (hcg : G.length ≤ cg) (bs : Nat) (hbs : IsWidth G bs) (w : World) (hGL : GL w) (hrg : Kd.C (Kd.int .i64) w Ag (gi G).length (gi G)) :
  Calls Tryd.prog 73 #[.slice Ag G.length cg] w fun e w' => ∃ v, e = .returned v ∧ Kd.R (Kd.int .i64) 3 w' w.heap.size (fun _ => True) v (gi (ordL G bs)) ∧ Below w.heap.size w w' := by
 have hn := hG.most
 obtain ⟨wt, hwt⟩ : ∃ W : World, W = w.alloc (.cells #[.slice Ag G.length cg] 73) := ⟨_, rfl⟩
 have hBt : Below w.heap.size w wt := by rw [hwt]; exact below_alloc (Below.refl _ _) _
 have htb : wt.heap[w.heap.size]? = some (.cells #[.slice Ag G.length cg] 73 (0, 0)) := by rw [hwt]; exact Array.getElem?_push_size
 have htc : wt.cell? ⟨w.heap.size, 0, none⟩ = some (.slice Ag G.length cg) := (blk_cell htb 0).trans rfl
 have hszt : wt.heap.size = w.heap.size + 1 := by rw [hwt]; simp
 have HWD : Aside0 (Calls Tryd.prog 60 #[.slice Ag G.length cg] wt fun e w' => e = .returned (.int .i64 (bs : Int)) ∧ Below wt.heap.size wt w') := ⟨width_callsO hG hbs Ag cg hcg wt (GL_below hGL hBt) (Kd.C_below hrg hBt)⟩
 have HBT := Aside0.mk hBt
 have HTB := Aside0.mk htb
 have HGL := Aside0.mk hGL
 have HRG := Aside0.mk hrg
 rw [hwt] at htc HWD
 clear hGL hrg hBt htb
 go_enter Tryd.func73, Tryd.ntmps73
 go_wp2_with (go_at_call 60; refine HWD.out.mono ?_; rintro e w1 ⟨rfl, hb1⟩; rw [← hwt] at hb1; have HB1 := Aside0.mk hb1; clear hb1)
 obtain ⟨W0, hW0⟩ : ∃ W0 : World, W0 = ((((w1.alloc (Obj.cells #[Value.int IntKind.i64 (bs : Int)] 3)).alloc (Obj.map #[] 0)).alloc (Obj.cells #[Value.map (some (w1.heap.size + 1))] 96)).alloc (Obj.cells #[.func (.func 97) #[] #[.pointer (some ⟨w.heap.size, 0, none⟩), .pointer (some ⟨w1.heap.size + 1 + 1, 0, none⟩), .pointer (some ⟨w1.heap.size, 0, none⟩), .pointer (some ⟨w1.heap.size + 1 + 1 + 1, 0, none⟩)]] 68)) := ⟨_, rfl⟩
 rw [← hW0]
 have hs1 : w.heap.size + 1 ≤ w1.heap.size := by have := HB1.out.size; omega
 have hsz : W0.heap.size = w1.heap.size + 4 := by rw [hW0]; simp
 have hBW : Below w1.heap.size w1 W0 := by rw [hW0]; exact below_alloc (below_alloc (below_alloc (below_alloc (Below.refl _ _) _) _) _) _
 have hbt : W0.heap[w.heap.size]? = some (.cells #[.slice Ag G.length cg] 73 (0, 0)) := blk_grown (blk_grown HTB.out (grown_of_below HB1.out none) (by simp)) (grown_of_below hBW none) (by simp)
 have hbb : W0.heap[w1.heap.size]? = some (.cells #[.int .i64 (bs : Int)] 3 (0, 0)) := by
  rw [hW0]
  exact blk_alloc (blk_alloc (blk_alloc (show (w1.heap.push _)[w1.heap.size]? = _ from Array.getElem?_push_size) _) _) _
 have hbk : W0.heap[w1.heap.size + 1 + 1]? = some (.cells #[.map (some (w1.heap.size + 1))] 96 (0, 0)) := by
  rw [hW0]
  refine blk_alloc ?_ _
  have : ((w1.alloc (Obj.cells #[Value.int IntKind.i64 (bs : Int)] 3)).alloc (Obj.map #[] 0)).heap.size = w1.heap.size + 1 + 1 := by simp
  rw [← this]
  exact (show (Array.push _ _)[_]? = _ from Array.getElem?_push_size)
 have hbc : W0.heap[w1.heap.size + 1 + 1 + 1]? = some (.cells #[.func (.func 97) #[] #[.pointer (some ⟨w.heap.size, 0, none⟩), .pointer (some ⟨w1.heap.size + 1 + 1, 0, none⟩), .pointer (some ⟨w1.heap.size, 0, none⟩), .pointer (some ⟨w1.heap.size + 1 + 1 + 1, 0, none⟩)]] 68 (0, 0)) := by
  rw [hW0]
  have : (((w1.alloc (Obj.cells #[Value.int IntKind.i64 (bs : Int)] 3)).alloc (Obj.map #[] 0)).alloc (Obj.cells #[Value.map (some (w1.heap.size + 1))] 96)).heap.size = w1.heap.size + 1 + 1 + 1 := by simp
  rw [← this]
  exact (show (Array.push _ _)[_]? = _ from Array.getElem?_push_size)
 have hmap : W0.ownsMap Tryd.prog 3 (plainElem Tryd.prog 4) (w1.heap.size + 1) 512 (.map [] : DataW Unit) := by
  rw [hW0]
  have := World.ownsMap_made (H := Unit) (w1.alloc (Obj.cells #[Value.int IntKind.i64 (bs : Int)] 3)) Tryd.prog 3 (plainElem Tryd.prog 4)
  rw [show (w1.alloc (Obj.cells #[Value.int IntKind.i64 (bs : Int)] 3)).heap.size = w1.heap.size + 1 by simp] at this
  exact ((this.alloc _).alloc _).mono (by omega)
 clear hW0
 have hKM0 : KM W0 W0 (w1.heap.size + 1) 512 (canB G bs) := ⟨⟨_, hmap, (by
  refine ⟨?_, ?_⟩
  ·intro kl h; cases h
  ·intro g _ h; cases h)⟩, World.grownBy.refl _ _⟩
 have hlow : ∀ W, W0.grownBy W (some (w1.heap.size + 1)) → GL W ∧ Kd.C (Kd.int .i64) W Ag (gi G).length (gi G) ∧ W.cell? ⟨w.heap.size, 0, none⟩ = some (.slice Ag G.length cg) ∧ W.cell? ⟨w1.heap.size + 1 + 1, 0, none⟩ = some (.map (some (w1.heap.size + 1))) ∧ W.cell? ⟨w1.heap.size, 0, none⟩ = some (.int .i64 (bs : Int)) ∧ W.cell? ⟨w1.heap.size + 1 + 1 + 1, 0, none⟩ = some (canV w.heap.size (w1.heap.size + 1 + 1) w1.heap.size (w1.heap.size + 1 + 1 + 1)) := fun W hW => by
  have hB01 := below_step HBT.out HB1.out
  have hB02 := below_step hB01 hBW
  have hB : Below w.heap.size w W := ⟨hW.os.trans hB02.os, hW.tape.trans hB02.tape, hW.output.trans hB02.output, Nat.le_trans hB02.size hW.size, fun k hk => (hW.block k (by omega) (fun e => by have := Option.some.inj e; omega)).trans (hB02.block k hk)⟩
  exact ⟨GL_below HGL.out hB, Kd.C_below HRG.out hB, (blk_cell (blk_grown hbt hW (fun e => by have := Option.some.inj e; omega)) 0).trans rfl, (blk_cell (blk_grown hbk hW (fun e => by have := Option.some.inj e; omega)) 0).trans rfl, (blk_cell (blk_grown hbb hW (fun e => by have := Option.some.inj e; omega)) 0).trans rfl, (blk_cell (blk_grown hbc hW (fun e => by have := Option.some.inj e; omega)) 0).trans rfl⟩
 have HFIN : Aside0 (∀ W, W0.grownBy W (some (w1.heap.size + 1)) → Below w.heap.size w W) := ⟨fun W hW => by
  have hB02 := below_step (below_step HBT.out HB1.out) hBW
  exact ⟨hW.os.trans hB02.os, hW.tape.trans hB02.tape, hW.output.trans hB02.output, Nat.le_trans hB02.size hW.size, fun k hk => (hW.block k (by omega) (fun e => by have := Option.some.inj e; omega)).trans (hB02.block k hk)⟩⟩
 have HLOW := Aside0.mk hlow
 have HALL : Aside0 (∀ W, W0.grownBy W (some (w1.heap.size + 1)) → Calls Tryd.prog 67 #[.slice Ag G.length cg] W fun e w' => e = .returned (.int .i64 ((2 ^ G.length - 1 : Nat) : Int)) ∧ Below W.heap.size W w') := ⟨fun W hW => all_callsO hG Ag cg hcg W (HLOW.out W hW).2.1⟩
 have HDEG : Aside0 (∀ (W : World) (gone v : Nat), gone < 2 ^ G.length → v < G.length → W0.grownBy W (some (w1.heap.size + 1)) → Calls Tryd.prog 75 #[.slice Ag G.length cg, .int .i64 (v : Int), .int .i64 (gone : Int)] W fun e w' => e = .returned (.int .i64 ((dg G gone v : Nat) : Int)) ∧ Below W.heap.size W w') := ⟨fun W gone v hg hv hW => degree_callsO hG hg hv Ag cg hcg W (HLOW.out W hW).1 (HLOW.out W hW).2.1⟩
 have HCAN : Aside0 (∀ (V : World) (gone : Nat), gone < 2 ^ G.length → KM W0 V (w1.heap.size + 1) 512 (canB G bs) → Calls Tryd.prog 97 #[.int .i64 (gone : Int), .pointer (some ⟨w.heap.size, 0, none⟩), .pointer (some ⟨w1.heap.size + 1 + 1, 0, none⟩), .pointer (some ⟨w1.heap.size, 0, none⟩), .pointer (some ⟨w1.heap.size + 1 + 1 + 1, 0, none⟩)] V fun e w' => e = .returned (.bool (canB G bs gone)) ∧ KM W0 w' (w1.heap.size + 1) 512 (canB G bs) ∧ V.grownBy w' (some (w1.heap.size + 1))) := ⟨fun V gone hg hV => can_grow w.heap.size (w1.heap.size + 1 + 1) w1.heap.size (w1.heap.size + 1 + 1 + 1) (w1.heap.size + 1) W0 (by omega) Ag cg G hG hcg bs hlow _ gone V rfl hg hV⟩
 have HKM0 := Aside0.mk hKM0
 have h2n := Nat.two_pow_pos G.length
 have hpc0 : pc (lft G 0) 9 = G.length := by
  have e : lft G 0 = 2 ^ G.length - 1 := eq_bits fun j => by rw [lft_bit, all_bit]; simp [bset]
  rw [e]
  have : ∀ i : Fin 10, pc (2 ^ i.val - 1) 9 = i.val := by decide
  exact this ⟨G.length, by omega⟩
 have hc0 : canB G bs 0 = true := (canB_zero hn hG).2 ((hbs bs).1 (Nat.le_refl _))
 have HC0 := Aside0.mk hc0
 have HBS := Aside0.mk hbs
 have HGR := Aside0.mk hG
 have H2N := Aside0.mk h2n
 have hmB : w1.heap.size + 1 < W0.heap.size := by omega
 clear hbt hbb hbk hbc hmap hlow hBW hKM0 hwt htc hszt hbs hG hc0 h2n
 go_loopg [6, 7] G.length (fun kq v6 v7 w' => ∃ (gone : Nat) (M : List Nat), v7 = .int .i64 (gone : Int) ∧ pc (lft G gone) 9 = kq ∧ M.length + kq = G.length ∧ Aside0 (gone < 2 ^ G.length) ∧ Aside0 (canB G bs gone = true) ∧ Aside0 (M ++ ordD G bs kq gone = ordL G bs) ∧ Aside0 (KM W0 w' (w1.heap.size + 1) 512 (canB G bs) ∧ w'.ownsRow W0.heap.size 3 1 v6 M.length ((gi M).map (Value.int .i64))))
 case atStart => exact ⟨0, [], rfl, hpc0, by simp, H2N, HC0, ⟨rfl⟩, ⟨HKM0.out, ⟨rfl, .inl ⟨rfl, rfl⟩⟩⟩⟩
 case round =>
  clear HC0 hpc0
  obtain ⟨gone, M, rfl, hpc, hMl, HG1, HC1, HM1, HX1⟩ := hrel
  obtain ⟨A6, c6, e6⟩ := ownsRow_form2 HX1.out.2
  subst e6
  have ht0 : wr.cell? ⟨w.heap.size, 0, none⟩ = some (.slice Ag G.length cg) := (HLOW.out wr HX1.out.1.grown).2.2.1
  have hg512 := smallO hn HG1.out
  have hall512 : 2 ^ G.length - 1 < 512 := by
   have h2 : 2 ^ G.length ≤ 2 ^ 9 := Nat.pow_le_pow_right (by omega) hn
   have h3 := H2N.out
   omega
  by_cases hall : gone = 2 ^ G.length - 1
  ·have hk0 : gk = 0 := by rw [← hpc, hall, lft_all]; rfl
   subst hk0
   have hne : (((gone : Int)) != ((2 ^ G.length - 1 : Nat) : Int)) = false := by rw [hall]; simp
   have HAL := Aside0.mk (HALL.out wr HX1.out.1.grown)
   rw [← hall] at HAL
   have HM2 : Aside0 (M = ordL G bs) := ⟨by have := HM1.out; simpa [ordD] using this⟩
   clear hall hall512 hne
   go_wp2_with (go_at_call 67; refine HAL.out.mono ?_; rintro e w3 ⟨rfl, hb3⟩; have HB3 := Aside0.mk hb3; clear hb3)
   go_ret
   refine ⟨_, rfl, ?_, HFIN.out _ ((HX1.out.1.low (grown_of_below HB3.out none)).grown)⟩
   have ho := own_kept HX1.out.2 (grown_of_below HB3.out none) (fun _ _ e => by cases e)
   rw [← HM2.out]
   rw [← gi_length M] at ho
   have hR := Kd.R_of_own (h1 := fun _ => rfl) (ok := fun _ => True) ho (fun _ _ => trivial)
   rw [gi_length] at hR
   have hR2 := Kd.R_lower hR (show w.heap.size ≤ W0.heap.size by omega)
   exact hR2
  ·have hne : (((gone : Int)) != ((2 ^ G.length - 1 : Nat) : Int)) = true := by
    have : (((gone : Int)) == ((2 ^ G.length - 1 : Nat) : Int)) = false := beq_eq_false_iff_ne.2 (by omega)
    rw [bne, this]; rfl
   have hne2 : (((gone : Int)) == ((2 ^ G.length - 1 : Nat) : Int)) = false := beq_eq_false_iff_ne.2 (by omega)
   cases gk with
   | zero => exact absurd hpc (pc_pos (smallO hn (lft_lt G gone)) (lft_ne HG1.out hall))
   | succ d =>
   have hand : Go.bits .andNot .i64 ((2 ^ G.length - 1 : Nat) : Int) (gone : Int) = ((lft G gone : Nat) : Int) := b_andNot _ _ (by omega) (by omega)
   obtain ⟨L, hL⟩ : ∃ L : List Nat, L = els (lft G gone) 9 := ⟨_, rfl⟩
   have hfind : ∃ x, L.find? (nextP G bs gone) = some x := by
    obtain ⟨v, h1, h2, h3⟩ := (canB_true hn HG1.out hall).1 HC1.out
    have hm : v ∈ L := by rw [hL]; exact mem_els.2 ⟨bit_lt (lft_small hn gone) h1, h1⟩
    cases hf : L.find? (nextP G bs gone) with
    | some x => exact ⟨x, rfl⟩
    | none =>
     have := List.find?_eq_none.1 hf v hm
     unfold nextP at this
     rw [h3, decide_eq_true h2] at this
     simp at this
   obtain ⟨x, hx⟩ := hfind
   have HM2 : Aside0 (M ++ x :: ordD G bs d (gone ||| 2 ^ x) = ordL G bs) := ⟨by
    have := HM1.out
    rw [ordD, ← hL, hx] at this
    exact this⟩
   have hxL : x ∈ L := List.mem_of_find?_eq_some hx
   have hxp : nextP G bs gone x = true := List.find?_some hx
   have hLb : ∀ u ∈ L, bset (lft G gone) u := fun u hu => by rw [hL] at hu; exact (mem_els.1 hu).2
   have hLlen : L.length ≤ 9 := by rw [hL, els_length]; exact pc_le _ 9
   have HND : Aside0 (∀ W, GL W → w1.heap.size + 1 < W.heap.size → Calls Tryd.prog 98 #[.int .i64 ((lft G gone : Nat) : Int)] W fun e w' => ∃ A c, e = .returned (.slice A L.length c) ∧ L.length ≤ c ∧ (∀ V, w'.grownBy V (some (w1.heap.size + 1)) → Kd.C (Kd.int .i64) V A L.length (gi L)) ∧ Below W.heap.size W w') := ⟨fun W hGLW hW => by
    rw [hL]
    exact nodes_callsO (smallO hn (lft_lt G gone)) (w1.heap.size + 1) W hW hGLW⟩
   have HLB := Aside0.mk hLb
   have HXB := Aside0.mk (hLb x hxL)
   have HXP := Aside0.mk hxp
   have HF0 : Aside0 ((L.drop 0).find? (nextP G bs gone) = some x) := ⟨hx⟩
   have HPC : Aside0 (pc (lft G (gone ||| 2 ^ x)) 9 = d) := ⟨by have := pc_lft hn (hLb x hxL); omega⟩
   have HAL := Aside0.mk (fun W hW => HALL.out W hW)
   obtain ⟨z, hz⟩ : ∃ z : Nat, z = 2 ^ G.length - 1 := ⟨_, rfl⟩
   rw [← hz] at hne hne2 hand HAL
   generalize hlf : lft G gone = lf at HND hand
   clear hL hx hxL hxp hLb hpc hall hall512 hz HM1 HALL
   go_wp2_with (first
    | (go_at_call 67; refine (HAL.out _ (by first | exact (HX1.out.1.low (grown_of_below HBA.out none)).grown | exact HX1.out.1.grown)).mono ?_; rintro e w3 ⟨rfl, hb3⟩; have HBA := Aside0.mk (by first | exact below_step HBA.out hb3 | exact hb3); have ht3 := (hb3.cell (World.block_lt_of_cell? _ _ (by assumption))).trans (by assumption); clear hb3)
    | (go_at_call 98; refine (HND.out _ (HLOW.out _ (HX1.out.1.low (grown_of_below HBA.out none)).grown).1 (Nat.lt_of_lt_of_le hmB (HX1.out.1.low (grown_of_below HBA.out none)).grown.size)).mono ?_; rintro e w5 ⟨An, cn, rfl, hcn, hCn, hb5⟩; have HCN := Aside0.mk hCn; have HB5 := Aside0.mk (below_step HBA.out hb5); clear hCn hb5))
   have HX5 : Aside0 (KM W0 w5 (w1.heap.size + 1) 512 (canB G bs) ∧ w5.ownsRow W0.heap.size 3 1 (.slice A6 M.length c6) M.length ((gi M).map (Value.int .i64))) := ⟨HX1.out.1.low (grown_of_below HB5.out none), own_kept HX1.out.2 (grown_of_below HB5.out none) (fun _ _ e => by cases e)⟩
   clear HX1 HND HAL hand hne hne2
   obtain ⟨wo, rfl⟩ : ∃ wo : World, wo = w5 := ⟨_, rfl⟩
   go_loopg [24, 6, 7] L.length (fun iq v24 v6 v7 w' => ∃ i : Nat, v24 = .int .i64 (i : Int) ∧ v6 = .slice A6 M.length c6 ∧ v7 = .int .i64 (gone : Int) ∧ i + iq = L.length ∧ Aside0 ((L.drop i).find? (nextP G bs gone) = some x) ∧ Aside0 (KM W0 w' (w1.heap.size + 1) 512 (canB G bs) ∧ wo.grownBy w' (some (w1.heap.size + 1))))
   case atStart => exact ⟨0, rfl, rfl, rfl, by omega, HF0, ⟨HX5.out.1, World.grownBy.refl _ _⟩⟩
   case round =>
    clear HF0
    obtain ⟨i, rfl, rfl, rfl, hi, HF, HW⟩ := hrel
    have hil : i < L.length := Nat.lt_of_not_le fun h => by
     have := HF.out
     rw [List.drop_eq_nil_of_le h] at this
     cases this
    have hi1 : ((i : Int) < (L.length : Int)) = True := eq_true (by omega)
    have hi2 : decide ((i : Int) < (L.length : Int)) = true := decide_eq_true (by omega)
    cases gk with
    | zero => omega
    | succ gi' =>
    obtain ⟨ad, e1, hgx⟩ := Kd.at_int (HCN.out wr HW.out.2) (i : Int) (by omega) (by omega)
    subst e1
    rw [rd_gi, Int.toNat_natCast] at hgx
    have hf := HF.out
    rw [List.drop_eq_getElem_cons hil, List.find?_cons] at hf
    have hum : L[i] ∈ L := List.getElem_mem hil
    have hue : L.getD i 0 = L[i] := by rw [List.getD_eq_getElem?_getD, List.getElem?_eq_getElem hil]; rfl
    rw [hue] at hgx
    generalize L[i] = u at *
    have hub := HLB.out u hum
    have hun : u < G.length := ((lft_bit G gone u).1 hub).1
    obtain ⟨q1, q2, q3, q4, q5, q6⟩ := HLOW.out wr HW.out.1.grown
    have c0d : wr.drew.cell? ⟨w.heap.size, 0, none⟩ = some (.slice Ag G.length cg) := q3
    have c1d : wr.drew.cell? ⟨w1.heap.size, 0, none⟩ = some (.int .i64 (bs : Int)) := q5
    have c2d : wr.drew.cell? ⟨w1.heap.size + 1 + 1 + 1, 0, none⟩ = some (.func (.func 97) #[] #[.pointer (some ⟨w.heap.size, 0, none⟩), .pointer (some ⟨w1.heap.size + 1 + 1, 0, none⟩), .pointer (some ⟨w1.heap.size, 0, none⟩), .pointer (some ⟨w1.heap.size + 1 + 1 + 1, 0, none⟩)]) := q6
    have c3d : Below wr.heap.size wr wr.drew := below_drew (Below.refl _ _)
    have HKR := Aside0.mk HW.out.1
    have HGR2 := Aside0.mk HW.out.2
    obtain ⟨N, ⟨hS1, hS2, hS3⟩, hNv⟩ := shK u (by omega)
    have h2u : 2 ^ u < 2 ^ G.length := Nat.pow_lt_pow_right (by omega) hun
    have hor : Go.bits .or .i64 (gone : Int) N = ((gone ||| 2 ^ u : Nat) : Int) := by
     rw [hNv, b_or _ _ (Nat.lt_of_lt_of_le hg512 (by decide)) (Nat.lt_of_lt_of_le (smallO hn h2u) (by decide))]
    have HDG : Aside0 (∀ W, (W.cell? ⟨w.heap.size, 0, none⟩ = some (.slice Ag G.length cg) ∧ W.cell? ⟨w1.heap.size, 0, none⟩ = some (.int .i64 (bs : Int)) ∧ W.cell? ⟨w1.heap.size + 1 + 1 + 1, 0, none⟩ = some (.func (.func 97) #[] #[.pointer (some ⟨w.heap.size, 0, none⟩), .pointer (some ⟨w1.heap.size + 1 + 1, 0, none⟩), .pointer (some ⟨w1.heap.size, 0, none⟩), .pointer (some ⟨w1.heap.size + 1 + 1 + 1, 0, none⟩)]) ∧ Below wr.heap.size wr W) → Calls Tryd.prog 75 #[.slice Ag G.length cg, .int .i64 (u : Int), .int .i64 (gone : Int)] W fun e w' => e = .returned (.int .i64 ((dg G gone u : Nat) : Int)) ∧ w'.cell? ⟨w.heap.size, 0, none⟩ = some (.slice Ag G.length cg) ∧ w'.cell? ⟨w1.heap.size, 0, none⟩ = some (.int .i64 (bs : Int)) ∧ w'.cell? ⟨w1.heap.size + 1 + 1 + 1, 0, none⟩ = some (.func (.func 97) #[] #[.pointer (some ⟨w.heap.size, 0, none⟩), .pointer (some ⟨w1.heap.size + 1 + 1, 0, none⟩), .pointer (some ⟨w1.heap.size, 0, none⟩), .pointer (some ⟨w1.heap.size + 1 + 1 + 1, 0, none⟩)]) ∧ Below wr.heap.size wr w') := ⟨by
     rintro W ⟨s0, s1, s2, s3⟩
     refine (HDEG.out W gone u HG1.out hun ((HKR.out.low (grown_of_below s3 none)).grown)).mono ?_
     rintro e w' ⟨rfl, hb⟩
     exact ⟨rfl, (hb.cell (World.block_lt_of_cell? W _ s0)).trans s0, (hb.cell (World.block_lt_of_cell? W _ s1)).trans s1, (hb.cell (World.block_lt_of_cell? W _ s2)).trans s2, below_step s3 hb⟩⟩
    have HREC : Aside0 (∀ V, KM W0 V (w1.heap.size + 1) 512 (canB G bs) → Calls Tryd.prog 97 #[.int .i64 ((gone ||| 2 ^ u : Nat) : Int), .pointer (some ⟨w.heap.size, 0, none⟩), .pointer (some ⟨w1.heap.size + 1 + 1, 0, none⟩), .pointer (some ⟨w1.heap.size, 0, none⟩), .pointer (some ⟨w1.heap.size + 1 + 1 + 1, 0, none⟩)] V fun e w' => e = .returned (.bool (canB G bs (gone ||| 2 ^ u))) ∧ KM W0 w' (w1.heap.size + 1) 512 (canB G bs) ∧ V.grownBy w' (some (w1.heap.size + 1))) := ⟨fun V hV => HCAN.out V _ (or_in HG1.out hub) hV⟩
    have HOR : Aside0 (gone ||| 2 ^ u < 2 ^ G.length) := ⟨or_in HG1.out hub⟩
    clear HF HW q1 q2 q3 q4 q5 q6 hNv h2u hum hue hub
    by_cases hp : nextP G bs gone u = true
    ·rw [hp] at hf
     obtain rfl : u = x := Option.some.inj hf
     have hp2 := hp
     unfold nextP at hp2
     rw [Bool.and_eq_true, decide_eq_true_eq] at hp2
     obtain ⟨hle, hcan⟩ := hp2
     rw [hcan] at HREC
     have HCANT := Aside0.mk hcan
     generalize gone ||| 2 ^ u = gone' at *
     generalize dg G gone u = dv at *
     have hdec1 : ((dv : Int) ≤ (bs : Int)) = True := eq_true (by omega)
     have hdec2 : decide ((dv : Int) ≤ (bs : Int)) = true := decide_eq_true (by omega)
     clear hf hp hcan HXP HXB HLB
     go_wp2
     refine start_ (n := 14) (S := fun w' => w'.cell? ⟨w.heap.size, 0, none⟩ = some (.slice Ag G.length cg) ∧ w'.cell? ⟨w1.heap.size, 0, none⟩ = some (.int .i64 (bs : Int)) ∧ w'.cell? ⟨w1.heap.size + 1 + 1 + 1, 0, none⟩ = some (.func (.func 97) #[] #[.pointer (some ⟨w.heap.size, 0, none⟩), .pointer (some ⟨w1.heap.size + 1 + 1, 0, none⟩), .pointer (some ⟨w1.heap.size, 0, none⟩), .pointer (some ⟨w1.heap.size + 1 + 1 + 1, 0, none⟩)]) ∧ Below wr.heap.size wr w') (ds := [12]) (Qbz 14 0) (by kernel_rfl) rfl rfl ⟨c0d, c1d, c2d, c3d⟩ (fun hHeld => ?_)
     refine Qpu 1 29 ?_ ?_ (Qbz 14 2) (by kernel_rfl) ?_
     refine Qpu 2 30 ?_ ?_ (Qbz 14 6) (by kernel_rfl) ?_
     refine take_ (i := 0) (N := some 28) (v := ?_) (a' := ?_) (Qbz 14 7) rfl rfl (by kernel_rfl) (fun _ _ _ h => h) (Or.inl ⟨by rfl, ?_⟩) hHeld ?_ ?_;rotate_left;(·rintro w' ⟨s0, s1, s2, s3⟩;go_simp;with_reducible rfl);rotate_left;(·simp only [Act.put, Qp1, Qp2, Qp3, i64_w, i32_w];rfl)
     refine take_ (i := 4) (N := some 32) (v := ?_) (a' := ?_) (Qbz 14 23) rfl rfl (by kernel_rfl) (fun _ _ _ h => h) (Or.inl ⟨by rfl, ?_⟩) hHeld ?_ ?_;rotate_left;(·rintro w' ⟨s0, s1, s2, s3⟩;go_simp;with_reducible rfl);rotate_left;(·simp only [Act.put, Qp1, Qp2, Qp3, i64_w, i32_w];rfl)
     refine one_ (i := 3) (N := some 31) (Qbz 14 31) rfl rfl (by kernel_rfl) (by decide) (fun K hK => ?_)
     refine goes_ Tryd.func75 (by kernel_rfl) rfl #[.slice Ag G.length cg, .int .i64 (u : Int), .int .i64 (gone : Int)] (by rfl) rfl rfl (by simp only [List.map_toArray, List.map_cons, List.map_nil]; rfl) ?_
     with_reducible refine (HDG.out _ hHeld).mono ?_
     rintro e w9 ⟨rfl, k0, k1, k2, kB9⟩
     refine ⟨_, rfl, ?_⟩
     refine hK.out _ _ ⟨k0, k1, k2, kB9⟩ (fun hHeld => ?_)
     clear hK K
     refine norm_ (a' := ?_) ?_ ?_
     rotate_left
     ·show Act.put _ (some 31) _ = _
      simp only [Act.put, Qp1, Qp2, Qp3, i64_w, i32_w]
      rfl
     refine Qpu 5 33 ?_ ?_ (Qbz 14 63) (by kernel_rfl) ?_
     refine Qpu 6 34 ?_ ?_ (Qbz 14 127) (by kernel_rfl) ?_
     refine Qpu 8 36 ?_ ?_ (Qbz 14 383) (by kernel_rfl) ?_
     refine Qpu 9 37 ?_ ?_ (Qbz 14 895) (by kernel_rfl) ?_
     refine Qpu 10 38 ?_ ?_ (Qbz 14 1919) (by kernel_rfl) ?_
     refine Qpu 11 39 ?_ ?_ (Qbz 14 3967) (by kernel_rfl) ?_
     refine take_ (i := 7) (N := some 35) (v := ?_) (a' := ?_) (Qbz 14 4095) rfl rfl (by kernel_rfl) (fun _ _ _ h => h) (Or.inl ⟨by rfl, ?_⟩) hHeld ?_ ?_;rotate_left;(·rintro w' ⟨s0, s1, s2, s3⟩;go_simp;with_reducible rfl);rotate_left;(·simp only [Act.put, Qp1, Qp2, Qp3, i64_w, i32_w];rfl)
     refine last_ (i := 12) (N := some 40) (Qbz 14 8191) rfl rfl (by kernel_rfl) (by decide) (fun K hK => ?_)
     refine goesK_ Tryd.func97 (by kernel_rfl) rfl #[.int .i64 (gone' : Int)] #[.pointer (some ⟨w.heap.size, 0, none⟩), .pointer (some ⟨w1.heap.size + 1 + 1, 0, none⟩), .pointer (some ⟨w1.heap.size, 0, none⟩), .pointer (some ⟨w1.heap.size + 1 + 1 + 1, 0, none⟩)] #[.int .i64 (gone' : Int), .pointer (some ⟨w.heap.size, 0, none⟩), .pointer (some ⟨w1.heap.size + 1 + 1, 0, none⟩), .pointer (some ⟨w1.heap.size, 0, none⟩), .pointer (some ⟨w1.heap.size + 1 + 1 + 1, 0, none⟩)] (.tmp 35) (by rfl) rfl rfl (by rfl) (by simp only [List.map_toArray, List.map_cons, List.map_nil]; rfl) rfl ?_
     with_reducible refine (HREC.out _ (HKR.out.low (grown_of_below hHeld.2.2.2 none))).mono ?_
     rintro e w10 ⟨rfl, hK10, hG10⟩
     have HK10 := Aside0.mk hK10
     have HG10 := Aside0.mk hG10
     have HB9 := Aside0.mk kB9
     clear hK10 hG10 kB9
     refine ⟨_, rfl, ?_⟩
     refine hK.out _ _ ?_
     clear hK K
     refine norm_ (a' := ?_) ?_ ?_
     rotate_left
     ·show Act.put _ (some 40) _ = _
      simp only [Act.put, Qp1, Qp2, Qp3, i64_w, i32_w]
      rfl
     refine Qpu 13 41 ?_ ?_ (Qbz 14 16383) (by kernel_rfl) ?_
     refine done_ (by kernel_rfl) ?_
     have hK10 := HK10.out
     have hG510 := grown_then HGR2.out (grown_then (grown_of_below HB9.out (some (w1.heap.size + 1))) HG10.out)
     have hO10 := own_kept HX5.out.2 hG510 (fun b hb e => by have := own_base2 HX5.out.2 b hb; have e2 := Option.some.inj e; omega)
     have HO10 := Aside0.mk hO10
     obtain ⟨i3, hi3, hq0, hq1, hq2⟩ := info_parts info3
     clear hO10 hG510 hK10
     go_wp2_with (at_builtin; refine wpList_append_own_at _ rfl _ _ 22 rfl W0.heap.size 3 i3 (.int .i64 0) 1 8 undS hi3 hq0 hq1 hq2 rfl (by decide) (.slice A6 M.length c6) M.length ((gi M).map (Value.int .i64)) rfl (HO10.out.alloc _) ⟨w10.heap.size, 0, none⟩ 1 1 [.int .i64 (u : Int)] rfl rfl (cell_one_new _ _ _) (by simp [Value.oneCell']) (by unfold maxLen; omega) (by omega) (by have := HK10.out.grown.size; simp; omega) ?_; intro v8 w8 hown8 hg8 _ hfb8; have HOWN8 := Aside0.mk hown8; have HG8 := Aside0.mk hg8; clear hown8 hg8 hfb8)
     go_roundg d
     case measure => omega
     case rel =>
      have hbase := fun j (e : (Value.slice A6 M.length c6).ownBlock = some j) => own_base2 HO10.out j e
      have k1 := HK10.out.low (World.grownBy_alloc w10 (.cells #[.int .i64 (u : Int)] 3) none)
      have k2 := k1.lowR hmB HG8.out (fun j e => hbase j e)
      refine ⟨gone', M ++ [u], rfl, HPC.out, by simp; omega, HOR, HCANT, ⟨by have := HM2.out; simpa using this⟩, ⟨k2, ?_⟩⟩
      have ho := HOWN8.out
      rw [show (M ++ [u]).length = M.length + 1 by simp, show (gi (M ++ [u])).map (Value.int .i64) = (gi M).map (Value.int .i64) ++ [.int .i64 (u : Int)] by simp [gi]]
      exact ho
    ·have hpf : nextP G bs gone u = false := by simpa using hp
     rw [hpf] at hf
     have HF2 : Aside0 ((L.drop (i + 1)).find? (nextP G bs gone) = some x) := ⟨hf⟩
     have hp2 := hpf
     unfold nextP at hp2
     clear hf hp hpf
     by_cases hle : dg G gone u ≤ bs
     ·rw [decide_eq_true hle, Bool.true_and] at hp2
      rw [hp2] at HREC
      generalize gone ||| 2 ^ u = gone' at *
      generalize dg G gone u = dv at *
      have hdec1 : ((dv : Int) ≤ (bs : Int)) = True := eq_true (by omega)
      have hdec2 : decide ((dv : Int) ≤ (bs : Int)) = true := decide_eq_true (by omega)
      clear hp2
      go_wp2
      refine start_ (n := 14) (S := fun w' => w'.cell? ⟨w.heap.size, 0, none⟩ = some (.slice Ag G.length cg) ∧ w'.cell? ⟨w1.heap.size, 0, none⟩ = some (.int .i64 (bs : Int)) ∧ w'.cell? ⟨w1.heap.size + 1 + 1 + 1, 0, none⟩ = some (.func (.func 97) #[] #[.pointer (some ⟨w.heap.size, 0, none⟩), .pointer (some ⟨w1.heap.size + 1 + 1, 0, none⟩), .pointer (some ⟨w1.heap.size, 0, none⟩), .pointer (some ⟨w1.heap.size + 1 + 1 + 1, 0, none⟩)]) ∧ Below wr.heap.size wr w') (ds := [12]) (Qbz 14 0) (by kernel_rfl) rfl rfl ⟨c0d, c1d, c2d, c3d⟩ (fun hHeld => ?_)
      refine Qpu 1 29 ?_ ?_ (Qbz 14 2) (by kernel_rfl) ?_
      refine Qpu 2 30 ?_ ?_ (Qbz 14 6) (by kernel_rfl) ?_
      refine take_ (i := 0) (N := some 28) (v := ?_) (a' := ?_) (Qbz 14 7) rfl rfl (by kernel_rfl) (fun _ _ _ h => h) (Or.inl ⟨by rfl, ?_⟩) hHeld ?_ ?_;rotate_left;(·rintro w' ⟨s0, s1, s2, s3⟩;go_simp;with_reducible rfl);rotate_left;(·simp only [Act.put, Qp1, Qp2, Qp3, i64_w, i32_w];rfl)
      refine take_ (i := 4) (N := some 32) (v := ?_) (a' := ?_) (Qbz 14 23) rfl rfl (by kernel_rfl) (fun _ _ _ h => h) (Or.inl ⟨by rfl, ?_⟩) hHeld ?_ ?_;rotate_left;(·rintro w' ⟨s0, s1, s2, s3⟩;go_simp;with_reducible rfl);rotate_left;(·simp only [Act.put, Qp1, Qp2, Qp3, i64_w, i32_w];rfl)
      refine one_ (i := 3) (N := some 31) (Qbz 14 31) rfl rfl (by kernel_rfl) (by decide) (fun K hK => ?_)
      refine goes_ Tryd.func75 (by kernel_rfl) rfl #[.slice Ag G.length cg, .int .i64 (u : Int), .int .i64 (gone : Int)] (by rfl) rfl rfl (by simp only [List.map_toArray, List.map_cons, List.map_nil]; rfl) ?_
      with_reducible refine (HDG.out _ hHeld).mono ?_
      rintro e w9 ⟨rfl, k0, k1, k2, kB9⟩
      refine ⟨_, rfl, ?_⟩
      refine hK.out _ _ ⟨k0, k1, k2, kB9⟩ (fun hHeld => ?_)
      clear hK K
      refine norm_ (a' := ?_) ?_ ?_
      rotate_left
      ·show Act.put _ (some 31) _ = _
       simp only [Act.put, Qp1, Qp2, Qp3, i64_w, i32_w]
       rfl
      refine Qpu 5 33 ?_ ?_ (Qbz 14 63) (by kernel_rfl) ?_
      refine Qpu 6 34 ?_ ?_ (Qbz 14 127) (by kernel_rfl) ?_
      refine Qpu 8 36 ?_ ?_ (Qbz 14 383) (by kernel_rfl) ?_
      refine Qpu 9 37 ?_ ?_ (Qbz 14 895) (by kernel_rfl) ?_
      refine Qpu 10 38 ?_ ?_ (Qbz 14 1919) (by kernel_rfl) ?_
      refine Qpu 11 39 ?_ ?_ (Qbz 14 3967) (by kernel_rfl) ?_
      refine take_ (i := 7) (N := some 35) (v := ?_) (a' := ?_) (Qbz 14 4095) rfl rfl (by kernel_rfl) (fun _ _ _ h => h) (Or.inl ⟨by rfl, ?_⟩) hHeld ?_ ?_;rotate_left;(·rintro w' ⟨s0, s1, s2, s3⟩;go_simp;with_reducible rfl);rotate_left;(·simp only [Act.put, Qp1, Qp2, Qp3, i64_w, i32_w];rfl)
      refine last_ (i := 12) (N := some 40) (Qbz 14 8191) rfl rfl (by kernel_rfl) (by decide) (fun K hK => ?_)
      refine goesK_ Tryd.func97 (by kernel_rfl) rfl #[.int .i64 (gone' : Int)] #[.pointer (some ⟨w.heap.size, 0, none⟩), .pointer (some ⟨w1.heap.size + 1 + 1, 0, none⟩), .pointer (some ⟨w1.heap.size, 0, none⟩), .pointer (some ⟨w1.heap.size + 1 + 1 + 1, 0, none⟩)] #[.int .i64 (gone' : Int), .pointer (some ⟨w.heap.size, 0, none⟩), .pointer (some ⟨w1.heap.size + 1 + 1, 0, none⟩), .pointer (some ⟨w1.heap.size, 0, none⟩), .pointer (some ⟨w1.heap.size + 1 + 1 + 1, 0, none⟩)] (.tmp 35) (by rfl) rfl rfl (by rfl) (by simp only [List.map_toArray, List.map_cons, List.map_nil]; rfl) rfl ?_
      with_reducible refine (HREC.out _ (HKR.out.low (grown_of_below hHeld.2.2.2 none))).mono ?_
      rintro e w10 ⟨rfl, hK10, hG10⟩
      have HK10 := Aside0.mk hK10
      have HG10 := Aside0.mk hG10
      have HB9 := Aside0.mk kB9
      clear hK10 hG10 kB9
      refine ⟨_, rfl, ?_⟩
      refine hK.out _ _ ?_
      clear hK K
      refine norm_ (a' := ?_) ?_ ?_
      rotate_left
      ·show Act.put _ (some 40) _ = _
       simp only [Act.put, Qp1, Qp2, Qp3, i64_w, i32_w]
       rfl
      refine Qpu 13 41 ?_ ?_ (Qbz 14 16383) (by kernel_rfl) ?_
      refine done_ (by kernel_rfl) ?_
      go_wp2
      go_roundg gi'
      case measure => omega
      case rel => exact ⟨i + 1, by go_num, rfl, rfl, by omega, HF2, ⟨HK10.out, grown_then HGR2.out (grown_then (grown_of_below HB9.out (some (w1.heap.size + 1))) HG10.out)⟩⟩
     ·generalize gone ||| 2 ^ u = gone' at *
      generalize dg G gone u = dv at *
      have hdec1 : ((dv : Int) ≤ (bs : Int)) = False := eq_false (by omega)
      have hdec2 : decide ((dv : Int) ≤ (bs : Int)) = false := decide_eq_false (by omega)
      clear hp2 HREC
      go_wp2
      refine start_ (n := 14) (S := fun w' => w'.cell? ⟨w.heap.size, 0, none⟩ = some (.slice Ag G.length cg) ∧ w'.cell? ⟨w1.heap.size, 0, none⟩ = some (.int .i64 (bs : Int)) ∧ w'.cell? ⟨w1.heap.size + 1 + 1 + 1, 0, none⟩ = some (.func (.func 97) #[] #[.pointer (some ⟨w.heap.size, 0, none⟩), .pointer (some ⟨w1.heap.size + 1 + 1, 0, none⟩), .pointer (some ⟨w1.heap.size, 0, none⟩), .pointer (some ⟨w1.heap.size + 1 + 1 + 1, 0, none⟩)]) ∧ Below wr.heap.size wr w') (ds := []) (Qbz 14 0) (by kernel_rfl) rfl rfl ⟨c0d, c1d, c2d, c3d⟩ (fun hHeld => ?_)
      refine Qpu 1 29 ?_ ?_ (Qbz 14 2) (by kernel_rfl) ?_
      refine Qpu 2 30 ?_ ?_ (Qbz 14 6) (by kernel_rfl) ?_
      refine take_ (i := 0) (N := some 28) (v := ?_) (a' := ?_) (Qbz 14 7) rfl rfl (by kernel_rfl) (fun _ _ _ h => h) (Or.inl ⟨by rfl, ?_⟩) hHeld ?_ ?_;rotate_left;(·rintro w' ⟨s0, s1, s2, s3⟩;go_simp;with_reducible rfl);rotate_left;(·simp only [Act.put, Qp1, Qp2, Qp3, i64_w, i32_w];rfl)
      refine take_ (i := 4) (N := some 32) (v := ?_) (a' := ?_) (Qbz 14 23) rfl rfl (by kernel_rfl) (fun _ _ _ h => h) (Or.inl ⟨by rfl, ?_⟩) hHeld ?_ ?_;rotate_left;(·rintro w' ⟨s0, s1, s2, s3⟩;go_simp;with_reducible rfl);rotate_left;(·simp only [Act.put, Qp1, Qp2, Qp3, i64_w, i32_w];rfl)
      refine one_ (i := 3) (N := some 31) (Qbz 14 31) rfl rfl (by kernel_rfl) (by decide) (fun K hK => ?_)
      refine goes_ Tryd.func75 (by kernel_rfl) rfl #[.slice Ag G.length cg, .int .i64 (u : Int), .int .i64 (gone : Int)] (by rfl) rfl rfl (by simp only [List.map_toArray, List.map_cons, List.map_nil]; rfl) ?_
      with_reducible refine (HDG.out _ hHeld).mono ?_
      rintro e w9 ⟨rfl, k0, k1, k2, kB9⟩
      refine ⟨_, rfl, ?_⟩
      refine hK.out _ _ ⟨k0, k1, k2, kB9⟩ (fun hHeld => ?_)
      clear hK K
      refine norm_ (a' := ?_) ?_ ?_
      rotate_left
      ·show Act.put _ (some 31) _ = _
       simp only [Act.put, Qp1, Qp2, Qp3, i64_w, i32_w]
       rfl
      refine Qpu 5 33 ?_ ?_ (Qbz 14 63) (by kernel_rfl) ?_
      refine Qpu 6 34 ?_ ?_ (Qbz 14 127) (by kernel_rfl) ?_
      refine Qpn 7 35 ?_ (Qbz 14 255) (by kernel_rfl) ?_
      refine Qpn 8 36 ?_ (Qbz 14 511) (by kernel_rfl) ?_
      refine Qpn 9 37 ?_ (Qbz 14 1023) (by kernel_rfl) ?_
      refine Qpn 10 38 ?_ (Qbz 14 2047) (by kernel_rfl) ?_
      refine Qpn 11 39 ?_ (Qbz 14 4095) (by kernel_rfl) ?_
      refine Qpn 12 40 ?_ (Qbz 14 8191) (by kernel_rfl) ?_
      refine Qpu 13 41 ?_ ?_ (Qbz 14 16383) (by kernel_rfl) ?_
      refine done_ (by kernel_rfl) ?_
      go_wp2
      go_roundg gi'
      case measure => omega
      case rel => exact ⟨i + 1, by go_num, rfl, rfl, by omega, HF2, ⟨HKR.out.low (grown_of_below hHeld.2.2.2 none), grown_then HGR2.out (grown_of_below hHeld.2.2.2 (some (w1.heap.size + 1)))⟩⟩
theorem gi_toNatO (G : List Nat) : (gi G).map Int.toNat = G := by
 unfold gi
 rw [List.map_map]
 conv => rhs; rw [← List.map_id G]
 exact List.map_congr_left fun x _ => by simp
open Classical in
noncomputable def widthN (G : List Nat) : Nat := if h : ∃ W, IsWidth G W then Classical.choose h else 0
theorem widthN_is {m : Nat} {G : List Nat} (hG : Gr m G) : IsWidth G (widthN G) := by
 obtain ⟨W, hW, _⟩ := width_exists hG
 have h : ∃ W, IsWidth G W := ⟨W, hW⟩
 unfold widthN
 rw [dif_pos h]
 exact Classical.choose_spec h
noncomputable def width_town_order.f (g : List Int) : Option (List Int) :=
 if chk 9 g = true then some (gi (ordL (g.map Int.toNat) (widthN (g.map Int.toNat)))) else none
theorem width_town_order.calls (A0 : Option Addr) (c0 : Nat) (l0 : List Int) (r1 : List Int) (w : World) (hGL : GL w) (hr0 : Kd.C (Kd.int .i64) w A0 l0.length l0) (hc0 : l0.length ≤ c0) (h : width_town_order.f l0 = some r1) :
  Calls Tryd.prog 73 #[.slice A0 l0.length c0] w fun e w' => ∃ v, e = .returned v ∧ Kd.R (Kd.int .i64) 3 w' w.heap.size (fun _ => True) v r1 ∧ Below w.heap.size w w' := by
 unfold width_town_order.f at h
 by_cases hc : chk 9 l0 = true
 ·rw [if_pos hc] at h
  obtain ⟨G, rfl, hG⟩ := (chk_iff 9 (by omega) _).1 hc
  rw [gi_toNatO] at h
  have h := Option.some.inj h
  subst h
  have := order_calls A0 c0 G hG (by rw [gi_length] at hc0; exact hc0) (widthN G) (widthN_is hG) w hGL hr0
  rw [gi_length]
  exact this
 ·rw [if_neg hc] at h; cases h
end Go.Proofs.YtoffehihicabcaaDoor.X
end
section
namespace Go.Proofs.YtoffehihicabcaaDoor.X
open Go.RowKit YtoffehihicabcaaDoorW.PrintWords YtoffehihicabcaaDoorW.PrintLast YtoffehihicabcaaDoorW.PrintMore
attribute [local go_sem] max2_int min2_int max_two min_two max_three min_three max_four min_four
noncomputable section
def lampblackref02_turn.f (k : Nat) (l0 : List Int) (a1 : Int) (a2 : Int) : Option (Int) := if 0 ≤ a2 then ((lampblackref01_Reached.f k l0 (Go.bits .or .i64 a1 (shl .i64 1 a2)) a2).bind fun t343 => ((lampblackref02_Around.f k l0 t343).bind fun t344 => ((lampblackref02_Size.f k (Go.bits .andNot .i64 (Go.bits .andNot .i64 t344 a1) (shl .i64 1 a2))).bind fun t345 => (some t345)))) else (none)
end
noncomputable section
mutual
def lampblackref02_rest.l0 : Nat → List Int → Int → List Int → Int → Option (List Int)
 | 0, _, _, _, _ => none
 | k + 1, x0, x3, x4, x5 => if x5 ≥ 0 then (if 0 ≤ x5 then (if x5 < (x4.length : Int) then (lampblackref02_rest.l1 k x0 x3 (x4.set (x5 : Int).toNat x3) x5 (x0.length : Int) 0) else (none)) else (none)) else (some x4)
def lampblackref02_rest.l1 : Nat → List Int → Int → List Int → Int → Int → Int → Option (List Int)
 | 0, _, _, _, _, _, _ => none
 | k + 1, x0, x3, x4, x5, x24, x25 => if x25 < x24 then (if 0 ≤ x25 then (if (Go.bits .and .i64 (shr .i64 x5 x25) 1) = 0 then (if 0 ≤ x5 then (if x5 < (x4.length : Int) then ((lampblackref02_turn.f k x0 x5 x25).bind fun t351 => (if 0 ≤ (Go.bits .or .i64 x5 (shl .i64 1 x25)) then (if (Go.bits .or .i64 x5 (shl .i64 1 x25)) < (x4.length : Int) then (lampblackref02_rest.l1 k x0 x3 (x4.set (x5 : Int).toNat (mn (rd x4 x5) (mx t351 (rd x4 (Go.bits .or .i64 x5 (shl .i64 1 x25)))))) x5 x24 (wrap64 (x25 + 1))) else (none)) else (none))) else (none)) else (none)) else (lampblackref02_rest.l1 k x0 x3 x4 x5 x24 (wrap64 (x25 + 1)))) else (none)) else (lampblackref02_rest.l0 k x0 x3 x4 (wrap64 (x5 - 1)))
end
end
noncomputable section
mutual
def lampblackref02_Order.l0 : Nat → List Int → List Int → List Int → Int → Int → Int → Option (List Int)
 | 0, _, _, _, _, _, _ => none
 | k + 1, x0, x3, x4, x5, x10, x11 => if x11 < x10 then (lampblackref02_Order.l1 k x0 x3 x4 x5 x10 x11 (x0.length : Int) 0) else (some x4)
def lampblackref02_Order.l1 : Nat → List Int → List Int → List Int → Int → Int → Int → Int → Int → Option (List Int)
 | 0, _, _, _, _, _, _, _, _ => none
 | k + 1, x0, x3, x4, x5, x10, x11, x14, x15 => if x15 < x14 then (if 0 ≤ x15 then (if (Go.bits .and .i64 (shr .i64 x5 x15) 1) = 0 then ((lampblackref02_turn.f k x0 x5 x15).bind fun t363 => (if 0 ≤ (Go.bits .or .i64 x5 (shl .i64 1 x15)) then (if (Go.bits .or .i64 x5 (shl .i64 1 x15)) < (x3.length : Int) then (if 0 < (x3.length : Int) then (if (mx t363 (rd x3 (Go.bits .or .i64 x5 (shl .i64 1 x15)))) ≤ (rd x3 0) then (if x4.length < 17592186044416 then (lampblackref02_Order.l0 k x0 x3 (x4 ++ [x15]) (Go.bits .or .i64 x5 (shl .i64 1 x15)) x10 (wrap64 (x11 + 1))) else (none)) else (lampblackref02_Order.l1 k x0 x3 x4 x5 x10 x11 x14 (wrap64 (x15 + 1)))) else (none)) else (none)) else (none))) else (lampblackref02_Order.l1 k x0 x3 x4 x5 x10 x11 x14 (wrap64 (x15 + 1)))) else (none)) else (lampblackref02_Order.l0 k x0 x3 x4 x5 x10 (wrap64 (x11 + 1)))
end
end
noncomputable section
end
noncomputable section
def lampblackref02_Along.l0 : Nat → List Int → Int → Int → List Int → Int → Int → Option (Int)
 | 0, _, _, _, _, _, _ => none
 | k + 1, x0, x5, x6, x9, x10, x11 => if x11 < x10 then (if 0 ≤ x11 then (if x11 < (x9.length : Int) then ((lampblackref02_turn.f k x0 x6 (rd x9 x11)).bind fun t371 => (if 0 ≤ (rd x9 x11) then (lampblackref02_Along.l0 k x0 (mx x5 t371) (Go.bits .or .i64 x6 (shl .i64 1 (rd x9 x11))) x9 x10 (wrap64 (x11 + 1))) else (none))) else (none)) else (none)) else (some x5)
end
noncomputable section
def lampblackref02_IsOrder.l0 : Nat → List Int → Int → Int → List Int → Int → Int → Option (Bool)
 | 0, _, _, _, _, _, _ => none
 | k + 1, x0, x1, x5, x8, x9, x10 => if x10 < x9 then (if 0 ≤ x10 then (if x10 < (x8.length : Int) then (if (rd x8 x10) < 0 then (some false) else (if (rd x8 x10) ≥ x1 then (some false) else (if 0 ≤ (rd x8 x10) then (if (Go.bits .and .i64 (shr .i64 x5 (rd x8 x10)) 1) = 1 then (some false) else (lampblackref02_IsOrder.l0 k x0 x1 (Go.bits .or .i64 x5 (shl .i64 1 (rd x8 x10))) x8 x9 (wrap64 (x10 + 1)))) else (none)))) else (none)) else (none)) else (some ((x0.length : Int) == x1))
end
noncomputable section
def width_town_isOrder.l0 : Nat → List Int → List Int → Int → List Int → Int → Int → Option (Bool)
 | 0, _, _, _, _, _, _ => none
 | k + 1, x0, x1, x5, x8, x9, x10 => if x10 < x9 then (if 0 ≤ x10 then (if x10 < (x8.length : Int) then (if (rd x8 x10) < 0 then (some false) else (if (rd x8 x10) ≥ (x0.length : Int) then (some false) else (if 0 ≤ (rd x8 x10) then (width_town_isOrder.l0 k x0 x1 (Go.bits .or .i64 x5 (shl .i64 1 (rd x8 x10))) x8 x9 (wrap64 (x10 + 1))) else (none)))) else (none)) else (none)) else (if (x1.length : Int) = (x0.length : Int) then ((width_town_all.f x0).bind fun t335 => (some (x5 == t335))) else (some false))
end
noncomputable section
mutual
def width_Along.j0 : Nat → List Int → List Int → Bool → Option (Int × Int)
 | 0, _, _, _ => none
 | k + 1, x1, x6, x24 => if x24 = true then (some (0, 2)) else (width_Along.l0 k x6 0 0 x1 (x1.length : Int) 0)
def width_Along.l0 : Nat → List Int → Int → Int → List Int → Int → Int → Option (Int × Int)
 | 0, _, _, _, _, _, _ => none
 | k + 1, x6, x8, x9, x25, x26, x27 => if x27 < x26 then (if 0 ≤ x27 then (if x27 < (x25.length : Int) then ((width_town_degree.f k x6 (rd x25 x27) x8).bind fun t342 => (if 0 ≤ (rd x25 x27) then (width_Along.l0 k x6 (Go.bits .or .i64 x8 (shl .i64 1 (rd x25 x27))) (mx x9 t342) x25 x26 (wrap64 (x27 + 1))) else (none))) else (none)) else (none)) else (some (x9, 0))
end
end
noncomputable section
end
end Go.Proofs.YtoffehihicabcaaDoor.X
end
section
namespace Go.Proofs.YtoffehihicabcaaDoor.X
open Go.RowKit YtoffehihicabcaaDoorW.PrintWords YtoffehihicabcaaDoorW.PrintLast YtoffehihicabcaaDoorW.PrintMore YtoffehihicabcaaDoor.T
theorem next_find {G : List Nat} (hn : G.length ≤ 9) {k gone x : Nat} (hx : (els (lft G gone) 9).find? (nextP G k gone) = some x) :
  bset (lft G gone) x ∧ nextP G k gone x = true ∧ ∀ v, v < x → bset (lft G gone) v → nextP G k gone v = false := by
 refine ⟨(mem_els.1 (List.mem_of_find?_eq_some hx)).2, List.find?_some hx, fun v hv hb => ?_⟩
 obtain ⟨_, la, lb, h1, h2⟩ := List.find?_eq_some_iff_append.1 hx
 have hm : v ∈ els (lft G gone) 9 := mem_els.2 ⟨bit_lt (lft_small hn gone) hb, hb⟩
 have hs : (els (lft G gone) 9).Pairwise (· < ·) := List.Pairwise.filter _ List.pairwise_lt_range
 rw [h1] at hm hs
 rcases List.mem_append.1 hm with hm | hm
 ·simpa using h2 v hm
 ·rcases List.mem_cons.1 hm with rfl | hm
  ·omega
  ·have := (List.pairwise_append.1 hs).2.1
   have := (List.pairwise_cons.1 this).1 v hm
   omega
theorem lft_zero_pc {G : List Nat} (hn : G.length ≤ 9) : pc (lft G 0) 9 = G.length := by
 have e : lft G 0 = 2 ^ G.length - 1 := eq_bits fun j => by rw [lft_bit, all_bit]; simp [bset]
 rw [e]
 have : ∀ i : Fin 10, pc (2 ^ i.val - 1) 9 = i.val := by decide
 exact this ⟨G.length, by omega⟩
noncomputable def alongN (G : List Nat) : List Nat → Nat → Nat → Nat
 | [], _, o => o
 | v :: l, gone, o => alongN G l (gone ||| 2 ^ v) (max o (dg G gone v))
end Go.Proofs.YtoffehihicabcaaDoor.X
end
