/- Part 3 of what SweepChecks rests on: contracts of the functions that it reaches, and what they compute, in plain words. -/
import Derived.Test.YtijfddobandcdaaDoorZSweepChecks2
import Derived.Test.YtijfddobandcdaaDoorZSweepChecks1
section
/- The reference's IsBlockage: it tells what CheckBlockage tells. -/
set_option linter.unusedVariables false
namespace Go.Proofs.YtijfddobandcdaaDoor.X
open Go.RowKit Go.Proofs.YtijfddobandcdaaDoorW.PrintWords Go.Proofs.YtijfddobandcdaaDoorW.PrintLast Go.Proofs.YtijfddobandcdaaDoorW.PrintMore Go.Proofs.YtijfddobandcdaaDoor.T

/-- What is asked of two sets. -/
def ptB (G : List Nat) (k : Nat) (H : List Bool) (x y : Nat) : Bool := !(H.getD x false && decide (pc (bo G y) 9 ≤ k) && (diff y x == 0) && !H.getD y false) && !(sidesB G k x y && (H.getD x false == H.getD y false))
theorem cb2_pt (G : List Nat) (k : Nat) (H : List Bool) (x : Nat) (N : Nat) : ∀ d y, (cb2a G k H x d y && cb2b H x (othTo G k x d y)) = allFrom (ptB G k H x) N d y
  | 0, _ => rfl
  | d + 1, y => by
    have ih := cb2_pt G k H x N d (y + 1)
    rw [allFrom, ← ih]
    simp only [cb2a, othTo, ptB]
    cases hs : sidesB G k x y
    · simp only [Bool.false_eq_true, if_false, Bool.false_and, Bool.not_false, Bool.and_true, Bool.and_assoc]
    · simp only [if_true, cb2b, Int.toNat_natCast, Bool.true_and]
      generalize cb2a G k H x d (y + 1) = A
      generalize cb2b H x (othTo G k x d (y + 1)) = B
      generalize (!(H.getD x false && decide (pc (bo G y) 9 ≤ k) && (diff y x == 0) && !H.getD y false)) = P
      generalize (!(H.getD x false == H.getD y false)) = Q
      cases A <;> cases B <;> cases P <;> cases Q <;> rfl
theorem rdOfB (H : List Bool) (x : Nat) : rdOf false H (x : Int) = H.getD x false := by unfold rdOf; rw [Int.toNat_natCast]
theorem bor_ev (G : List Nat) (hG : Gr 7 G) (S : Nat) (hS : S < 2 ^ G.length) : Ev (fun n => lampblackref03_Border.f n (gi G) (S : Int)) ((bo G S : Nat) : Int) := by
  rw [bo_eq hG hS]
  exact refBorder_ev G hG S hS
theorem blk_l2 (G : List Nat) (hG : Gr 7 G) (k : Nat) (hk : k ≤ 7) (H : List Bool) (N : Nat) (hN : 2 ^ G.length = N) (hH : H.length = N) (x : Nat) (hx : x < N) (R : Bool)
    (hR : Ev (fun n => lampblackref03_IsBlockage.l1 n (gi G) (k : Int) ((N - 1 : Nat) : Int) H (N : Int) ((x + 1 : Nat) : Int)) R) : ∀ d y, y + d = N →
    Ev (fun n => lampblackref03_IsBlockage.l2 n (gi G) (k : Int) ((N - 1 : Nat) : Int) H (x : Int) (N : Int) (x : Int) (N : Int) (y : Int)) (allFrom (ptB G k H x) N d y && R) := by
  have hn := hG.most
  have h7 : N ≤ 128 := by rw [← hN]; exact p7 hn
  have hx2 : x < 2 ^ G.length := by rw [hN]; exact hx
  have HX2 := Aside0.mk hx2
  have HNE := Aside0.mk hN
  have HBX := Aside0.mk (Nat.lt_of_lt_of_le (bo_lt hG hx2) (p7 hn))
  clear hx2 hN
  intro d
  induction d with
  | zero =>
    intro y hy
    refine Ev.step (fun n => by rw [lampblackref03_IsBlockage.l2, if_neg (by omega), wrap_succ x (by omega)]) ?_
    simpa [allFrom] using hR
  | succ d ih =>
    intro y hy
    have hyN : y < N := by omega
    have hy2 : y < 2 ^ G.length := by rw [HNE.out]; exact hyN
    have HBY := Aside0.mk (Nat.lt_of_lt_of_le (bo_lt hG hy2) (p7 hn))
    have HBE := Aside0.mk (bor_ev G hG y hy2)
    have HBEX := Aside0.mk (bor_ev G hG x HX2.out)
    clear hy2
    have IH := ih (y + 1) (by omega)
    have next : Ev (fun n => lampblackref03_IsBlockage.l2 n (gi G) (k : Int) ((N - 1 : Nat) : Int) H (x : Int) (N : Int) (x : Int) (N : Int) (wrap64 ((y : Int) + 1))) (allFrom (ptB G k H x) N d (y + 1) && R) := by
      rw [wrap_succ y (by omega)]; exact IH
    have hor := b_or x y (by omega) (by omega)
    have han := b_and x y (by omega) (by omega)
    have hdi := b_andNot (bo G x) y (by have := HBX.out; omega) (by omega)
    have hdi2 := b_andNot y x (by omega) (by omega)
    have hanl : x &&& y < 512 := Nat.lt_of_le_of_lt Nat.and_le_left (by omega)
    have hsz := size_ev (x &&& y) hanl
    have rx := rdOfB H x
    have ry := rdOfB H y
    -- the second test
    have two : Ev (fun n => lampblackref03_IsBlockage.j3 n (gi G) (k : Int) ((N - 1 : Nat) : Int) H (x : Int) (y : Int) (N : Int) (x : Int) (N : Int) (y : Int) false) (!(sidesB G k x y && (H.getD x false == H.getD y false)) && (allFrom (ptB G k H x) N d (y + 1) && R)) := by
      refine Ev.step (fun n => by rw [lampblackref03_IsBlockage.j3, if_neg (by simp)]) ?_
      have hsd : sidesB G k x y = ((x ||| y == N - 1) && (diff (bo G x) y == 0) && decide (pc (x &&& y) 9 ≤ k)) := by unfold sidesB; rw [HNE.out]
      rw [hsd]
      by_cases c1 : x ||| y = N - 1
      · refine Ev.if_pos (by rw [hor, c1]) (Ev.bind HBEX.out ?_)
        by_cases c2 : diff (bo G x) y = 0
        · refine Ev.if_pos (by rw [hdi, c2]; rfl) ?_
          rw [han]
          refine Ev.bind hsz ?_
          by_cases c3 : pc (x &&& y) 9 ≤ k
          · refine Ev.if_pos (by omega) (Ev.if_pos (by omega) (Ev.if_pos (by rw [hH]; omega) (Ev.if_pos (by omega) (Ev.if_pos (by rw [hH]; omega) ?_))))
            rw [rx, ry, c1, c2, decide_eq_true c3]
            cases hq : (H.getD x false == H.getD y false)
            · refine Ev.if_neg (by simp) ?_
              simpa using next
            · exact Ev.if_pos rfl (Ev.some (by simp))
          · refine Ev.if_neg (by omega) ?_
            rw [decide_eq_false c3]
            simpa using next
        · refine Ev.if_neg (by rw [hdi]; omega) ?_
          have : (diff (bo G x) y == 0) = false := by simpa using c2
          rw [this]
          simpa using next
      · refine Ev.if_neg (by rw [hor]; omega) ?_
        have : (x ||| y == N - 1) = false := by simpa using c1
        rw [this]
        simpa using next
    have stop : Ev (fun n => lampblackref03_IsBlockage.j3 n (gi G) (k : Int) ((N - 1 : Nat) : Int) H (x : Int) (y : Int) (N : Int) (x : Int) (N : Int) (y : Int) true) false :=
      Ev.step (f := fun _ => some false) (fun n => by rw [lampblackref03_IsBlockage.j3, if_pos rfl]) (Ev.some rfl)
    refine Ev.step (fun n => by rw [lampblackref03_IsBlockage.l2, if_pos (by omega), if_pos (by omega), if_pos (by rw [hH]; omega)]) ?_
    simp only [allFrom, ptB]
    rw [rx]
    cases hq1 : H.getD x false
    · refine Ev.if_neg (by simp) ?_
      rw [hq1] at two
      simpa [Bool.and_assoc] using two
    · refine Ev.if_pos rfl ?_
      rw [hq1] at two
      rw [hdi2]
      by_cases c2 : diff y x = 0
      · refine Ev.if_pos (by rw [c2]; rfl) (Ev.bind HBE.out (Ev.bind (size_ev (bo G y) (by have := HBY.out; omega)) ?_))
        by_cases c3 : pc (bo G y) 9 ≤ k
        · refine Ev.if_pos (by omega) (Ev.if_pos (by omega) (Ev.if_pos (by rw [hH]; omega) ?_))
          rw [ry, c2, decide_eq_true c3]
          cases hq4 : H.getD y false
          · simpa using stop
          · rw [hq4] at two
            simpa [Bool.and_assoc] using two
        · refine Ev.if_neg (by omega) ?_
          rw [decide_eq_false c3]
          simpa [Bool.and_assoc] using two
      · refine Ev.if_neg (by omega) ?_
        have : (diff y x == 0) = false := by simpa using c2
        rw [this]
        simpa [Bool.and_assoc] using two
theorem blk_l1 (G : List Nat) (hG : Gr 7 G) (k : Nat) (hk : k ≤ 7) (H : List Bool) (N : Nat) (hN : 2 ^ G.length = N) (hH : H.length = N) : ∀ d x, x + d = N →
    Ev (fun n => lampblackref03_IsBlockage.l1 n (gi G) (k : Int) ((N - 1 : Nat) : Int) H (N : Int) (x : Int)) (cb2 G k H d x) := by
  have h7 : N ≤ 128 := by rw [← hN]; exact p7 hG.most
  have h1 : 1 ≤ N := by rw [← hN]; exact Nat.two_pow_pos _
  have HNE := Aside0.mk hN
  intro d
  induction d with
  | zero =>
    intro x hx
    exact Ev.step (f := fun _ => some true) (fun n => by rw [lampblackref03_IsBlockage.l1, if_neg (by omega)]) (Ev.some rfl)
  | succ d ih =>
    intro x hx
    have := blk_l2 G hG k hk H N hN hH x (by omega) _ (ih (x + 1) (by omega)) N 0 (by omega)
    clear hN
    refine Ev.step (fun n => by rw [lampblackref03_IsBlockage.l1, if_pos (by omega), show wrap64 (((N - 1 : Nat) : Int) + 1) = (N : Int) by rw [wrap_succ _ (by omega)]; omega]) ?_
    simp only [cb2]
    rw [HNE.out, cb2_pt G k H x N]
    exact this
theorem blk_l0 (G : List Nat) (hG : Gr 7 G) (k : Nat) (hk : k ≤ 7) (l : List Int) (hl : l.length < 2 ^ 44) (N : Nat) (hN : 2 ^ G.length = N) : ∀ (d i : Nat) (H : List Bool), i + d = l.length → H.length = N →
    Ev (fun n => lampblackref03_IsBlockage.l0 n (gi G) (k : Int) l ((N - 1 : Nat) : Int) H l (l.length : Int) (i : Int)) (cbE G k (cb1 G k l d i H)).1 := by
  have hn := hG.most
  have h7 : N ≤ 128 := by rw [← hN]; exact p7 hn
  have h1 : 1 ≤ N := by rw [← hN]; exact Nat.two_pow_pos _
  have HNE := Aside0.mk hN
  clear hN
  have no : ∀ {β : Type}, Ev (fun _ : Nat => some false) (cbE G k none).1 := fun {_} => Ev.some rfl
  intro d
  induction d with
  | zero =>
    intro i H hi hH
    refine Ev.step (fun n => by rw [lampblackref03_IsBlockage.l0, if_neg (by omega), show wrap64 (((N - 1 : Nat) : Int) + 1) = (N : Int) by rw [wrap_succ _ (by omega)]; omega]) ?_
    have := blk_l1 G hG k hk H N HNE.out hH N 0 (by omega)
    simpa [cb1, cbE, HNE.out] using this
  | succ d ih =>
    intro i H hi hH
    refine Ev.step (fun n => by rw [lampblackref03_IsBlockage.l0, if_pos (by omega), if_pos (by omega), if_pos (by omega)]) ?_
    simp only [cb1]
    rw [HNE.out]
    by_cases c0 : rd l (i : Int) < 0
    · rw [if_pos c0]
      exact Ev.if_pos c0 (no (β := Nat))
    · rw [if_neg c0]
      refine Ev.if_neg c0 ?_
      by_cases c1 : ((N - 1 : Nat) : Int) < rd l (i : Int)
      · rw [if_pos c1]
        exact Ev.if_pos c1 (no (β := Nat))
      · rw [if_neg c1]
        refine Ev.if_neg c1 ?_
        obtain ⟨x, hx⟩ := Int.eq_ofNat_of_zero_le (show 0 ≤ rd l (i : Int) by omega)
        rw [hx] at c1 ⊢
        have hxN : x < N := by omega
        have hx2 : x < 2 ^ G.length := by rw [HNE.out]; exact hxN
        have hbo := Nat.lt_of_lt_of_le (bo_lt hG hx2) (p7 hn)
        have HBE := Aside0.mk (bor_ev G hG x hx2)
        clear hx2
        rw [Int.toNat_natCast]
        have hset : (H.set x true).length = N := by rw [List.length_set]; exact hH
        -- what comes behind the order
        have rest : (¬ (0 < i ∧ (x : Int) ≤ rd l ((i - 1 : Nat) : Int))) → Ev (fun n => (lampblackref03_Border.f n (gi G) (x : Int)).bind fun t326 => (lampblackref02_Size.f n t326).bind fun t327 => if t327 > (k : Int) then some false else if 0 ≤ (x : Int) then if (x : Int) < (H.length : Int) then lampblackref03_IsBlockage.l0 n (gi G) (k : Int) l ((N - 1 : Nat) : Int) (H.set x true) l (l.length : Int) (wrap64 ((i : Int) + 1)) else none else none)
            (cbE G k (if pc (bo G x) 9 ≤ k then (if 0 < i ∧ (x : Int) ≤ rd l ((i - 1 : Nat) : Int) then none else cb1 G k l d (i + 1) (H.set x true)) else none)).1 := fun hno => by
          refine Ev.bind HBE.out (Ev.bind (size_ev (bo G x) (by omega)) ?_)
          by_cases c3 : pc (bo G x) 9 ≤ k
          · rw [if_pos c3, if_neg hno]
            refine Ev.if_neg (by omega) (Ev.if_pos (by omega) (Ev.if_pos (by rw [hH]; omega) ?_))
            rw [wrap_succ i (by omega)]
            exact ih (i + 1) _ (by omega) hset
          · rw [if_neg c3]
            exact Ev.if_pos (by omega) (no (β := Nat))
        by_cases ci : 0 < i
        · refine Ev.if_pos (by omega) ?_
          have hw : wrap64 ((i : Int) - 1) = ((i - 1 : Nat) : Int) := wrap_pred i (by omega) ci
          rw [hw]
          refine Ev.if_pos (by omega) (Ev.if_pos (by omega) ?_)
          by_cases c2 : (x : Int) ≤ rd l ((i - 1 : Nat) : Int)
          · refine Ev.if_pos c2 ?_
            split
            · rw [if_pos ⟨ci, c2⟩]; exact no (β := Nat)
            · exact no (β := Nat)
          · exact Ev.if_neg c2 (rest fun h => c2 h.2)
        · exact Ev.if_neg (by omega) (rest fun h => ci h.1)
theorem isBlk_ev (G : List Nat) (hG : Gr 7 G) (k : Nat) (hk : k ≤ 7) (l : List Int) (hl : l.length < 2 ^ 44) : Ev (fun n => lampblackref03_IsBlockage.f n (gi G) (k : Int) l) (cbR G k l).1 := by
  have hn := hG.most
  obtain ⟨N, hN⟩ : ∃ N, 2 ^ G.length = N := ⟨_, rfl⟩
  have h7 : N ≤ 128 := by rw [← hN]; exact p7 hn
  have h1 : 1 ≤ N := by rw [← hN]; exact Nat.two_pow_pos _
  have hs : shl .i64 1 ((gi G).length : Int) = (N : Int) := by rw [gi_length, s_one _ (by omega), hN]
  have hw1 : wrap64 ((N : Int) - 1) = ((N - 1 : Nat) : Int) := wrap_pred N (by omega) (by omega)
  have hw2 : wrap64 (((N - 1 : Nat) : Int) + 1) = (N : Int) := by rw [wrap_succ _ (by omega)]; omega
  unfold lampblackref03_IsBlockage.f
  rw [hs, hw1, hw2]
  have := blk_l0 G hG k hk l hl N hN l.length 0 (List.replicate N false) (by omega) (by simp)
  unfold cbR
  rw [hN]
  clear hN
  refine Ev.if_pos (by omega) (Ev.if_pos (by rw [Int.toNat_natCast]; omega) ?_)
  rw [Int.toNat_natCast]
  exact this
end Go.Proofs.YtijfddobandcdaaDoor.X
end
section
/- SweepChecks, without Go and memory: CheckBlockage accepts exactly the blockages of an order, or returns the documented error. -/
set_option linter.unusedVariables false
namespace Go.Proofs.YtijfddobandcdaaDoor.Pure
open Go.RowKit Go.Proofs.YtijfddobandcdaaDoorW.PrintWords Go.Proofs.YtijfddobandcdaaDoorW.PrintLast Go.Proofs.YtijfddobandcdaaDoorW.PrintMore Go.Proofs.YtijfddobandcdaaDoor.T Go.Proofs.YtijfddobandcdaaDoor.X
theorem cb1_len (G : List Nat) (k : Nat) (l : List Int) (N : Nat) (hN : 2 ^ G.length = N) (h1 : 1 ≤ N) : ∀ (d i : Nat) (H H' : List Bool), cb1 G k l d i H = some H' → i + d = l.length → 0 < d → (d : Int) + rd l (i : Int) ≤ (N : Int)
  | 0, _, _, _, _, _, h => by omega
  | d + 1, i, H, H', h, hi, _ => by
    simp only [cb1] at h
    rw [hN] at h
    split at h
    · cases h
    · rename_i c0
      split at h
      · cases h
      · rename_i c1
        split at h
        · split at h
          · cases h
          · cases d with
            | zero => simp; omega
            | succ d =>
              have ih := cb1_len G k l N hN h1 (d + 1) (i + 1) _ _ h (by omega) (by omega)
              simp only [cb1] at h
              split at h
              · cases h
              · split at h
                · cases h
                · split at h
                  · split at h
                    · cases h
                    · rename_i c2
                      have : rd l (i : Int) < rd l ((i + 1 : Nat) : Int) := by
                        apply Int.not_le.1
                        intro hle
                        exact c2 ⟨by omega, by rw [show i + 1 - 1 = i by omega]; exact hle⟩
                      omega
                  · cases h
        · cases h
theorem cb_long (G : List Nat) (hn : G.length ≤ 7) (k : Nat) (l : List Int) (h : 128 < l.length) : cbR G k l = (false, 0) := by
  obtain ⟨N, hN⟩ : ∃ N, 2 ^ G.length = N := ⟨_, rfl⟩
  have h7 : N ≤ 128 := by rw [← hN]; exact p7 hn
  have h1 : 1 ≤ N := by rw [← hN]; exact Nat.two_pow_pos _
  unfold cbR
  cases hc : cb1 G k l l.length 0 (List.replicate (2 ^ G.length) false) with
  | none => rfl
  | some H =>
    have := cb1_len G k l N hN h1 l.length 0 _ _ hc (by omega) (by omega)
    obtain ⟨m, hm⟩ : ∃ m, l.length = m + 1 := ⟨l.length - 1, by omega⟩
    rw [hm] at hc
    simp only [cb1] at hc
    split at hc
    · cases hc
    · omega
theorem cbR_snd (G : List Nat) (k : Nat) (l : List Int) : (cbR G k l).2 = 0 := by
  unfold cbR
  cases cb1 G k l l.length 0 (List.replicate (2 ^ G.length) false) <;> rfl
theorem SweepChecks : ∀ (l0 : List Int) (a1 : Int) (l2 : List Int), l0.length ≤ maxLen → l0.length * 8 ≤ 140737488351232 → (∀ x ∈ l0, (Lit.int .i64 x).wf = true) → (Lit.int .i64 a1).wf = true → l2.length ≤ maxLen → l2.length * 8 ≤ 140737488351232 → (∀ x ∈ l2, (Lit.int .i64 x).wf = true) → ∃ k, lampblacklaw03_SweepChecks.f k l0 a1 l2 = some true := by
  intro g a l _ hg _ _ _ hl _
  apply Ev.rounds
  obtain ⟨h, e, e1, e2, e3⟩ := few_eq g (by omega)
  obtain ⟨m, f, f1, f2, f3⟩ := list_eq l (by omega)
  have hv := valid_ev g (by omega)
  unfold lampblacklaw03_SweepChecks.f
  refine Ev.bind1 e (Ev.bind1 f ?_)
  have bad : ∀ g l, Ev (fun k => lampblacklaw03_SweepChecks.j0 k g a l false 2 true) true := fun g l =>
    Ev.step (f := fun k => (lampblacklaw03_awake.f k).bind fun t346 => some t346) (fun k => by rw [lampblacklaw03_SweepChecks.j0, if_pos rfl, if_neg (by simp), if_pos rfl]) (Ev.bind awake_ev (Ev.some rfl))
  by_cases hc : chk 7 g = true
  · obtain ⟨G, rfl, hG⟩ := (chk_iff 7 (by omega) _).1 hc
    have hn := hG.most
    rw [hc] at hv
    rw [e1 hc]
    by_cases ha0 : a < 0
    · have hcb : sweep_CheckBlockage.f (gi G) a m = some (false, 2) := by
        unfold sweep_CheckBlockage.f
        rw [if_pos ⟨by rw [gi_length]; omega, by omega⟩, if_pos hc, if_pos ha0]
      exact Ev.bind1 hcb (Ev.bind hv (Ev.if_pos rfl (Ev.if_pos ha0 (bad _ _))))
    · by_cases ha7 : 7 < a
      · have hcb : sweep_CheckBlockage.f (gi G) a m = some (false, 2) := by
          unfold sweep_CheckBlockage.f
          rw [if_pos ⟨by rw [gi_length]; omega, by omega⟩, if_pos hc, if_neg ha0, if_pos ha7]
        refine Ev.bind1 hcb (Ev.bind hv (Ev.if_pos rfl (Ev.if_neg ha0 ?_)))
        rw [decide_eq_true (show a > 7 from ha7)]
        exact bad _ _
      · obtain ⟨k, rfl⟩ := Int.eq_ofNat_of_zero_le (show 0 ≤ a by omega)
        have hcb : sweep_CheckBlockage.f (gi G) (k : Int) m = some (cbR G k m) := by
          unfold sweep_CheckBlockage.f
          rw [if_pos ⟨by rw [gi_length]; omega, by omega⟩, if_pos hc, if_neg ha0, if_neg ha7, gi_toNat, Int.toNat_natCast]
        have hml : cbR G k m = cbR G k l := by
          by_cases hl140 : l.length ≤ 140
          · rw [f1 hl140]
          · rw [cb_long G hn k m (by rw [f2 (by omega)]; omega), cb_long G hn k l (by omega)]
        rw [hml] at hcb
        have hb := isBlk_ev G hG k (by omega) l (by omega)
        have h2 := cbR_snd G k l
        refine Ev.bind1 hcb (Ev.bind hv (Ev.if_pos rfl (Ev.if_neg ha0 ?_)))
        rw [decide_eq_false (show ¬ (k : Int) > 7 from ha7), h2]
        refine Ev.step (fun n => by rw [lampblacklaw03_SweepChecks.j0, if_neg (by simp)]) ?_
        exact Ev.bind hb (Ev.if_pos (by simp) (Ev.if_pos rfl (Ev.bind awake_ev (Ev.some rfl))))
  · have hc' : chk 7 g = false := by simpa using hc
    rw [hc'] at hv
    have hcb : sweep_CheckBlockage.f h a m = some (false, 2) := by
      unfold sweep_CheckBlockage.f
      rw [if_pos ⟨by omega, by omega⟩, if_neg (by rw [e2 hc']; simp)]
    exact Ev.bind1 hcb (Ev.bind hv (Ev.if_neg (by simp) (bad _ _)))
end Go.Proofs.YtijfddobandcdaaDoor.Pure
end
