/- Part 2 of what WidthNarrows rests on: contracts of the functions that it reaches, and what they compute, in plain words. -/
import Derived.Test.YtoffehihicabcaaDoorZWidthNarrows1
import Derived.Test.YtoffehihicabcaaDoorZWidthNarrows0
set_option linter.unusedVariables false
set_option linter.unusedSimpArgs false
section
namespace Go.Proofs.YtoffehihicabcaaDoor.X
open Go.RowKit YtoffehihicabcaaDoorW.PrintWords YtoffehihicabcaaDoorW.PrintLast YtoffehihicabcaaDoorW.PrintMore YtoffehihicabcaaDoor.T
attribute [local go_sem] max2_int min2_int max_two min_two max_three min_three max_four min_four
def upTo (f : Int → Int) (k : Nat) (P : List Int) : List Int := (P.take k).map f ++ P.drop k
theorem upTo_len (f : Int → Int) (k : Nat) (P : List Int) : (upTo f k P).length = P.length := by simp [upTo]; omega
theorem upTo_zero (f : Int → Int) (P : List Int) : upTo f 0 P = P := by simp [upTo]
theorem upTo_all (f : Int → Int) (P : List Int) : upTo f P.length P = P.map f := by simp [upTo]
theorem upTo_rd (f : Int → Int) (P : List Int) {k : Nat} (h : k < P.length) : rd (upTo f k P) (k : Int) = rd P (k : Int) := by
 unfold rd upTo
 rw [Int.toNat_natCast, List.getD_eq_getElem?_getD, List.getD_eq_getElem?_getD, List.getElem?_append_right (by simp; omega)]
 simp
 rw [show k - min k P.length = 0 by omega, Nat.add_zero]
theorem upTo_set (f : Int → Int) (P : List Int) {k : Nat} (h : k < P.length) : (upTo f k P).set k (f (rd P (k : Int))) = upTo f (k + 1) P := by
 have e : rd P (k : Int) = P[k] := by
  unfold rd
  rw [Int.toNat_natCast, List.getD_eq_getElem?_getD, List.getElem?_eq_getElem h]; rfl
 unfold upTo
 rw [e, List.set_append_right _ _ (by simp; omega), List.drop_eq_getElem_cons h, show k - ((P.take k).map f).length = 0 by simp; omega, List.set_cons_zero, List.take_add_one, List.getElem?_eq_getElem h]
 simp only [List.map_append, Option.toList_some, List.map_cons, List.map_nil, List.append_assoc, List.singleton_append]
theorem upTo_same (f : Int → Int) (P : List Int) {k : Nat} (h : k < P.length) (e : f (rd P (k : Int)) = rd P (k : Int)) : upTo f (k + 1) P = upTo f k P := by
 rw [← upTo_set f P h, e]
 apply List.ext_getElem?
 intro j
 rw [List.getElem?_set]
 split
 ·next h2 =>
  subst h2
  have h3 := upTo_rd f P h
  unfold rd at h3
  rw [Int.toNat_natCast, List.getD_eq_getElem?_getD] at h3
  rw [upTo_len]
  rw [if_pos h, List.getElem?_eq_getElem (by rw [upTo_len]; exact h)] at *
  rw [Option.getD_some] at h3
  unfold rd
  rw [Int.toNat_natCast, ← h3]
 ·rfl
structure MS (w0 W : World) (xB gB cB gP cP : Nat) (B P : List Int) : Prop where
 blk : W.heap[xB]? = some (.cells #[.slice (some ⟨gB, 0, none⟩) B.length cB, .slice (some ⟨gP, 0, none⟩) P.length cP] 53 (0, 0))
 rB : Kd.R (Kd.int .i64) 3 W w0.heap.size (fun k => k = gB) (.slice (some ⟨gB, 0, none⟩) B.length cB) B
 rP : Kd.R (Kd.int .i64) 3 W w0.heap.size (fun k => k = gP) (.slice (some ⟨gP, 0, none⟩) P.length cP) P
 below : Below w0.heap.size w0 W
 ge : w0.heap.size ≤ xB
 nB : xB ≠ gB
 nP : xB ≠ gP
 nBP : gB ≠ gP
section
variable {w0 W V : World} {xB gB cB gP cP : Nat} {B P : List Int}
theorem MS.low (h : MS w0 W xB gB cB gP cP B P) (hb : Below W.heap.size W V) : MS w0 V xB gB cB gP cP B P :=
 ⟨blk_below h.blk hb, Kd.R_below h.rB hb, Kd.R_below h.rP hb, below_step h.below hb, h.ge, h.nB, h.nP, h.nBP⟩
theorem MS.drew (h : MS w0 W xB gB cB gP cP B P) : MS w0 W.drew xB gB cB gP cP B P := h.low (below_drew (Below.refl _ _))
theorem MS.xb (h : MS w0 W xB gB cB gP cP B P) : W.cell? ⟨xB, 0, none⟩ = some (.slice (some ⟨gB, 0, none⟩) B.length cB) := (blk_cell h.blk 0).trans rfl
theorem MS.xp (h : MS w0 W xB gB cB gP cP B P) : W.cell? ⟨xB, 1, none⟩ = some (.slice (some ⟨gP, 0, none⟩) P.length cP) := (blk_cell h.blk 1).trans rfl
theorem MS.cb (h : MS w0 W xB gB cB gP cP B P) (i : Nat) (hi : i < B.length) : W.cell? ⟨gB, i, none⟩ = some (.int .i64 (rd B (i : Int))) ∧ W.frozen? ⟨gB, i, none⟩ = false := by
 have := Kd.R_cell (0 : Int) h.rB (i : Int) (by omega) (by omega)
 rw [Int.toNat_natCast] at this
 exact this
theorem MS.cp (h : MS w0 W xB gB cB gP cP B P) (i : Nat) (hi : i < P.length) : W.cell? ⟨gP, i, none⟩ = some (.int .i64 (rd P (i : Int))) ∧ W.frozen? ⟨gP, i, none⟩ = false := by
 have := Kd.R_cell (0 : Int) h.rP (i : Int) (by omega) (by omega)
 rw [Int.toNat_natCast] at this
 exact this
theorem MS.gBge (h : MS w0 W xB gB cB gP cP B P) : w0.heap.size ≤ gB := own_base2 (Kd.own_of_R h.rB) gB (by simp [Value.ownBlock])
theorem MS.gPge (h : MS w0 W xB gB cB gP cP B P) : w0.heap.size ≤ gP := own_base2 (Kd.own_of_R h.rP) gP (by simp [Value.ownBlock])
theorem MS.setB (h : MS w0 W xB gB cB gP cP B P) (p : Nat) (z : Int) : MS w0 (W.setCell ⟨gB, p, none⟩ (.int .i64 z)) xB gB cB gP cP (B.set p z) P := by
 have h2 := (Kd.R_put h.rB (p : Int) z).1
 rw [Int.toNat_natCast] at h2
 exact ⟨by rw [List.length_set]; exact blk_far (p := ⟨gB, p, none⟩) h.blk h.nB _, by rw [List.length_set]; exact h2, Kd.R_far (p := ⟨gB, p, none⟩) h.rP (fun k e => by rw [e]; exact fun e2 => h.nBP e2.symm) _, below_set h.below h.gBge, h.ge, h.nB, h.nP, h.nBP⟩
theorem MS.setP (h : MS w0 W xB gB cB gP cP B P) (p : Nat) (z : Int) : MS w0 (W.setCell ⟨gP, p, none⟩ (.int .i64 z)) xB gB cB gP cP B (P.set p z) := by
 have h2 := (Kd.R_put h.rP (p : Int) z).1
 rw [Int.toNat_natCast] at h2
 exact ⟨by rw [List.length_set]; exact blk_far (p := ⟨gP, p, none⟩) h.blk h.nP _, Kd.R_far (p := ⟨gP, p, none⟩) h.rB (fun k e => by rw [e]; exact h.nBP) _, by rw [List.length_set]; exact h2, below_set h.below h.gPge, h.ge, h.nB, h.nP, h.nBP⟩
theorem MS.delB (h : MS w0 W xB gB cB gP cP B P) (i : Nat) (hi : i < B.length) (j : Int) (hj : j = ((i + 1 : Nat) : Int)) (L : List Int) (hL : B.eraseIdx i = L) :
  Calls Tryd.prog 103 #[.slice (some ⟨gB, 0, none⟩) B.length cB, .int .i64 (i : Int), .int .i64 j] W fun e w' => e = .returned (.slice (some ⟨gB, 0, none⟩) L.length cB) ∧ (w'.cell? ⟨xB, 0, none⟩ = some (.slice (some ⟨gB, 0, none⟩) B.length cB) ∧ w'.frozen? ⟨xB, 0, none⟩ = false) ∧ MS w0 (w'.setCell ⟨xB, 0, none⟩ (.slice (some ⟨gB, 0, none⟩) L.length cB)) xB gB cB gP cP L P := by
 subst hj hL
 refine (del_calls W _ gB cB i B h.rB hi).mono ?_
 rintro e w' ⟨rfl, h1, h2⟩
 have hx := (h2.block xB (blk_lt h.blk) (fun e => h.nB (Option.some.inj e))).trans h.blk
 have hp := Kd.R_grown h.rP h2 (fun k e e2 => h.nBP (by rw [e] at e2; exact (Option.some.inj e2).symm))
 have hbl := h.below.grown h2 h.below.size (fun k e => by rw [← Option.some.inj e]; exact h.gBge)
 exact ⟨rfl, ⟨(blk_cell hx 0).trans rfl, blk_frozen hx 0⟩, blk_put hx 0 _ rfl, Kd.R_far (p := ⟨xB, 0, none⟩) h1 (fun k e => by rw [e]; exact fun e2 => h.nB e2.symm) _, Kd.R_far (p := ⟨xB, 0, none⟩) hp (fun k e => by rw [e]; exact fun e2 => h.nP e2.symm) _, below_set hbl h.ge, h.ge, h.nB, h.nP, h.nBP⟩
theorem MS.delP (h : MS w0 W xB gB cB gP cP B P) (i : Nat) (hi : i < P.length) (j : Int) (hj : j = ((i + 1 : Nat) : Int)) (L : List Int) (hL : P.eraseIdx i = L) :
  Calls Tryd.prog 103 #[.slice (some ⟨gP, 0, none⟩) P.length cP, .int .i64 (i : Int), .int .i64 j] W fun e w' => e = .returned (.slice (some ⟨gP, 0, none⟩) L.length cP) ∧ (w'.cell? ⟨xB, 1, none⟩ = some (.slice (some ⟨gP, 0, none⟩) P.length cP) ∧ w'.frozen? ⟨xB, 1, none⟩ = false) ∧ MS w0 (w'.setCell ⟨xB, 1, none⟩ (.slice (some ⟨gP, 0, none⟩) L.length cP)) xB gB cB gP cP B L := by
 subst hj hL
 refine (del_calls W _ gP cP i P h.rP hi).mono ?_
 rintro e w' ⟨rfl, h1, h2⟩
 have hx := (h2.block xB (blk_lt h.blk) (fun e => h.nP (Option.some.inj e))).trans h.blk
 have hp := Kd.R_grown h.rB h2 (fun k e e2 => h.nBP (by rw [e] at e2; exact Option.some.inj e2))
 have hbl := h.below.grown h2 h.below.size (fun k e => by rw [← Option.some.inj e]; exact h.gPge)
 exact ⟨rfl, ⟨(blk_cell hx 1).trans rfl, blk_frozen hx 1⟩, blk_put hx 1 _ rfl, Kd.R_far (p := ⟨xB, 1, none⟩) hp (fun k e => by rw [e]; exact fun e2 => h.nB e2.symm) _, Kd.R_far (p := ⟨xB, 1, none⟩) h1 (fun k e => by rw [e]; exact fun e2 => h.nP e2.symm) _, below_set hbl h.ge, h.ge, h.nB, h.nP, h.nBP⟩
end
def pa (i p : Nat) (q : Int) : Int := if q = (i : Int) then (p : Int) else q
def pd (i : Nat) (q : Int) : Int := if q > (i : Int) then q - 1 else q
theorem merge_is (B P : List Int) (i p b : Nat) (hb : (rd B (p : Int)).toNat ||| (rd B (i : Int)).toNat = b) : mergeB B i p = (B.set p (b : Int)).eraseIdx i ∧ mergeP P i p = ((P.map (pa i p)).eraseIdx i).map (pd i) := by
 unfold mergeB mergeP
 rw [hb]
 exact ⟨rfl, rfl⟩
theorem pick_at {B P : List Int} {i : Nat} (hi : i < P.length) (hlo : ∀ j, j < i → okM B P j = false) (h : okM B P i = true) : pickM B P = some i := by
 unfold pickM
 rw [List.find?_range_eq_some]
 exact ⟨h, List.mem_range.2 hi, fun j hj => by rw [hlo j hj]; rfl⟩
theorem pick_no {B P : List Int} (hlo : ∀ j, j < P.length → okM B P j = false) : pickM B P = none := by
 unfold pickM
 rw [List.find?_eq_none]
 intro j hj
 rw [hlo j (List.mem_range.1 hj)]
 simp
set_option maxHeartbeats 8000000 in
set_option maxRecDepth 100000 in
theorem merge_calls {G : List Nat} (hG : Gr 9 G) (w0 W : World) (xB gB cB gP cP : Nat) (B P : List Int) (hT : TD G B P) (hS : MS w0 W xB gB cB gP cP B P) (R : Option Nat) (hR : pickM B P = R) :
  Calls Tryd.prog 79 #[.pointer (some ⟨xB, 0, none⟩)] W fun e w' => (R = none ∧ e = .returned (.bool false) ∧ MS w0 w' xB gB cB gP cP B P) ∨ ∃ i p : Nat, R = some i ∧ rd P (i : Int) = (p : Int) ∧ e = .returned (.bool true) ∧ MS w0 w' xB gB cB gP cP (mergeB B i p) (mergeP P i p) := by
 have HLEN := Aside0.mk hT.len
 have hm2 : P.length ≤ 30 := by have := hT.len; have := hT.most; omega
 have hm := hT.most
 have HS := Aside0.mk hS
 have HT := Aside0.mk hT
 have HR := Aside0.mk hR
 have x1 := hS.xp
 have p9 : 2 ^ G.length ≤ 512 := Nat.pow_le_pow_right (n := 2) (by omega) (show G.length ≤ 9 from hG.most)
 clear hS hT hR
 go_enter Tryd.func79, Tryd.ntmps79
 go_wp2
 go_loopg [14] P.length (fun kq v14 w' => ∃ i : Nat, v14 = .int .i64 (i : Int) ∧ i + kq = P.length ∧ Aside0 (∀ j, j < i → okM B P j = false) ∧ Aside0 (MS w0 w' xB gB cB gP cP B P))
 case atStart => exact ⟨0, rfl, by omega, ⟨fun j hj => by omega⟩, HS⟩
 case round =>
  clear HS x1
  obtain ⟨i, rfl, hi, HL, HS⟩ := hrel
  by_cases hil : i < P.length
  ·have hi1 : ((i : Int) < (P.length : Int)) = True := eq_true (by omega)
   have hi2 : decide ((i : Int) < (P.length : Int)) = true := decide_eq_true (by omega)
   cases gk with
   | zero => omega
   | succ gi =>
   have c1 := (HS.out.cp i hil).1
   obtain ⟨t1, t2, t3, t4⟩ := HT.out.inn i (by have := HLEN.out; omega)
   obtain ⟨q, hq⟩ : ∃ q, rd P (i : Int) = q := ⟨_, rfl⟩
   rw [hq] at c1 t1 t2
   by_cases hq0 : q < 0
   ·have hd1 : decide (q < 0) = true := decide_eq_true hq0
    have HK : Aside0 (okM B P i = false) := ⟨by
     unfold okM
     rw [hq, show decide (0 ≤ q) = false from decide_eq_false (by omega)]
     rfl⟩
    clear hq hq0 t1 t2 t3 t4
    go_wp2
    have f0 := HS.out.xb
    have f0d : wr.drew.cell? ⟨xB, 0, none⟩ = _ := f0
    clear f0 c1
    refine start_ (n := 38) (S := fun w' => w'.cell? ⟨xB, 0, none⟩ = some (.slice (some ⟨gB, 0, none⟩) B.length cB)) (ds := []) (Qbz 38 0) (by kernel_rfl) rfl rfl (f0d) (fun hHeld => ?_)
    refine pure_ (i := 0) (N := some 19) (v := ?_) (a' := ?_) (Qbz 38 1) rfl rfl (by kernel_rfl) (fun _ _ _ h => h) (Or.inl ⟨by rfl, ?_⟩) ?_ ?_
    rotate_left
    ·intro w'
     go_simp
     with_reducible rfl
    rotate_left
    ·simp only [Act.put, Qp1, Qp2, Qp3, i64_w, i32_w]
     rfl
    refine pure_ (i := 1) (N := some 20) (v := ?_) (a' := ?_) (Qbz 38 3) rfl rfl (by kernel_rfl) (fun _ _ _ h => h) (Or.inl ⟨by rfl, ?_⟩) ?_ ?_
    rotate_left
    ·intro w'
     go_simp
     with_reducible rfl
    rotate_left
    ·simp only [Act.put, Qp1, Qp2, Qp3, i64_w, i32_w]
     rfl
    refine pure_ (i := 2) (N := some 21) (v := ?_) (a' := ?_) (Qbz 38 7) rfl rfl (by kernel_rfl) (fun _ _ _ h => h) (Or.inl ⟨by rfl, ?_⟩) ?_ ?_
    rotate_left
    ·intro w'
     go_simp
     with_reducible rfl
    rotate_left
    ·simp only [Act.put, Qp1, Qp2, Qp3, i64_w, i32_w]
     rfl
    refine pure_ (i := 3) (N := some 22) (v := undef) (a' := ?_) (Qbz 38 15) rfl rfl (by kernel_rfl) (fun _ _ _ h => h) (Or.inr ⟨by rfl, rfl⟩) ?_ ?_
    rotate_left
    ·simp only [Act.put, Qp1, Qp2, Qp3, i64_w, i32_w]
     rfl
    refine pure_ (i := 4) (N := some 23) (v := undef) (a' := ?_) (Qbz 38 31) rfl rfl (by kernel_rfl) (fun _ _ _ h => h) (Or.inr ⟨by rfl, rfl⟩) ?_ ?_
    rotate_left
    ·simp only [Act.put, Qp1, Qp2, Qp3, i64_w, i32_w]
     rfl
    refine pure_ (i := 5) (N := some 24) (v := undef) (a' := ?_) (Qbz 38 63) rfl rfl (by kernel_rfl) (fun _ _ _ h => h) (Or.inr ⟨by rfl, rfl⟩) ?_ ?_
    rotate_left
    ·simp only [Act.put, Qp1, Qp2, Qp3, i64_w, i32_w]
     rfl
    refine pure_ (i := 6) (N := some 25) (v := undef) (a' := ?_) (Qbz 38 127) rfl rfl (by kernel_rfl) (fun _ _ _ h => h) (Or.inr ⟨by rfl, rfl⟩) ?_ ?_
    rotate_left
    ·simp only [Act.put, Qp1, Qp2, Qp3, i64_w, i32_w]
     rfl
    refine pure_ (i := 7) (N := some 26) (v := undef) (a' := ?_) (Qbz 38 255) rfl rfl (by kernel_rfl) (fun _ _ _ h => h) (Or.inr ⟨by rfl, rfl⟩) ?_ ?_
    rotate_left
    ·simp only [Act.put, Qp1, Qp2, Qp3, i64_w, i32_w]
     rfl
    refine pure_ (i := 8) (N := some 27) (v := undef) (a' := ?_) (Qbz 38 511) rfl rfl (by kernel_rfl) (fun _ _ _ h => h) (Or.inr ⟨by rfl, rfl⟩) ?_ ?_
    rotate_left
    ·simp only [Act.put, Qp1, Qp2, Qp3, i64_w, i32_w]
     rfl
    refine pure_ (i := 9) (N := some 28) (v := undef) (a' := ?_) (Qbz 38 1023) rfl rfl (by kernel_rfl) (fun _ _ _ h => h) (Or.inr ⟨by rfl, rfl⟩) ?_ ?_
    rotate_left
    ·simp only [Act.put, Qp1, Qp2, Qp3, i64_w, i32_w]
     rfl
    refine pure_ (i := 10) (N := some 29) (v := undef) (a' := ?_) (Qbz 38 2047) rfl rfl (by kernel_rfl) (fun _ _ _ h => h) (Or.inr ⟨by rfl, rfl⟩) ?_ ?_
    rotate_left
    ·simp only [Act.put, Qp1, Qp2, Qp3, i64_w, i32_w]
     rfl
    refine pure_ (i := 11) (N := some 30) (v := undef) (a' := ?_) (Qbz 38 4095) rfl rfl (by kernel_rfl) (fun _ _ _ h => h) (Or.inr ⟨by rfl, rfl⟩) ?_ ?_
    rotate_left
    ·simp only [Act.put, Qp1, Qp2, Qp3, i64_w, i32_w]
     rfl
    refine pure_ (i := 12) (N := some 31) (v := undef) (a' := ?_) (Qbz 38 8191) rfl rfl (by kernel_rfl) (fun _ _ _ h => h) (Or.inr ⟨by rfl, rfl⟩) ?_ ?_
    rotate_left
    ·simp only [Act.put, Qp1, Qp2, Qp3, i64_w, i32_w]
     rfl
    refine pure_ (i := 13) (N := some 32) (v := undef) (a' := ?_) (Qbz 38 16383) rfl rfl (by kernel_rfl) (fun _ _ _ h => h) (Or.inr ⟨by rfl, rfl⟩) ?_ ?_
    rotate_left
    ·simp only [Act.put, Qp1, Qp2, Qp3, i64_w, i32_w]
     rfl
    refine pure_ (i := 14) (N := some 33) (v := undef) (a' := ?_) (Qbz 38 32767) rfl rfl (by kernel_rfl) (fun _ _ _ h => h) (Or.inr ⟨by rfl, rfl⟩) ?_ ?_
    rotate_left
    ·simp only [Act.put, Qp1, Qp2, Qp3, i64_w, i32_w]
     rfl
    refine pure_ (i := 15) (N := some 34) (v := undef) (a' := ?_) (Qbz 38 65535) rfl rfl (by kernel_rfl) (fun _ _ _ h => h) (Or.inr ⟨by rfl, rfl⟩) ?_ ?_
    rotate_left
    ·simp only [Act.put, Qp1, Qp2, Qp3, i64_w, i32_w]
     rfl
    refine pure_ (i := 16) (N := some 35) (v := undef) (a' := ?_) (Qbz 38 131071) rfl rfl (by kernel_rfl) (fun _ _ _ h => h) (Or.inr ⟨by rfl, rfl⟩) ?_ ?_
    rotate_left
    ·simp only [Act.put, Qp1, Qp2, Qp3, i64_w, i32_w]
     rfl
    refine pure_ (i := 17) (N := some 36) (v := undef) (a' := ?_) (Qbz 38 262143) rfl rfl (by kernel_rfl) (fun _ _ _ h => h) (Or.inr ⟨by rfl, rfl⟩) ?_ ?_
    rotate_left
    ·simp only [Act.put, Qp1, Qp2, Qp3, i64_w, i32_w]
     rfl
    refine pure_ (i := 18) (N := some 37) (v := undef) (a' := ?_) (Qbz 38 524287) rfl rfl (by kernel_rfl) (fun _ _ _ h => h) (Or.inr ⟨by rfl, rfl⟩) ?_ ?_
    rotate_left
    ·simp only [Act.put, Qp1, Qp2, Qp3, i64_w, i32_w]
     rfl
    refine pure_ (i := 19) (N := some 38) (v := undef) (a' := ?_) (Qbz 38 1048575) rfl rfl (by kernel_rfl) (fun _ _ _ h => h) (Or.inr ⟨by rfl, rfl⟩) ?_ ?_
    rotate_left
    ·simp only [Act.put, Qp1, Qp2, Qp3, i64_w, i32_w]
     rfl
    refine pure_ (i := 20) (N := some 39) (v := undef) (a' := ?_) (Qbz 38 2097151) rfl rfl (by kernel_rfl) (fun _ _ _ h => h) (Or.inr ⟨by rfl, rfl⟩) ?_ ?_
    rotate_left
    ·simp only [Act.put, Qp1, Qp2, Qp3, i64_w, i32_w]
     rfl
    refine pure_ (i := 21) (N := some 40) (v := undef) (a' := ?_) (Qbz 38 4194303) rfl rfl (by kernel_rfl) (fun _ _ _ h => h) (Or.inr ⟨by rfl, rfl⟩) ?_ ?_
    rotate_left
    ·simp only [Act.put, Qp1, Qp2, Qp3, i64_w, i32_w]
     rfl
    refine pure_ (i := 22) (N := some 41) (v := undef) (a' := ?_) (Qbz 38 8388607) rfl rfl (by kernel_rfl) (fun _ _ _ h => h) (Or.inr ⟨by rfl, rfl⟩) ?_ ?_
    rotate_left
    ·simp only [Act.put, Qp1, Qp2, Qp3, i64_w, i32_w]
     rfl
    refine pure_ (i := 23) (N := some 42) (v := undef) (a' := ?_) (Qbz 38 16777215) rfl rfl (by kernel_rfl) (fun _ _ _ h => h) (Or.inr ⟨by rfl, rfl⟩) ?_ ?_
    rotate_left
    ·simp only [Act.put, Qp1, Qp2, Qp3, i64_w, i32_w]
     rfl
    refine pure_ (i := 24) (N := some 43) (v := undef) (a' := ?_) (Qbz 38 33554431) rfl rfl (by kernel_rfl) (fun _ _ _ h => h) (Or.inr ⟨by rfl, rfl⟩) ?_ ?_
    rotate_left
    ·simp only [Act.put, Qp1, Qp2, Qp3, i64_w, i32_w]
     rfl
    refine pure_ (i := 25) (N := some 44) (v := undef) (a' := ?_) (Qbz 38 67108863) rfl rfl (by kernel_rfl) (fun _ _ _ h => h) (Or.inr ⟨by rfl, rfl⟩) ?_ ?_
    rotate_left
    ·simp only [Act.put, Qp1, Qp2, Qp3, i64_w, i32_w]
     rfl
    refine pure_ (i := 26) (N := some 45) (v := undef) (a' := ?_) (Qbz 38 134217727) rfl rfl (by kernel_rfl) (fun _ _ _ h => h) (Or.inr ⟨by rfl, rfl⟩) ?_ ?_
    rotate_left
    ·simp only [Act.put, Qp1, Qp2, Qp3, i64_w, i32_w]
     rfl
    refine pure_ (i := 27) (N := some 46) (v := undef) (a' := ?_) (Qbz 38 268435455) rfl rfl (by kernel_rfl) (fun _ _ _ h => h) (Or.inr ⟨by rfl, rfl⟩) ?_ ?_
    rotate_left
    ·simp only [Act.put, Qp1, Qp2, Qp3, i64_w, i32_w]
     rfl
    refine pure_ (i := 28) (N := some 47) (v := undef) (a' := ?_) (Qbz 38 536870911) rfl rfl (by kernel_rfl) (fun _ _ _ h => h) (Or.inr ⟨by rfl, rfl⟩) ?_ ?_
    rotate_left
    ·simp only [Act.put, Qp1, Qp2, Qp3, i64_w, i32_w]
     rfl
    refine pure_ (i := 29) (N := some 48) (v := undef) (a' := ?_) (Qbz 38 1073741823) rfl rfl (by kernel_rfl) (fun _ _ _ h => h) (Or.inr ⟨by rfl, rfl⟩) ?_ ?_
    rotate_left
    ·simp only [Act.put, Qp1, Qp2, Qp3, i64_w, i32_w]
     rfl
    refine pure_ (i := 30) (N := some 49) (v := undef) (a' := ?_) (Qbz 38 2147483647) rfl rfl (by kernel_rfl) (fun _ _ _ h => h) (Or.inr ⟨by rfl, rfl⟩) ?_ ?_
    rotate_left
    ·simp only [Act.put, Qp1, Qp2, Qp3, i64_w, i32_w]
     rfl
    refine pure_ (i := 31) (N := some 50) (v := undef) (a' := ?_) (Qbz 38 4294967295) rfl rfl (by kernel_rfl) (fun _ _ _ h => h) (Or.inr ⟨by rfl, rfl⟩) ?_ ?_
    rotate_left
    ·simp only [Act.put, Qp1, Qp2, Qp3, i64_w, i32_w]
     rfl
    refine pure_ (i := 32) (N := some 51) (v := undef) (a' := ?_) (Qbz 38 8589934591) rfl rfl (by kernel_rfl) (fun _ _ _ h => h) (Or.inr ⟨by rfl, rfl⟩) ?_ ?_
    rotate_left
    ·simp only [Act.put, Qp1, Qp2, Qp3, i64_w, i32_w]
     rfl
    refine pure_ (i := 33) (N := some 52) (v := undef) (a' := ?_) (Qbz 38 17179869183) rfl rfl (by kernel_rfl) (fun _ _ _ h => h) (Or.inr ⟨by rfl, rfl⟩) ?_ ?_
    rotate_left
    ·simp only [Act.put, Qp1, Qp2, Qp3, i64_w, i32_w]
     rfl
    refine pure_ (i := 34) (N := some 53) (v := undef) (a' := ?_) (Qbz 38 34359738367) rfl rfl (by kernel_rfl) (fun _ _ _ h => h) (Or.inr ⟨by rfl, rfl⟩) ?_ ?_
    rotate_left
    ·simp only [Act.put, Qp1, Qp2, Qp3, i64_w, i32_w]
     rfl
    refine pure_ (i := 35) (N := some 54) (v := undef) (a' := ?_) (Qbz 38 68719476735) rfl rfl (by kernel_rfl) (fun _ _ _ h => h) (Or.inr ⟨by rfl, rfl⟩) ?_ ?_
    rotate_left
    ·simp only [Act.put, Qp1, Qp2, Qp3, i64_w, i32_w]
     rfl
    refine pure_ (i := 36) (N := some 55) (v := undef) (a' := ?_) (Qbz 38 137438953471) rfl rfl (by kernel_rfl) (fun _ _ _ h => h) (Or.inr ⟨by rfl, rfl⟩) ?_ ?_
    rotate_left
    ·simp only [Act.put, Qp1, Qp2, Qp3, i64_w, i32_w]
     rfl
    refine pure_ (i := 37) (N := some 56) (v := ?_) (a' := ?_) (Qbz 38 274877906943) rfl rfl (by kernel_rfl) (fun _ _ _ h => h) (Or.inl ⟨by rfl, ?_⟩) ?_ ?_
    rotate_left
    ·intro w'
     go_simp
     with_reducible rfl
    rotate_left
    ·simp only [Act.put, Qp1, Qp2, Qp3, i64_w, i32_w]
     rfl
    refine done_ (by kernel_rfl) ?_
    go_wp2
    go_roundg gi
    case measure => omega
    case rel => exact ⟨i + 1, by go_num, by omega, ⟨fun j hj => by
     by_cases e : j = i
     ·rw [e]; exact HK.out
     ·exact HL.out j (by omega)⟩, ⟨HS.out.drew⟩⟩
   ·obtain ⟨p, rfl⟩ := Int.eq_ofNat_of_zero_le (show 0 ≤ q by omega)
    have hd1 : decide ((p : Int) < 0) = false := decide_eq_false hq0
    have hp : p < B.length := by omega
    obtain ⟨s1, s2, s3, s4⟩ := HT.out.inn p hp
    have cb1 := (HS.out.cb i (by have := HLEN.out; omega)).1
    have cb2 := (HS.out.cb p hp).1
    obtain ⟨bi, hbi⟩ : ∃ a : Nat, rd B (i : Int) = (a : Int) := ⟨(rd B (i : Int)).toNat, by omega⟩
    obtain ⟨bp, hbp⟩ : ∃ a : Nat, rd B (p : Int) = (a : Int) := ⟨(rd B (p : Int)).toNat, by omega⟩
    have hpl : ((p : Int) < (B.length : Int)) = True := eq_true (by omega)
    have hpl2 : decide ((p : Int) < (B.length : Int)) = true := decide_eq_true (by omega)
    have hpl3 : ((i : Int) < (B.length : Int)) = True := eq_true (by have := HLEN.out; omega)
    have hpl4 : decide ((i : Int) < (B.length : Int)) = true := decide_eq_true (by have := HLEN.out; omega)
    have hbi2 : bi < 512 := by omega
    have hbp2 : bp < 512 := by omega
    have hK : okM B P i = (decide (diff bi bp = 0) || decide (diff bp bi = 0)) := by
     unfold okM bagN
     rw [hq, hbi, hbp, show decide (0 ≤ (p : Int)) = true from decide_eq_true (by omega)]
     simp
    have e1 := b_andNot bi bp (by omega) (by omega)
    have e2 := b_andNot bp bi (by omega) (by omega)
    have e3 := b_or bp bi (by omega) (by omega)
    obtain ⟨bx, hbx⟩ : ∃ x, bp ||| bi = x := ⟨_, rfl⟩
    have HM : Aside0 (mergeB B i p = (B.set p (bx : Int)).eraseIdx i ∧ mergeP P i p = ((P.map (pa i p)).eraseIdx i).map (pd i)) := ⟨merge_is B P i p bx (by rw [hbp, hbi]; simpa using hbx)⟩
    rw [hbx] at e3
    rw [hbi] at cb1
    rw [hbp] at cb2
    have HQ := Aside0.mk hq
    clear hq t1 t2 t3 t4 s1 s2 s3 s4 hbi hbp hbx hq0
    generalize diff bi bp = d1 at *
    generalize diff bp bi = d2 at *
    have f0 := HS.out.xb
    have f0d : wr.drew.cell? ⟨xB, 0, none⟩ = _ := f0
    have f1d : wr.drew.cell? ⟨gB, i, none⟩ = _ := cb1
    have f2d : wr.drew.cell? ⟨gB, p, none⟩ = _ := cb2
    clear f0 cb1 cb2
    have F1 := Aside0.mk f1d
    have F2 := Aside0.mk f2d
    have go : ∀ (hk : okM B P i = true), Aside0 (∃ i0 p0 : Nat, R = some i0 ∧ rd P (i0 : Int) = (p0 : Int) ∧ i0 = i ∧ p0 = p) := fun hk => ⟨i, p, by rw [← HR.out]; exact pick_at hil HL.out hk, HQ.out, rfl, rfl⟩
    by_cases h1 : d1 = 0
    ·have hb1 : ((d1 : Int) != 0) = false := by rw [h1]; rfl
     have GO := go (by rw [hK, h1]; rfl)
     clear h1 hK go
     go_wp2
     refine start_ (n := 38) (S := fun w' => w'.cell? ⟨xB, 0, none⟩ = some (.slice (some ⟨gB, 0, none⟩) B.length cB) ∧ w'.cell? ⟨gB, i, none⟩ = some (.int .i64 (bi : Int)) ∧ w'.cell? ⟨gB, p, none⟩ = some (.int .i64 (bp : Int))) (ds := []) (Qbz 38 0) (by kernel_rfl) rfl rfl ⟨f0d, f1d, f2d⟩ (fun hHeld => ?_)
     refine pure_ (i := 0) (N := some 19) (v := ?_) (a' := ?_) (Qbz 38 1) rfl rfl (by kernel_rfl) (fun _ _ _ h => h) (Or.inl ⟨by rfl, ?_⟩) ?_ ?_
     rotate_left
     ·intro w'
      go_simp
      with_reducible rfl
     rotate_left
     ·simp only [Act.put, Qp1, Qp2, Qp3, i64_w, i32_w]
      rfl
     refine pure_ (i := 1) (N := some 20) (v := ?_) (a' := ?_) (Qbz 38 3) rfl rfl (by kernel_rfl) (fun _ _ _ h => h) (Or.inl ⟨by rfl, ?_⟩) ?_ ?_
     rotate_left
     ·intro w'
      go_simp
      with_reducible rfl
     rotate_left
     ·simp only [Act.put, Qp1, Qp2, Qp3, i64_w, i32_w]
      rfl
     refine pure_ (i := 2) (N := some 21) (v := ?_) (a' := ?_) (Qbz 38 7) rfl rfl (by kernel_rfl) (fun _ _ _ h => h) (Or.inl ⟨by rfl, ?_⟩) ?_ ?_
     rotate_left
     ·intro w'
      go_simp
      with_reducible rfl
     rotate_left
     ·simp only [Act.put, Qp1, Qp2, Qp3, i64_w, i32_w]
      rfl
     refine pure_ (i := 3) (N := some 22) (v := ?_) (a' := ?_) (Qbz 38 15) rfl rfl (by kernel_rfl) (fun _ _ _ h => h) (Or.inl ⟨by rfl, ?_⟩) ?_ ?_
     rotate_left
     ·intro w'
      go_simp
      with_reducible rfl
     rotate_left
     ·simp only [Act.put, Qp1, Qp2, Qp3, i64_w, i32_w]
      rfl
     refine pure_ (i := 4) (N := some 23) (v := ?_) (a' := ?_) (Qbz 38 31) rfl rfl (by kernel_rfl) (fun _ _ _ h => h) (Or.inl ⟨by rfl, ?_⟩) ?_ ?_
     rotate_left
     ·intro w'
      go_simp
      with_reducible rfl
     rotate_left
     ·simp only [Act.put, Qp1, Qp2, Qp3, i64_w, i32_w]
      rfl
     refine pure_ (i := 5) (N := some 24) (v := ?_) (a' := ?_) (Qbz 38 63) rfl rfl (by kernel_rfl) (fun _ _ _ h => h) (Or.inl ⟨by rfl, ?_⟩) ?_ ?_
     rotate_left
     ·intro w'
      go_simp
      with_reducible rfl
     rotate_left
     ·simp only [Act.put, Qp1, Qp2, Qp3, i64_w, i32_w]
      rfl
     refine pure_ (i := 7) (N := some 26) (v := ?_) (a' := ?_) (Qbz 38 191) rfl rfl (by kernel_rfl) (fun _ _ _ h => h) (Or.inl ⟨by rfl, ?_⟩) ?_ ?_
     rotate_left
     ·intro w'
      go_simp
      with_reducible rfl
     rotate_left
     ·simp only [Act.put, Qp1, Qp2, Qp3, i64_w, i32_w]
      rfl
     refine pure_ (i := 10) (N := some 29) (v := ?_) (a' := ?_) (Qbz 38 1215) rfl rfl (by kernel_rfl) (fun _ _ _ h => h) (Or.inl ⟨by rfl, ?_⟩) ?_ ?_
     rotate_left
     ·intro w'
      go_simp
      with_reducible rfl
     rotate_left
     ·simp only [Act.put, Qp1, Qp2, Qp3, i64_w, i32_w]
      rfl
     refine pure_ (i := 11) (N := some 30) (v := ?_) (a' := ?_) (Qbz 38 3263) rfl rfl (by kernel_rfl) (fun _ _ _ h => h) (Or.inl ⟨by rfl, ?_⟩) ?_ ?_
     rotate_left
     ·intro w'
      go_simp
      with_reducible rfl
     rotate_left
     ·simp only [Act.put, Qp1, Qp2, Qp3, i64_w, i32_w]
      rfl
     refine pure_ (i := 12) (N := some 31) (v := ?_) (a' := ?_) (Qbz 38 7359) rfl rfl (by kernel_rfl) (fun _ _ _ h => h) (Or.inl ⟨by rfl, ?_⟩) ?_ ?_
     rotate_left
     ·intro w'
      go_simp
      with_reducible rfl
     rotate_left
     ·simp only [Act.put, Qp1, Qp2, Qp3, i64_w, i32_w]
      rfl
     refine pure_ (i := 14) (N := some 33) (v := ?_) (a' := ?_) (Qbz 38 23743) rfl rfl (by kernel_rfl) (fun _ _ _ h => h) (Or.inl ⟨by rfl, ?_⟩) ?_ ?_
     rotate_left
     ·intro w'
      go_simp
      with_reducible rfl
     rotate_left
     ·simp only [Act.put, Qp1, Qp2, Qp3, i64_w, i32_w]
      rfl
     refine take_ (i := 6) (N := some 25) (v := ?_) (a' := ?_) (Qbz 38 23807) rfl rfl (by kernel_rfl) (fun _ _ _ h => h) (Or.inl ⟨by rfl, ?_⟩) hHeld ?_ ?_
     rotate_left
     ·rintro w' ⟨s0, s1, s2⟩
      go_simp
      with_reducible rfl
     rotate_left
     ·simp only [Act.put, Qp1, Qp2, Qp3, i64_w, i32_w]
      rfl
     refine pure_ (i := 8) (N := some 27) (v := ?_) (a' := ?_) (Qbz 38 24063) rfl rfl (by kernel_rfl) (fun _ _ _ h => h) (Or.inl ⟨by rfl, ?_⟩) ?_ ?_
     rotate_left
     ·intro w'
      go_simp
      with_reducible rfl
     rotate_left
     ·simp only [Act.put, Qp1, Qp2, Qp3, i64_w, i32_w]
      rfl
     refine take_ (i := 9) (N := some 28) (v := ?_) (a' := ?_) (Qbz 38 24575) rfl rfl (by kernel_rfl) (fun _ _ _ h => h) (Or.inl ⟨by rfl, ?_⟩) hHeld ?_ ?_
     rotate_left
     ·rintro w' ⟨s0, s1, s2⟩
      go_simp
      with_reducible rfl
     rotate_left
     ·simp only [Act.put, Qp1, Qp2, Qp3, i64_w, i32_w]
      rfl
     refine take_ (i := 13) (N := some 32) (v := ?_) (a' := ?_) (Qbz 38 32767) rfl rfl (by kernel_rfl) (fun _ _ _ h => h) (Or.inl ⟨by rfl, ?_⟩) hHeld ?_ ?_
     rotate_left
     ·rintro w' ⟨s0, s1, s2⟩
      go_simp
      with_reducible rfl
     rotate_left
     ·simp only [Act.put, Qp1, Qp2, Qp3, i64_w, i32_w]
      rfl
     refine pure_ (i := 15) (N := some 34) (v := ?_) (a' := ?_) (Qbz 38 65535) rfl rfl (by kernel_rfl) (fun _ _ _ h => h) (Or.inl ⟨by rfl, ?_⟩) ?_ ?_
     rotate_left
     ·intro w'
      go_simp
      with_reducible rfl
     rotate_left
     ·simp only [Act.put, Qp1, Qp2, Qp3, i64_w, i32_w]
      rfl
     refine take_ (i := 16) (N := some 35) (v := ?_) (a' := ?_) (Qbz 38 131071) rfl rfl (by kernel_rfl) (fun _ _ _ h => h) (Or.inl ⟨by rfl, ?_⟩) hHeld ?_ ?_
     rotate_left
     ·rintro w' ⟨s0, s1, s2⟩
      go_simp
      with_reducible rfl
     rotate_left
     ·simp only [Act.put, Qp1, Qp2, Qp3, i64_w, i32_w]
      rfl
     refine pure_ (i := 17) (N := some 36) (v := ?_) (a' := ?_) (Qbz 38 262143) rfl rfl (by kernel_rfl) (fun _ _ _ h => h) (Or.inl ⟨by rfl, ?_⟩) ?_ ?_
     rotate_left
     ·intro w'
      go_simp
      with_reducible rfl
     rotate_left
     ·simp only [Act.put, Qp1, Qp2, Qp3, i64_w, i32_w]
      rfl
     refine pure_ (i := 18) (N := some 37) (v := ?_) (a' := ?_) (Qbz 38 524287) rfl rfl (by kernel_rfl) (fun _ _ _ h => h) (Or.inl ⟨by rfl, ?_⟩) ?_ ?_
     rotate_left
     ·intro w'
      go_simp
      with_reducible rfl
     rotate_left
     ·simp only [Act.put, Qp1, Qp2, Qp3, i64_w, i32_w]
      rfl
     refine pure_ (i := 19) (N := some 38) (v := ?_) (a' := ?_) (Qbz 38 1048575) rfl rfl (by kernel_rfl) (fun _ _ _ h => h) (Or.inl ⟨by rfl, ?_⟩) ?_ ?_
     rotate_left
     ·intro w'
      go_simp
      with_reducible rfl
     rotate_left
     ·simp only [Act.put, Qp1, Qp2, Qp3, i64_w, i32_w]
      rfl
     refine pure_ (i := 20) (N := some 39) (v := undef) (a' := ?_) (Qbz 38 2097151) rfl rfl (by kernel_rfl) (fun _ _ _ h => h) (Or.inr ⟨by rfl, rfl⟩) ?_ ?_
     rotate_left
     ·simp only [Act.put, Qp1, Qp2, Qp3, i64_w, i32_w]
      rfl
     refine pure_ (i := 21) (N := some 40) (v := undef) (a' := ?_) (Qbz 38 4194303) rfl rfl (by kernel_rfl) (fun _ _ _ h => h) (Or.inr ⟨by rfl, rfl⟩) ?_ ?_
     rotate_left
     ·simp only [Act.put, Qp1, Qp2, Qp3, i64_w, i32_w]
      rfl
     refine pure_ (i := 22) (N := some 41) (v := undef) (a' := ?_) (Qbz 38 8388607) rfl rfl (by kernel_rfl) (fun _ _ _ h => h) (Or.inr ⟨by rfl, rfl⟩) ?_ ?_
     rotate_left
     ·simp only [Act.put, Qp1, Qp2, Qp3, i64_w, i32_w]
      rfl
     refine pure_ (i := 23) (N := some 42) (v := undef) (a' := ?_) (Qbz 38 16777215) rfl rfl (by kernel_rfl) (fun _ _ _ h => h) (Or.inr ⟨by rfl, rfl⟩) ?_ ?_
     rotate_left
     ·simp only [Act.put, Qp1, Qp2, Qp3, i64_w, i32_w]
      rfl
     refine pure_ (i := 24) (N := some 43) (v := undef) (a' := ?_) (Qbz 38 33554431) rfl rfl (by kernel_rfl) (fun _ _ _ h => h) (Or.inr ⟨by rfl, rfl⟩) ?_ ?_
     rotate_left
     ·simp only [Act.put, Qp1, Qp2, Qp3, i64_w, i32_w]
      rfl
     refine pure_ (i := 25) (N := some 44) (v := undef) (a' := ?_) (Qbz 38 67108863) rfl rfl (by kernel_rfl) (fun _ _ _ h => h) (Or.inr ⟨by rfl, rfl⟩) ?_ ?_
     rotate_left
     ·simp only [Act.put, Qp1, Qp2, Qp3, i64_w, i32_w]
      rfl
     refine pure_ (i := 26) (N := some 45) (v := undef) (a' := ?_) (Qbz 38 134217727) rfl rfl (by kernel_rfl) (fun _ _ _ h => h) (Or.inr ⟨by rfl, rfl⟩) ?_ ?_
     rotate_left
     ·simp only [Act.put, Qp1, Qp2, Qp3, i64_w, i32_w]
      rfl
     refine pure_ (i := 27) (N := some 46) (v := undef) (a' := ?_) (Qbz 38 268435455) rfl rfl (by kernel_rfl) (fun _ _ _ h => h) (Or.inr ⟨by rfl, rfl⟩) ?_ ?_
     rotate_left
     ·simp only [Act.put, Qp1, Qp2, Qp3, i64_w, i32_w]
      rfl
     refine pure_ (i := 28) (N := some 47) (v := undef) (a' := ?_) (Qbz 38 536870911) rfl rfl (by kernel_rfl) (fun _ _ _ h => h) (Or.inr ⟨by rfl, rfl⟩) ?_ ?_
     rotate_left
     ·simp only [Act.put, Qp1, Qp2, Qp3, i64_w, i32_w]
      rfl
     refine pure_ (i := 29) (N := some 48) (v := undef) (a' := ?_) (Qbz 38 1073741823) rfl rfl (by kernel_rfl) (fun _ _ _ h => h) (Or.inr ⟨by rfl, rfl⟩) ?_ ?_
     rotate_left
     ·simp only [Act.put, Qp1, Qp2, Qp3, i64_w, i32_w]
      rfl
     refine pure_ (i := 30) (N := some 49) (v := undef) (a' := ?_) (Qbz 38 2147483647) rfl rfl (by kernel_rfl) (fun _ _ _ h => h) (Or.inr ⟨by rfl, rfl⟩) ?_ ?_
     rotate_left
     ·simp only [Act.put, Qp1, Qp2, Qp3, i64_w, i32_w]
      rfl
     refine pure_ (i := 31) (N := some 50) (v := undef) (a' := ?_) (Qbz 38 4294967295) rfl rfl (by kernel_rfl) (fun _ _ _ h => h) (Or.inr ⟨by rfl, rfl⟩) ?_ ?_
     rotate_left
     ·simp only [Act.put, Qp1, Qp2, Qp3, i64_w, i32_w]
      rfl
     refine pure_ (i := 32) (N := some 51) (v := undef) (a' := ?_) (Qbz 38 8589934591) rfl rfl (by kernel_rfl) (fun _ _ _ h => h) (Or.inr ⟨by rfl, rfl⟩) ?_ ?_
     rotate_left
     ·simp only [Act.put, Qp1, Qp2, Qp3, i64_w, i32_w]
      rfl
     refine pure_ (i := 33) (N := some 52) (v := undef) (a' := ?_) (Qbz 38 17179869183) rfl rfl (by kernel_rfl) (fun _ _ _ h => h) (Or.inr ⟨by rfl, rfl⟩) ?_ ?_
     rotate_left
     ·simp only [Act.put, Qp1, Qp2, Qp3, i64_w, i32_w]
      rfl
     refine pure_ (i := 34) (N := some 53) (v := undef) (a' := ?_) (Qbz 38 34359738367) rfl rfl (by kernel_rfl) (fun _ _ _ h => h) (Or.inr ⟨by rfl, rfl⟩) ?_ ?_
     rotate_left
     ·simp only [Act.put, Qp1, Qp2, Qp3, i64_w, i32_w]
      rfl
     refine pure_ (i := 35) (N := some 54) (v := undef) (a' := ?_) (Qbz 38 68719476735) rfl rfl (by kernel_rfl) (fun _ _ _ h => h) (Or.inr ⟨by rfl, rfl⟩) ?_ ?_
     rotate_left
     ·simp only [Act.put, Qp1, Qp2, Qp3, i64_w, i32_w]
      rfl
     refine pure_ (i := 36) (N := some 55) (v := ?_) (a' := ?_) (Qbz 38 137438953471) rfl rfl (by kernel_rfl) (fun _ _ _ h => h) (Or.inl ⟨by rfl, ?_⟩) ?_ ?_
     rotate_left
     ·intro w'
      go_simp
      with_reducible rfl
     rotate_left
     ·simp only [Act.put, Qp1, Qp2, Qp3, i64_w, i32_w]
      rfl
     refine pure_ (i := 37) (N := some 56) (v := ?_) (a' := ?_) (Qbz 38 274877906943) rfl rfl (by kernel_rfl) (fun _ _ _ h => h) (Or.inl ⟨by rfl, ?_⟩) ?_ ?_
     rotate_left
     ·intro w'
      go_simp
      with_reducible rfl
     rotate_left
     ·simp only [Act.put, Qp1, Qp2, Qp3, i64_w, i32_w]
      rfl
     refine done_ (by kernel_rfl) ?_
     go_wp2
     obtain ⟨i0, p0, hR0, hp0, rfl, rfl⟩ := GO.out
     clear GO hHeld f0d f1d f2d c1 e1 e2 hd1 HL HR
     have HS2 := Aside0.mk HS.out.drew
     clear HS
     generalize wr.drew = w2 at *
     have f0d : w2.drew.cell? ⟨xB, 0, none⟩ = some (.slice (some ⟨gB, 0, none⟩) B.length cB) := HS2.out.xb
     have f1d : w2.drew.cell? ⟨gB, i0, none⟩ = some (.int .i64 (bi : Int)) := F1.out
     have f2d : w2.drew.cell? ⟨gB, p0, none⟩ = some (.int .i64 (bp : Int)) := F2.out
     have f3d : w2.drew.frozen? ⟨gB, p0, none⟩ = false := (HS2.out.cb p0 hp).2
     refine start_ (n := 17) (S := fun w' => w'.cell? ⟨xB, 0, none⟩ = some (.slice (some ⟨gB, 0, none⟩) B.length cB) ∧ w'.cell? ⟨gB, i0, none⟩ = some (.int .i64 (bi : Int)) ∧ w'.cell? ⟨gB, p0, none⟩ = some (.int .i64 (bp : Int)) ∧ w'.frozen? ⟨gB, p0, none⟩ = false) (ds := [16]) (Qbz 17 0) (by kernel_rfl) rfl rfl ⟨f0d, f1d, f2d, f3d⟩ (fun hHeld => ?_)
     refine pure_ (i := 0) (N := some 57) (v := ?_) (a' := ?_) (Qbz 17 1) rfl rfl (by kernel_rfl) (fun _ _ _ h => h) (Or.inl ⟨by rfl, ?_⟩) ?_ ?_
     rotate_left
     ·intro w'
      go_simp
      with_reducible rfl
     rotate_left
     ·simp only [Act.put, Qp1, Qp2, Qp3, i64_w, i32_w]
      rfl
     refine pure_ (i := 1) (N := some 58) (v := ?_) (a' := ?_) (Qbz 17 3) rfl rfl (by kernel_rfl) (fun _ _ _ h => h) (Or.inl ⟨by rfl, ?_⟩) ?_ ?_
     rotate_left
     ·intro w'
      go_simp
      with_reducible rfl
     rotate_left
     ·simp only [Act.put, Qp1, Qp2, Qp3, i64_w, i32_w]
      rfl
     refine pure_ (i := 2) (N := some 59) (v := ?_) (a' := ?_) (Qbz 17 7) rfl rfl (by kernel_rfl) (fun _ _ _ h => h) (Or.inl ⟨by rfl, ?_⟩) ?_ ?_
     rotate_left
     ·intro w'
      go_simp
      with_reducible rfl
     rotate_left
     ·simp only [Act.put, Qp1, Qp2, Qp3, i64_w, i32_w]
      rfl
     refine pure_ (i := 4) (N := some 61) (v := ?_) (a' := ?_) (Qbz 17 23) rfl rfl (by kernel_rfl) (fun _ _ _ h => h) (Or.inl ⟨by rfl, ?_⟩) ?_ ?_
     rotate_left
     ·intro w'
      go_simp
      with_reducible rfl
     rotate_left
     ·simp only [Act.put, Qp1, Qp2, Qp3, i64_w, i32_w]
      rfl
     refine pure_ (i := 7) (N := some 64) (v := ?_) (a' := ?_) (Qbz 17 151) rfl rfl (by kernel_rfl) (fun _ _ _ h => h) (Or.inl ⟨by rfl, ?_⟩) ?_ ?_
     rotate_left
     ·intro w'
      go_simp
      with_reducible rfl
     rotate_left
     ·simp only [Act.put, Qp1, Qp2, Qp3, i64_w, i32_w]
      rfl
     refine pure_ (i := 8) (N := some 65) (v := ?_) (a' := ?_) (Qbz 17 407) rfl rfl (by kernel_rfl) (fun _ _ _ h => h) (Or.inl ⟨by rfl, ?_⟩) ?_ ?_
     rotate_left
     ·intro w'
      go_simp
      with_reducible rfl
     rotate_left
     ·simp only [Act.put, Qp1, Qp2, Qp3, i64_w, i32_w]
      rfl
     refine pure_ (i := 9) (N := some 66) (v := ?_) (a' := ?_) (Qbz 17 919) rfl rfl (by kernel_rfl) (fun _ _ _ h => h) (Or.inl ⟨by rfl, ?_⟩) ?_ ?_
     rotate_left
     ·intro w'
      go_simp
      with_reducible rfl
     rotate_left
     ·simp only [Act.put, Qp1, Qp2, Qp3, i64_w, i32_w]
      rfl
     refine pure_ (i := 11) (N := some 68) (v := ?_) (a' := ?_) (Qbz 17 2967) rfl rfl (by kernel_rfl) (fun _ _ _ h => h) (Or.inl ⟨by rfl, ?_⟩) ?_ ?_
     rotate_left
     ·intro w'
      go_simp
      with_reducible rfl
     rotate_left
     ·simp only [Act.put, Qp1, Qp2, Qp3, i64_w, i32_w]
      rfl
     refine take_ (i := 3) (N := some 60) (v := ?_) (a' := ?_) (Qbz 17 2975) rfl rfl (by kernel_rfl) (fun _ _ _ h => h) (Or.inl ⟨by rfl, ?_⟩) hHeld ?_ ?_
     rotate_left
     ·rintro w' ⟨s0, s1, s2, s3⟩
      go_simp
      with_reducible rfl
     rotate_left
     ·simp only [Act.put, Qp1, Qp2, Qp3, i64_w, i32_w]
      rfl
     refine pure_ (i := 5) (N := some 62) (v := ?_) (a' := ?_) (Qbz 17 3007) rfl rfl (by kernel_rfl) (fun _ _ _ h => h) (Or.inl ⟨by rfl, ?_⟩) ?_ ?_
     rotate_left
     ·intro w'
      go_simp
      with_reducible rfl
     rotate_left
     ·simp only [Act.put, Qp1, Qp2, Qp3, i64_w, i32_w]
      rfl
     refine take_ (i := 6) (N := some 63) (v := ?_) (a' := ?_) (Qbz 17 3071) rfl rfl (by kernel_rfl) (fun _ _ _ h => h) (Or.inl ⟨by rfl, ?_⟩) hHeld ?_ ?_
     rotate_left
     ·rintro w' ⟨s0, s1, s2, s3⟩
      go_simp
      with_reducible rfl
     rotate_left
     ·simp only [Act.put, Qp1, Qp2, Qp3, i64_w, i32_w]
      rfl
     refine take_ (i := 10) (N := some 67) (v := ?_) (a' := ?_) (Qbz 17 4095) rfl rfl (by kernel_rfl) (fun _ _ _ h => h) (Or.inl ⟨by rfl, ?_⟩) hHeld ?_ ?_
     rotate_left
     ·rintro w' ⟨s0, s1, s2, s3⟩
      go_simp
      with_reducible rfl
     rotate_left
     ·simp only [Act.put, Qp1, Qp2, Qp3, i64_w, i32_w]
      rfl
     refine pure_ (i := 12) (N := some 69) (v := ?_) (a' := ?_) (Qbz 17 8191) rfl rfl (by kernel_rfl) (fun _ _ _ h => h) (Or.inl ⟨by rfl, ?_⟩) ?_ ?_
     rotate_left
     ·intro w'
      go_simp
      with_reducible rfl
     rotate_left
     ·simp only [Act.put, Qp1, Qp2, Qp3, i64_w, i32_w]
      rfl
     refine take_ (i := 13) (N := some 70) (v := ?_) (a' := ?_) (Qbz 17 16383) rfl rfl (by kernel_rfl) (fun _ _ _ h => h) (Or.inl ⟨by rfl, ?_⟩) hHeld ?_ ?_
     rotate_left
     ·rintro w' ⟨s0, s1, s2, s3⟩
      go_simp
      with_reducible rfl
     rotate_left
     ·simp only [Act.put, Qp1, Qp2, Qp3, i64_w, i32_w]
      rfl
     refine pure_ (i := 14) (N := some 71) (v := ?_) (a' := ?_) (Qbz 17 32767) rfl rfl (by kernel_rfl) (fun _ _ _ h => h) (Or.inl ⟨by rfl, ?_⟩) ?_ ?_
     rotate_left
     ·intro w'
      go_simp
      with_reducible rfl
     rotate_left
     ·simp only [Act.put, Qp1, Qp2, Qp3, i64_w, i32_w]
      rfl
     refine pure_ (i := 15) (N := some 72) (v := ?_) (a' := ?_) (Qbz 17 65535) rfl rfl (by kernel_rfl) (fun _ _ _ h => h) (Or.inl ⟨by rfl, ?_⟩) ?_ ?_
     rotate_left
     ·intro w'
      go_simp
      with_reducible rfl
     rotate_left
     ·simp only [Act.put, Qp1, Qp2, Qp3, i64_w, i32_w]
      rfl
     refine last_ (i := 16) (N := none) (Qbz 17 131071) rfl rfl (by kernel_rfl) (by decide) (fun K hK => ?_)
     refine skip_ (w1 := ?_) (by rfl) rfl ?_ ?_
     rotate_left
     ·go_simp
      rfl
     refine hK.out _ _ ?_
     clear hK K
     refine done_ (by kernel_rfl) ?_
     have HS3 : Aside0 (MS w0 ((w2.setCell ⟨gB, p0, none⟩ (.int .i64 (bx : Int))).drew) xB gB cB gP cP (B.set p0 (bx : Int)) P) := ⟨(HS2.out.setB p0 (bx : Int)).drew⟩
     generalize (w2.setCell ⟨gB, p0, none⟩ (.int .i64 (bx : Int))).drew = w3 at *
     obtain ⟨B1, hB1⟩ : ∃ L, B.set p0 (bx : Int) = L := ⟨_, rfl⟩
     have HLB1 : Aside0 (B1.length = B.length) := ⟨by rw [← hB1, List.length_set]⟩
     rw [hB1] at HS3 HM
     clear HS2 f0d f1d f2d f3d hHeld e3 F1 F2 hB1
     have x1 := HS3.out.xp
     go_wp2
     go_loopg [78] P.length (fun kq v78 w' => ∃ k : Nat, v78 = .int .i64 (k : Int) ∧ k + kq = P.length ∧ Aside0 (MS w0 w' xB gB cB gP cP B1 (upTo (pa i0 p0) k P)))
     case atStart => exact ⟨0, rfl, by omega, ⟨by rw [upTo_zero]; exact HS3.out⟩⟩
     case round =>
      clear HS3 x1
      obtain ⟨k, rfl, hk, HS4⟩ := hrel
      by_cases hkl : k < P.length
      ·have hk1 : ((k : Int) < (P.length : Int)) = True := eq_true (by omega)
       have hk2 : decide ((k : Int) < (P.length : Int)) = true := decide_eq_true (by omega)
       cases gk with
       | zero => omega
       | succ gk' =>
       obtain ⟨y1, y2⟩ := HS4.out.cp k (by rw [upTo_len]; exact hkl)
       rw [upTo_rd _ _ hkl] at y1
       have y3 := HS4.out.xp
       rw [upTo_len] at y3
       obtain ⟨q, hq⟩ : ∃ q, rd P (k : Int) = q := ⟨_, rfl⟩
       rw [hq] at y1
       by_cases hqi : q = (i0 : Int)
       ·have hqb : (q == (i0 : Int)) = true := by rw [hqi]; simp
        have HU : Aside0 ((upTo (pa i0 p0) k P).set k (p0 : Int) = upTo (pa i0 p0) (k + 1) P) := ⟨by rw [← upTo_set _ _ hkl, hq, pa, if_pos hqi]⟩
        clear hq hqi
        go_wp2
        go_roundg gk'
        case measure => omega
        case rel => exact ⟨k + 1, by go_num, by omega, ⟨by rw [← HU.out]; exact HS4.out.setP k (p0 : Int)⟩⟩
       ·have hqb : (q == (i0 : Int)) = false := beq_eq_false_iff_ne.2 hqi
        have HU : Aside0 (upTo (pa i0 p0) k P = upTo (pa i0 p0) (k + 1) P) := ⟨by rw [upTo_same _ _ hkl (by rw [hq, pa, if_neg hqi])]⟩
        clear hq hqi
        go_wp2
        go_roundg gk'
        case measure => omega
        case rel => exact ⟨k + 1, by go_num, by omega, ⟨by rw [← HU.out]; exact HS4.out⟩⟩
      ·have hk1 : ((k : Int) < (P.length : Int)) = False := eq_false (by omega)
       have hk2 : decide ((k : Int) < (P.length : Int)) = false := decide_eq_false (by omega)
       obtain rfl : k = P.length := by omega
       have HS5 := Aside0.mk HS4.out
       rw [upTo_all] at HS5
       have hbd2 : ∀ k : Nat, k < ((P.map (pa i0 p0)).eraseIdx i0).length → -1 ≤ rd ((P.map (pa i0 p0)).eraseIdx i0) (k : Int) ∧ rd ((P.map (pa i0 p0)).eraseIdx i0) (k : Int) < 31 := by
        intro k hk
        have hu : T.up i0 k < P.length := by
         rw [List.length_eraseIdx, if_pos (by rw [List.length_map]; exact hil), List.length_map] at hk
         unfold T.up; split <;> omega
        rw [rd_erase, rd_map _ _ _ hu]
        obtain ⟨t1, t2, _, _⟩ := HT.out.inn _ (show T.up i0 k < B.length by have := HLEN.out; omega)
        unfold pa
        split <;> omega
       obtain ⟨P1, hP1⟩ : ∃ L, P.map (pa i0 p0) = L := ⟨_, rfl⟩
       have HLP1 : Aside0 (P1.length = P.length) := ⟨by rw [← hP1, List.length_map]⟩
       rw [hP1] at HS5 HM hbd2
       clear HS4 hP1
       have z0 := HS5.out.xb
       have hd0 : Aside0 (i0 < B1.length) := ⟨by have := HLEN.out; have := HLB1.out; omega⟩
       have hd1 : Aside0 (i0 < P1.length) := ⟨by have := HLP1.out; omega⟩
       obtain ⟨B2, hB2⟩ : ∃ L, B1.eraseIdx i0 = L := ⟨_, rfl⟩
       obtain ⟨P2, hP2⟩ : ∃ L, P1.eraseIdx i0 = L := ⟨_, rfl⟩
       rw [hB2, hP2] at HM
       rw [hP2] at hbd2
       have hm3 : P2.length ≤ 30 := by rw [← hP2, List.length_eraseIdx]; have := HLP1.out; split <;> omega
       have HB2 := Aside0.mk hB2
       have HP2 := Aside0.mk hP2
       have HBD := Aside0.mk hbd2
       clear hB2 hP2 HLP1 HLB1 hbd2
       go_wp2_with (first | (go_at_call 103; with_reducible refine (HS5.out.delB i0 hd0.out ((i0 : Int) + 1) (by omega) B2 HB2.out).mono ?_; rintro e w5 ⟨rfl, ⟨hx1, hx2⟩, hx3⟩; have HS6 := Aside0.mk hx3; have hx4 := hx3.xp; clear hx3) | (go_at_call 103; with_reducible refine (HS6.out.delP i0 hd1.out ((i0 : Int) + 1) (by omega) P2 HP2.out).mono ?_; rintro e w7 ⟨rfl, ⟨hx5, hx6⟩, hx7⟩; have HS7 := Aside0.mk hx7; have hx8 := hx7.xp; clear hx7))
       go_loopg [121] P2.length (fun kq v121 w' => ∃ k : Nat, v121 = .int .i64 (k : Int) ∧ k + kq = P2.length ∧ Aside0 (MS w0 w' xB gB cB gP cP B2 (upTo (pd i0) k P2)))
       case atStart => exact ⟨0, rfl, by omega, ⟨by rw [upTo_zero]; exact HS7.out⟩⟩
       case round =>
        clear HS5 HS6 HS7 hx1 hx2 hx4 hx5 hx6 hx8 z0
        obtain ⟨m, rfl, hk, HS8⟩ := hrel
        by_cases hml : m < P2.length
        ·have hk1 : ((m : Int) < (P2.length : Int)) = True := eq_true (by omega)
         have hk2 : decide ((m : Int) < (P2.length : Int)) = true := decide_eq_true (by omega)
         cases gk with
         | zero => omega
         | succ gm =>
         obtain ⟨y1, y2⟩ := HS8.out.cp m (by rw [upTo_len]; exact hml)
         rw [upTo_rd _ _ hml] at y1
         have y3 := HS8.out.xp
         rw [upTo_len] at y3
         obtain ⟨b1, b2⟩ := HBD.out m hml
         obtain ⟨q, hq⟩ : ∃ q, rd P2 (m : Int) = q := ⟨_, rfl⟩
         rw [hq] at y1 b1 b2
         by_cases hqi : q > (i0 : Int)
         ·have hqb : decide (q > (i0 : Int)) = true := decide_eq_true hqi
          have hqc : decide ((i0 : Int) < q) = true := decide_eq_true hqi
          have HU : Aside0 ((upTo (pd i0) m P2).set m (q - 1) = upTo (pd i0) (m + 1) P2) := ⟨by rw [← upTo_set _ _ hml, hq, pd, if_pos hqi]⟩
          clear hq hqi
          go_wp2
          go_roundg gm
          case measure => omega
          case rel => exact ⟨m + 1, by go_num, by omega, ⟨by rw [← HU.out]; exact HS8.out.setP m (q - 1)⟩⟩
         ·have hqb : decide (q > (i0 : Int)) = false := decide_eq_false hqi
          have hqc : decide ((i0 : Int) < q) = false := decide_eq_false hqi
          have HU : Aside0 (upTo (pd i0) m P2 = upTo (pd i0) (m + 1) P2) := ⟨by rw [upTo_same _ _ hml (by rw [hq, pd, if_neg hqi])]⟩
          clear hq hqi
          go_wp2
          go_roundg gm
          case measure => omega
          case rel => exact ⟨m + 1, by go_num, by omega, ⟨by rw [← HU.out]; exact HS8.out⟩⟩
        ·have hk1 : ((m : Int) < (P2.length : Int)) = False := eq_false (by omega)
         have hk2 : decide ((m : Int) < (P2.length : Int)) = false := decide_eq_false (by omega)
         obtain rfl : m = P2.length := by omega
         have HS9 := Aside0.mk HS8.out
         rw [upTo_all] at HS9
         clear HS8
         go_wp2
         go_ret
         exact .inr ⟨i0, p0, hR0, hp0, rfl, by rw [HM.out.1, HM.out.2]; exact HS9.out⟩
    ·have hb1 : ((d1 : Int) != 0) = true := bne_iff_ne.2 (by omega)
     by_cases h2 : d2 = 0
     ·have hb2 : ((d2 : Int) != 0) = false := by rw [h2]; rfl
      have GO := go (by rw [hK, h2]; simp)
      clear h1 h2 hK go
      go_wp2
      refine start_ (n := 38) (S := fun w' => w'.cell? ⟨xB, 0, none⟩ = some (.slice (some ⟨gB, 0, none⟩) B.length cB) ∧ w'.cell? ⟨gB, i, none⟩ = some (.int .i64 (bi : Int)) ∧ w'.cell? ⟨gB, p, none⟩ = some (.int .i64 (bp : Int))) (ds := []) (Qbz 38 0) (by kernel_rfl) rfl rfl ⟨f0d, f1d, f2d⟩ (fun hHeld => ?_)
      refine pure_ (i := 0) (N := some 19) (v := ?_) (a' := ?_) (Qbz 38 1) rfl rfl (by kernel_rfl) (fun _ _ _ h => h) (Or.inl ⟨by rfl, ?_⟩) ?_ ?_
      rotate_left
      ·intro w'
       go_simp
       with_reducible rfl
      rotate_left
      ·simp only [Act.put, Qp1, Qp2, Qp3, i64_w, i32_w]
       rfl
      refine pure_ (i := 1) (N := some 20) (v := ?_) (a' := ?_) (Qbz 38 3) rfl rfl (by kernel_rfl) (fun _ _ _ h => h) (Or.inl ⟨by rfl, ?_⟩) ?_ ?_
      rotate_left
      ·intro w'
       go_simp
       with_reducible rfl
      rotate_left
      ·simp only [Act.put, Qp1, Qp2, Qp3, i64_w, i32_w]
       rfl
      refine pure_ (i := 2) (N := some 21) (v := ?_) (a' := ?_) (Qbz 38 7) rfl rfl (by kernel_rfl) (fun _ _ _ h => h) (Or.inl ⟨by rfl, ?_⟩) ?_ ?_
      rotate_left
      ·intro w'
       go_simp
       with_reducible rfl
      rotate_left
      ·simp only [Act.put, Qp1, Qp2, Qp3, i64_w, i32_w]
       rfl
      refine pure_ (i := 3) (N := some 22) (v := ?_) (a' := ?_) (Qbz 38 15) rfl rfl (by kernel_rfl) (fun _ _ _ h => h) (Or.inl ⟨by rfl, ?_⟩) ?_ ?_
      rotate_left
      ·intro w'
       go_simp
       with_reducible rfl
      rotate_left
      ·simp only [Act.put, Qp1, Qp2, Qp3, i64_w, i32_w]
       rfl
      refine pure_ (i := 4) (N := some 23) (v := ?_) (a' := ?_) (Qbz 38 31) rfl rfl (by kernel_rfl) (fun _ _ _ h => h) (Or.inl ⟨by rfl, ?_⟩) ?_ ?_
      rotate_left
      ·intro w'
       go_simp
       with_reducible rfl
      rotate_left
      ·simp only [Act.put, Qp1, Qp2, Qp3, i64_w, i32_w]
       rfl
      refine pure_ (i := 5) (N := some 24) (v := ?_) (a' := ?_) (Qbz 38 63) rfl rfl (by kernel_rfl) (fun _ _ _ h => h) (Or.inl ⟨by rfl, ?_⟩) ?_ ?_
      rotate_left
      ·intro w'
       go_simp
       with_reducible rfl
      rotate_left
      ·simp only [Act.put, Qp1, Qp2, Qp3, i64_w, i32_w]
       rfl
      refine pure_ (i := 7) (N := some 26) (v := ?_) (a' := ?_) (Qbz 38 191) rfl rfl (by kernel_rfl) (fun _ _ _ h => h) (Or.inl ⟨by rfl, ?_⟩) ?_ ?_
      rotate_left
      ·intro w'
       go_simp
       with_reducible rfl
      rotate_left
      ·simp only [Act.put, Qp1, Qp2, Qp3, i64_w, i32_w]
       rfl
      refine pure_ (i := 10) (N := some 29) (v := ?_) (a' := ?_) (Qbz 38 1215) rfl rfl (by kernel_rfl) (fun _ _ _ h => h) (Or.inl ⟨by rfl, ?_⟩) ?_ ?_
      rotate_left
      ·intro w'
       go_simp
       with_reducible rfl
      rotate_left
      ·simp only [Act.put, Qp1, Qp2, Qp3, i64_w, i32_w]
       rfl
      refine pure_ (i := 11) (N := some 30) (v := ?_) (a' := ?_) (Qbz 38 3263) rfl rfl (by kernel_rfl) (fun _ _ _ h => h) (Or.inl ⟨by rfl, ?_⟩) ?_ ?_
      rotate_left
      ·intro w'
       go_simp
       with_reducible rfl
      rotate_left
      ·simp only [Act.put, Qp1, Qp2, Qp3, i64_w, i32_w]
       rfl
      refine pure_ (i := 12) (N := some 31) (v := ?_) (a' := ?_) (Qbz 38 7359) rfl rfl (by kernel_rfl) (fun _ _ _ h => h) (Or.inl ⟨by rfl, ?_⟩) ?_ ?_
      rotate_left
      ·intro w'
       go_simp
       with_reducible rfl
      rotate_left
      ·simp only [Act.put, Qp1, Qp2, Qp3, i64_w, i32_w]
       rfl
      refine pure_ (i := 14) (N := some 33) (v := ?_) (a' := ?_) (Qbz 38 23743) rfl rfl (by kernel_rfl) (fun _ _ _ h => h) (Or.inl ⟨by rfl, ?_⟩) ?_ ?_
      rotate_left
      ·intro w'
       go_simp
       with_reducible rfl
      rotate_left
      ·simp only [Act.put, Qp1, Qp2, Qp3, i64_w, i32_w]
       rfl
      refine take_ (i := 6) (N := some 25) (v := ?_) (a' := ?_) (Qbz 38 23807) rfl rfl (by kernel_rfl) (fun _ _ _ h => h) (Or.inl ⟨by rfl, ?_⟩) hHeld ?_ ?_
      rotate_left
      ·rintro w' ⟨s0, s1, s2⟩
       go_simp
       with_reducible rfl
      rotate_left
      ·simp only [Act.put, Qp1, Qp2, Qp3, i64_w, i32_w]
       rfl
      refine pure_ (i := 8) (N := some 27) (v := ?_) (a' := ?_) (Qbz 38 24063) rfl rfl (by kernel_rfl) (fun _ _ _ h => h) (Or.inl ⟨by rfl, ?_⟩) ?_ ?_
      rotate_left
      ·intro w'
       go_simp
       with_reducible rfl
      rotate_left
      ·simp only [Act.put, Qp1, Qp2, Qp3, i64_w, i32_w]
       rfl
      refine take_ (i := 9) (N := some 28) (v := ?_) (a' := ?_) (Qbz 38 24575) rfl rfl (by kernel_rfl) (fun _ _ _ h => h) (Or.inl ⟨by rfl, ?_⟩) hHeld ?_ ?_
      rotate_left
      ·rintro w' ⟨s0, s1, s2⟩
       go_simp
       with_reducible rfl
      rotate_left
      ·simp only [Act.put, Qp1, Qp2, Qp3, i64_w, i32_w]
       rfl
      refine take_ (i := 13) (N := some 32) (v := ?_) (a' := ?_) (Qbz 38 32767) rfl rfl (by kernel_rfl) (fun _ _ _ h => h) (Or.inl ⟨by rfl, ?_⟩) hHeld ?_ ?_
      rotate_left
      ·rintro w' ⟨s0, s1, s2⟩
       go_simp
       with_reducible rfl
      rotate_left
      ·simp only [Act.put, Qp1, Qp2, Qp3, i64_w, i32_w]
       rfl
      refine pure_ (i := 15) (N := some 34) (v := ?_) (a' := ?_) (Qbz 38 65535) rfl rfl (by kernel_rfl) (fun _ _ _ h => h) (Or.inl ⟨by rfl, ?_⟩) ?_ ?_
      rotate_left
      ·intro w'
       go_simp
       with_reducible rfl
      rotate_left
      ·simp only [Act.put, Qp1, Qp2, Qp3, i64_w, i32_w]
       rfl
      refine take_ (i := 16) (N := some 35) (v := ?_) (a' := ?_) (Qbz 38 131071) rfl rfl (by kernel_rfl) (fun _ _ _ h => h) (Or.inl ⟨by rfl, ?_⟩) hHeld ?_ ?_
      rotate_left
      ·rintro w' ⟨s0, s1, s2⟩
       go_simp
       with_reducible rfl
      rotate_left
      ·simp only [Act.put, Qp1, Qp2, Qp3, i64_w, i32_w]
       rfl
      refine pure_ (i := 17) (N := some 36) (v := ?_) (a' := ?_) (Qbz 38 262143) rfl rfl (by kernel_rfl) (fun _ _ _ h => h) (Or.inl ⟨by rfl, ?_⟩) ?_ ?_
      rotate_left
      ·intro w'
       go_simp
       with_reducible rfl
      rotate_left
      ·simp only [Act.put, Qp1, Qp2, Qp3, i64_w, i32_w]
       rfl
      refine pure_ (i := 18) (N := some 37) (v := ?_) (a' := ?_) (Qbz 38 524287) rfl rfl (by kernel_rfl) (fun _ _ _ h => h) (Or.inl ⟨by rfl, ?_⟩) ?_ ?_
      rotate_left
      ·intro w'
       go_simp
       with_reducible rfl
      rotate_left
      ·simp only [Act.put, Qp1, Qp2, Qp3, i64_w, i32_w]
       rfl
      refine pure_ (i := 19) (N := some 38) (v := ?_) (a' := ?_) (Qbz 38 1048575) rfl rfl (by kernel_rfl) (fun _ _ _ h => h) (Or.inl ⟨by rfl, ?_⟩) ?_ ?_
      rotate_left
      ·intro w'
       go_simp
       with_reducible rfl
      rotate_left
      ·simp only [Act.put, Qp1, Qp2, Qp3, i64_w, i32_w]
       rfl
      refine pure_ (i := 20) (N := some 39) (v := ?_) (a' := ?_) (Qbz 38 2097151) rfl rfl (by kernel_rfl) (fun _ _ _ h => h) (Or.inl ⟨by rfl, ?_⟩) ?_ ?_
      rotate_left
      ·intro w'
       go_simp
       with_reducible rfl
      rotate_left
      ·simp only [Act.put, Qp1, Qp2, Qp3, i64_w, i32_w]
       rfl
      refine pure_ (i := 21) (N := some 40) (v := ?_) (a' := ?_) (Qbz 38 4194303) rfl rfl (by kernel_rfl) (fun _ _ _ h => h) (Or.inl ⟨by rfl, ?_⟩) ?_ ?_
      rotate_left
      ·intro w'
       go_simp
       with_reducible rfl
      rotate_left
      ·simp only [Act.put, Qp1, Qp2, Qp3, i64_w, i32_w]
       rfl
      refine pure_ (i := 22) (N := some 41) (v := ?_) (a' := ?_) (Qbz 38 8388607) rfl rfl (by kernel_rfl) (fun _ _ _ h => h) (Or.inl ⟨by rfl, ?_⟩) ?_ ?_
      rotate_left
      ·intro w'
       go_simp
       with_reducible rfl
      rotate_left
      ·simp only [Act.put, Qp1, Qp2, Qp3, i64_w, i32_w]
       rfl
      refine pure_ (i := 24) (N := some 43) (v := ?_) (a' := ?_) (Qbz 38 25165823) rfl rfl (by kernel_rfl) (fun _ _ _ h => h) (Or.inl ⟨by rfl, ?_⟩) ?_ ?_
      rotate_left
      ·intro w'
       go_simp
       with_reducible rfl
      rotate_left
      ·simp only [Act.put, Qp1, Qp2, Qp3, i64_w, i32_w]
       rfl
      refine pure_ (i := 27) (N := some 46) (v := ?_) (a' := ?_) (Qbz 38 159383551) rfl rfl (by kernel_rfl) (fun _ _ _ h => h) (Or.inl ⟨by rfl, ?_⟩) ?_ ?_
      rotate_left
      ·intro w'
       go_simp
       with_reducible rfl
      rotate_left
      ·simp only [Act.put, Qp1, Qp2, Qp3, i64_w, i32_w]
       rfl
      refine pure_ (i := 28) (N := some 47) (v := ?_) (a' := ?_) (Qbz 38 427819007) rfl rfl (by kernel_rfl) (fun _ _ _ h => h) (Or.inl ⟨by rfl, ?_⟩) ?_ ?_
      rotate_left
      ·intro w'
       go_simp
       with_reducible rfl
      rotate_left
      ·simp only [Act.put, Qp1, Qp2, Qp3, i64_w, i32_w]
       rfl
      refine pure_ (i := 29) (N := some 48) (v := ?_) (a' := ?_) (Qbz 38 964689919) rfl rfl (by kernel_rfl) (fun _ _ _ h => h) (Or.inl ⟨by rfl, ?_⟩) ?_ ?_
      rotate_left
      ·intro w'
       go_simp
       with_reducible rfl
      rotate_left
      ·simp only [Act.put, Qp1, Qp2, Qp3, i64_w, i32_w]
       rfl
      refine pure_ (i := 31) (N := some 50) (v := ?_) (a' := ?_) (Qbz 38 3112173567) rfl rfl (by kernel_rfl) (fun _ _ _ h => h) (Or.inl ⟨by rfl, ?_⟩) ?_ ?_
      rotate_left
      ·intro w'
       go_simp
       with_reducible rfl
      rotate_left
      ·simp only [Act.put, Qp1, Qp2, Qp3, i64_w, i32_w]
       rfl
      refine take_ (i := 23) (N := some 42) (v := ?_) (a' := ?_) (Qbz 38 3120562175) rfl rfl (by kernel_rfl) (fun _ _ _ h => h) (Or.inl ⟨by rfl, ?_⟩) hHeld ?_ ?_
      rotate_left
      ·rintro w' ⟨s0, s1, s2⟩
       go_simp
       with_reducible rfl
      rotate_left
      ·simp only [Act.put, Qp1, Qp2, Qp3, i64_w, i32_w]
       rfl
      refine pure_ (i := 25) (N := some 44) (v := ?_) (a' := ?_) (Qbz 38 3154116607) rfl rfl (by kernel_rfl) (fun _ _ _ h => h) (Or.inl ⟨by rfl, ?_⟩) ?_ ?_
      rotate_left
      ·intro w'
       go_simp
       with_reducible rfl
      rotate_left
      ·simp only [Act.put, Qp1, Qp2, Qp3, i64_w, i32_w]
       rfl
      refine take_ (i := 26) (N := some 45) (v := ?_) (a' := ?_) (Qbz 38 3221225471) rfl rfl (by kernel_rfl) (fun _ _ _ h => h) (Or.inl ⟨by rfl, ?_⟩) hHeld ?_ ?_
      rotate_left
      ·rintro w' ⟨s0, s1, s2⟩
       go_simp
       with_reducible rfl
      rotate_left
      ·simp only [Act.put, Qp1, Qp2, Qp3, i64_w, i32_w]
       rfl
      refine take_ (i := 30) (N := some 49) (v := ?_) (a' := ?_) (Qbz 38 4294967295) rfl rfl (by kernel_rfl) (fun _ _ _ h => h) (Or.inl ⟨by rfl, ?_⟩) hHeld ?_ ?_
      rotate_left
      ·rintro w' ⟨s0, s1, s2⟩
       go_simp
       with_reducible rfl
      rotate_left
      ·simp only [Act.put, Qp1, Qp2, Qp3, i64_w, i32_w]
       rfl
      refine pure_ (i := 32) (N := some 51) (v := ?_) (a' := ?_) (Qbz 38 8589934591) rfl rfl (by kernel_rfl) (fun _ _ _ h => h) (Or.inl ⟨by rfl, ?_⟩) ?_ ?_
      rotate_left
      ·intro w'
       go_simp
       with_reducible rfl
      rotate_left
      ·simp only [Act.put, Qp1, Qp2, Qp3, i64_w, i32_w]
       rfl
      refine take_ (i := 33) (N := some 52) (v := ?_) (a' := ?_) (Qbz 38 17179869183) rfl rfl (by kernel_rfl) (fun _ _ _ h => h) (Or.inl ⟨by rfl, ?_⟩) hHeld ?_ ?_
      rotate_left
      ·rintro w' ⟨s0, s1, s2⟩
       go_simp
       with_reducible rfl
      rotate_left
      ·simp only [Act.put, Qp1, Qp2, Qp3, i64_w, i32_w]
       rfl
      refine pure_ (i := 34) (N := some 53) (v := ?_) (a' := ?_) (Qbz 38 34359738367) rfl rfl (by kernel_rfl) (fun _ _ _ h => h) (Or.inl ⟨by rfl, ?_⟩) ?_ ?_
      rotate_left
      ·intro w'
       go_simp
       with_reducible rfl
      rotate_left
      ·simp only [Act.put, Qp1, Qp2, Qp3, i64_w, i32_w]
       rfl
      refine pure_ (i := 35) (N := some 54) (v := ?_) (a' := ?_) (Qbz 38 68719476735) rfl rfl (by kernel_rfl) (fun _ _ _ h => h) (Or.inl ⟨by rfl, ?_⟩) ?_ ?_
      rotate_left
      ·intro w'
       go_simp
       with_reducible rfl
      rotate_left
      ·simp only [Act.put, Qp1, Qp2, Qp3, i64_w, i32_w]
       rfl
      refine pure_ (i := 36) (N := some 55) (v := ?_) (a' := ?_) (Qbz 38 137438953471) rfl rfl (by kernel_rfl) (fun _ _ _ h => h) (Or.inl ⟨by rfl, ?_⟩) ?_ ?_
      rotate_left
      ·intro w'
       go_simp
       with_reducible rfl
      rotate_left
      ·simp only [Act.put, Qp1, Qp2, Qp3, i64_w, i32_w]
       rfl
      refine pure_ (i := 37) (N := some 56) (v := ?_) (a' := ?_) (Qbz 38 274877906943) rfl rfl (by kernel_rfl) (fun _ _ _ h => h) (Or.inl ⟨by rfl, ?_⟩) ?_ ?_
      rotate_left
      ·intro w'
       go_simp
       with_reducible rfl
      rotate_left
      ·simp only [Act.put, Qp1, Qp2, Qp3, i64_w, i32_w]
       rfl
      refine done_ (by kernel_rfl) ?_
      go_wp2
      obtain ⟨i0, p0, hR0, hp0, rfl, rfl⟩ := GO.out
      clear GO hHeld f0d f1d f2d c1 e1 e2 hd1 HL HR
      have HS2 := Aside0.mk HS.out.drew
      clear HS
      generalize wr.drew = w2 at *
      have f0d : w2.drew.cell? ⟨xB, 0, none⟩ = some (.slice (some ⟨gB, 0, none⟩) B.length cB) := HS2.out.xb
      have f1d : w2.drew.cell? ⟨gB, i0, none⟩ = some (.int .i64 (bi : Int)) := F1.out
      have f2d : w2.drew.cell? ⟨gB, p0, none⟩ = some (.int .i64 (bp : Int)) := F2.out
      have f3d : w2.drew.frozen? ⟨gB, p0, none⟩ = false := (HS2.out.cb p0 hp).2
      refine start_ (n := 17) (S := fun w' => w'.cell? ⟨xB, 0, none⟩ = some (.slice (some ⟨gB, 0, none⟩) B.length cB) ∧ w'.cell? ⟨gB, i0, none⟩ = some (.int .i64 (bi : Int)) ∧ w'.cell? ⟨gB, p0, none⟩ = some (.int .i64 (bp : Int)) ∧ w'.frozen? ⟨gB, p0, none⟩ = false) (ds := [16]) (Qbz 17 0) (by kernel_rfl) rfl rfl ⟨f0d, f1d, f2d, f3d⟩ (fun hHeld => ?_)
      refine pure_ (i := 0) (N := some 57) (v := ?_) (a' := ?_) (Qbz 17 1) rfl rfl (by kernel_rfl) (fun _ _ _ h => h) (Or.inl ⟨by rfl, ?_⟩) ?_ ?_
      rotate_left
      ·intro w'
       go_simp
       with_reducible rfl
      rotate_left
      ·simp only [Act.put, Qp1, Qp2, Qp3, i64_w, i32_w]
       rfl
      refine pure_ (i := 1) (N := some 58) (v := ?_) (a' := ?_) (Qbz 17 3) rfl rfl (by kernel_rfl) (fun _ _ _ h => h) (Or.inl ⟨by rfl, ?_⟩) ?_ ?_
      rotate_left
      ·intro w'
       go_simp
       with_reducible rfl
      rotate_left
      ·simp only [Act.put, Qp1, Qp2, Qp3, i64_w, i32_w]
       rfl
      refine pure_ (i := 2) (N := some 59) (v := ?_) (a' := ?_) (Qbz 17 7) rfl rfl (by kernel_rfl) (fun _ _ _ h => h) (Or.inl ⟨by rfl, ?_⟩) ?_ ?_
      rotate_left
      ·intro w'
       go_simp
       with_reducible rfl
      rotate_left
      ·simp only [Act.put, Qp1, Qp2, Qp3, i64_w, i32_w]
       rfl
      refine pure_ (i := 4) (N := some 61) (v := ?_) (a' := ?_) (Qbz 17 23) rfl rfl (by kernel_rfl) (fun _ _ _ h => h) (Or.inl ⟨by rfl, ?_⟩) ?_ ?_
      rotate_left
      ·intro w'
       go_simp
       with_reducible rfl
      rotate_left
      ·simp only [Act.put, Qp1, Qp2, Qp3, i64_w, i32_w]
       rfl
      refine pure_ (i := 7) (N := some 64) (v := ?_) (a' := ?_) (Qbz 17 151) rfl rfl (by kernel_rfl) (fun _ _ _ h => h) (Or.inl ⟨by rfl, ?_⟩) ?_ ?_
      rotate_left
      ·intro w'
       go_simp
       with_reducible rfl
      rotate_left
      ·simp only [Act.put, Qp1, Qp2, Qp3, i64_w, i32_w]
       rfl
      refine pure_ (i := 8) (N := some 65) (v := ?_) (a' := ?_) (Qbz 17 407) rfl rfl (by kernel_rfl) (fun _ _ _ h => h) (Or.inl ⟨by rfl, ?_⟩) ?_ ?_
      rotate_left
      ·intro w'
       go_simp
       with_reducible rfl
      rotate_left
      ·simp only [Act.put, Qp1, Qp2, Qp3, i64_w, i32_w]
       rfl
      refine pure_ (i := 9) (N := some 66) (v := ?_) (a' := ?_) (Qbz 17 919) rfl rfl (by kernel_rfl) (fun _ _ _ h => h) (Or.inl ⟨by rfl, ?_⟩) ?_ ?_
      rotate_left
      ·intro w'
       go_simp
       with_reducible rfl
      rotate_left
      ·simp only [Act.put, Qp1, Qp2, Qp3, i64_w, i32_w]
       rfl
      refine pure_ (i := 11) (N := some 68) (v := ?_) (a' := ?_) (Qbz 17 2967) rfl rfl (by kernel_rfl) (fun _ _ _ h => h) (Or.inl ⟨by rfl, ?_⟩) ?_ ?_
      rotate_left
      ·intro w'
       go_simp
       with_reducible rfl
      rotate_left
      ·simp only [Act.put, Qp1, Qp2, Qp3, i64_w, i32_w]
       rfl
      refine take_ (i := 3) (N := some 60) (v := ?_) (a' := ?_) (Qbz 17 2975) rfl rfl (by kernel_rfl) (fun _ _ _ h => h) (Or.inl ⟨by rfl, ?_⟩) hHeld ?_ ?_
      rotate_left
      ·rintro w' ⟨s0, s1, s2, s3⟩
       go_simp
       with_reducible rfl
      rotate_left
      ·simp only [Act.put, Qp1, Qp2, Qp3, i64_w, i32_w]
       rfl
      refine pure_ (i := 5) (N := some 62) (v := ?_) (a' := ?_) (Qbz 17 3007) rfl rfl (by kernel_rfl) (fun _ _ _ h => h) (Or.inl ⟨by rfl, ?_⟩) ?_ ?_
      rotate_left
      ·intro w'
       go_simp
       with_reducible rfl
      rotate_left
      ·simp only [Act.put, Qp1, Qp2, Qp3, i64_w, i32_w]
       rfl
      refine take_ (i := 6) (N := some 63) (v := ?_) (a' := ?_) (Qbz 17 3071) rfl rfl (by kernel_rfl) (fun _ _ _ h => h) (Or.inl ⟨by rfl, ?_⟩) hHeld ?_ ?_
      rotate_left
      ·rintro w' ⟨s0, s1, s2, s3⟩
       go_simp
       with_reducible rfl
      rotate_left
      ·simp only [Act.put, Qp1, Qp2, Qp3, i64_w, i32_w]
       rfl
      refine take_ (i := 10) (N := some 67) (v := ?_) (a' := ?_) (Qbz 17 4095) rfl rfl (by kernel_rfl) (fun _ _ _ h => h) (Or.inl ⟨by rfl, ?_⟩) hHeld ?_ ?_
      rotate_left
      ·rintro w' ⟨s0, s1, s2, s3⟩
       go_simp
       with_reducible rfl
      rotate_left
      ·simp only [Act.put, Qp1, Qp2, Qp3, i64_w, i32_w]
       rfl
      refine pure_ (i := 12) (N := some 69) (v := ?_) (a' := ?_) (Qbz 17 8191) rfl rfl (by kernel_rfl) (fun _ _ _ h => h) (Or.inl ⟨by rfl, ?_⟩) ?_ ?_
      rotate_left
      ·intro w'
       go_simp
       with_reducible rfl
      rotate_left
      ·simp only [Act.put, Qp1, Qp2, Qp3, i64_w, i32_w]
       rfl
      refine take_ (i := 13) (N := some 70) (v := ?_) (a' := ?_) (Qbz 17 16383) rfl rfl (by kernel_rfl) (fun _ _ _ h => h) (Or.inl ⟨by rfl, ?_⟩) hHeld ?_ ?_
      rotate_left
      ·rintro w' ⟨s0, s1, s2, s3⟩
       go_simp
       with_reducible rfl
      rotate_left
      ·simp only [Act.put, Qp1, Qp2, Qp3, i64_w, i32_w]
       rfl
      refine pure_ (i := 14) (N := some 71) (v := ?_) (a' := ?_) (Qbz 17 32767) rfl rfl (by kernel_rfl) (fun _ _ _ h => h) (Or.inl ⟨by rfl, ?_⟩) ?_ ?_
      rotate_left
      ·intro w'
       go_simp
       with_reducible rfl
      rotate_left
      ·simp only [Act.put, Qp1, Qp2, Qp3, i64_w, i32_w]
       rfl
      refine pure_ (i := 15) (N := some 72) (v := ?_) (a' := ?_) (Qbz 17 65535) rfl rfl (by kernel_rfl) (fun _ _ _ h => h) (Or.inl ⟨by rfl, ?_⟩) ?_ ?_
      rotate_left
      ·intro w'
       go_simp
       with_reducible rfl
      rotate_left
      ·simp only [Act.put, Qp1, Qp2, Qp3, i64_w, i32_w]
       rfl
      refine last_ (i := 16) (N := none) (Qbz 17 131071) rfl rfl (by kernel_rfl) (by decide) (fun K hK => ?_)
      refine skip_ (w1 := ?_) (by rfl) rfl ?_ ?_
      rotate_left
      ·go_simp
       rfl
      refine hK.out _ _ ?_
      clear hK K
      refine done_ (by kernel_rfl) ?_
      have HS3 : Aside0 (MS w0 ((w2.setCell ⟨gB, p0, none⟩ (.int .i64 (bx : Int))).drew) xB gB cB gP cP (B.set p0 (bx : Int)) P) := ⟨(HS2.out.setB p0 (bx : Int)).drew⟩
      generalize (w2.setCell ⟨gB, p0, none⟩ (.int .i64 (bx : Int))).drew = w3 at *
      obtain ⟨B1, hB1⟩ : ∃ L, B.set p0 (bx : Int) = L := ⟨_, rfl⟩
      have HLB1 : Aside0 (B1.length = B.length) := ⟨by rw [← hB1, List.length_set]⟩
      rw [hB1] at HS3 HM
      clear HS2 f0d f1d f2d f3d hHeld e3 F1 F2 hB1
      have x1 := HS3.out.xp
      go_wp2
      go_loopg [78] P.length (fun kq v78 w' => ∃ k : Nat, v78 = .int .i64 (k : Int) ∧ k + kq = P.length ∧ Aside0 (MS w0 w' xB gB cB gP cP B1 (upTo (pa i0 p0) k P)))
      case atStart => exact ⟨0, rfl, by omega, ⟨by rw [upTo_zero]; exact HS3.out⟩⟩
      case round =>
       clear HS3 x1
       obtain ⟨k, rfl, hk, HS4⟩ := hrel
       by_cases hkl : k < P.length
       ·have hk1 : ((k : Int) < (P.length : Int)) = True := eq_true (by omega)
        have hk2 : decide ((k : Int) < (P.length : Int)) = true := decide_eq_true (by omega)
        cases gk with
        | zero => omega
        | succ gk' =>
        obtain ⟨y1, y2⟩ := HS4.out.cp k (by rw [upTo_len]; exact hkl)
        rw [upTo_rd _ _ hkl] at y1
        have y3 := HS4.out.xp
        rw [upTo_len] at y3
        obtain ⟨q, hq⟩ : ∃ q, rd P (k : Int) = q := ⟨_, rfl⟩
        rw [hq] at y1
        by_cases hqi : q = (i0 : Int)
        ·have hqb : (q == (i0 : Int)) = true := by rw [hqi]; simp
         have HU : Aside0 ((upTo (pa i0 p0) k P).set k (p0 : Int) = upTo (pa i0 p0) (k + 1) P) := ⟨by rw [← upTo_set _ _ hkl, hq, pa, if_pos hqi]⟩
         clear hq hqi
         go_wp2
         go_roundg gk'
         case measure => omega
         case rel => exact ⟨k + 1, by go_num, by omega, ⟨by rw [← HU.out]; exact HS4.out.setP k (p0 : Int)⟩⟩
        ·have hqb : (q == (i0 : Int)) = false := beq_eq_false_iff_ne.2 hqi
         have HU : Aside0 (upTo (pa i0 p0) k P = upTo (pa i0 p0) (k + 1) P) := ⟨by rw [upTo_same _ _ hkl (by rw [hq, pa, if_neg hqi])]⟩
         clear hq hqi
         go_wp2
         go_roundg gk'
         case measure => omega
         case rel => exact ⟨k + 1, by go_num, by omega, ⟨by rw [← HU.out]; exact HS4.out⟩⟩
       ·have hk1 : ((k : Int) < (P.length : Int)) = False := eq_false (by omega)
        have hk2 : decide ((k : Int) < (P.length : Int)) = false := decide_eq_false (by omega)
        obtain rfl : k = P.length := by omega
        have HS5 := Aside0.mk HS4.out
        rw [upTo_all] at HS5
        have hbd2 : ∀ k : Nat, k < ((P.map (pa i0 p0)).eraseIdx i0).length → -1 ≤ rd ((P.map (pa i0 p0)).eraseIdx i0) (k : Int) ∧ rd ((P.map (pa i0 p0)).eraseIdx i0) (k : Int) < 31 := by
         intro k hk
         have hu : T.up i0 k < P.length := by
          rw [List.length_eraseIdx, if_pos (by rw [List.length_map]; exact hil), List.length_map] at hk
          unfold T.up; split <;> omega
         rw [rd_erase, rd_map _ _ _ hu]
         obtain ⟨t1, t2, _, _⟩ := HT.out.inn _ (show T.up i0 k < B.length by have := HLEN.out; omega)
         unfold pa
         split <;> omega
        obtain ⟨P1, hP1⟩ : ∃ L, P.map (pa i0 p0) = L := ⟨_, rfl⟩
        have HLP1 : Aside0 (P1.length = P.length) := ⟨by rw [← hP1, List.length_map]⟩
        rw [hP1] at HS5 HM hbd2
        clear HS4 hP1
        have z0 := HS5.out.xb
        have hd0 : Aside0 (i0 < B1.length) := ⟨by have := HLEN.out; have := HLB1.out; omega⟩
        have hd1 : Aside0 (i0 < P1.length) := ⟨by have := HLP1.out; omega⟩
        obtain ⟨B2, hB2⟩ : ∃ L, B1.eraseIdx i0 = L := ⟨_, rfl⟩
        obtain ⟨P2, hP2⟩ : ∃ L, P1.eraseIdx i0 = L := ⟨_, rfl⟩
        rw [hB2, hP2] at HM
        rw [hP2] at hbd2
        have hm3 : P2.length ≤ 30 := by rw [← hP2, List.length_eraseIdx]; have := HLP1.out; split <;> omega
        have HB2 := Aside0.mk hB2
        have HP2 := Aside0.mk hP2
        have HBD := Aside0.mk hbd2
        clear hB2 hP2 HLP1 HLB1 hbd2
        go_wp2_with (first | (go_at_call 103; with_reducible refine (HS5.out.delB i0 hd0.out ((i0 : Int) + 1) (by omega) B2 HB2.out).mono ?_; rintro e w5 ⟨rfl, ⟨hx1, hx2⟩, hx3⟩; have HS6 := Aside0.mk hx3; have hx4 := hx3.xp; clear hx3) | (go_at_call 103; with_reducible refine (HS6.out.delP i0 hd1.out ((i0 : Int) + 1) (by omega) P2 HP2.out).mono ?_; rintro e w7 ⟨rfl, ⟨hx5, hx6⟩, hx7⟩; have HS7 := Aside0.mk hx7; have hx8 := hx7.xp; clear hx7))
        go_loopg [121] P2.length (fun kq v121 w' => ∃ k : Nat, v121 = .int .i64 (k : Int) ∧ k + kq = P2.length ∧ Aside0 (MS w0 w' xB gB cB gP cP B2 (upTo (pd i0) k P2)))
        case atStart => exact ⟨0, rfl, by omega, ⟨by rw [upTo_zero]; exact HS7.out⟩⟩
        case round =>
         clear HS5 HS6 HS7 hx1 hx2 hx4 hx5 hx6 hx8 z0
         obtain ⟨m, rfl, hk, HS8⟩ := hrel
         by_cases hml : m < P2.length
         ·have hk1 : ((m : Int) < (P2.length : Int)) = True := eq_true (by omega)
          have hk2 : decide ((m : Int) < (P2.length : Int)) = true := decide_eq_true (by omega)
          cases gk with
          | zero => omega
          | succ gm =>
          obtain ⟨y1, y2⟩ := HS8.out.cp m (by rw [upTo_len]; exact hml)
          rw [upTo_rd _ _ hml] at y1
          have y3 := HS8.out.xp
          rw [upTo_len] at y3
          obtain ⟨b1, b2⟩ := HBD.out m hml
          obtain ⟨q, hq⟩ : ∃ q, rd P2 (m : Int) = q := ⟨_, rfl⟩
          rw [hq] at y1 b1 b2
          by_cases hqi : q > (i0 : Int)
          ·have hqb : decide (q > (i0 : Int)) = true := decide_eq_true hqi
           have hqc : decide ((i0 : Int) < q) = true := decide_eq_true hqi
           have HU : Aside0 ((upTo (pd i0) m P2).set m (q - 1) = upTo (pd i0) (m + 1) P2) := ⟨by rw [← upTo_set _ _ hml, hq, pd, if_pos hqi]⟩
           clear hq hqi
           go_wp2
           go_roundg gm
           case measure => omega
           case rel => exact ⟨m + 1, by go_num, by omega, ⟨by rw [← HU.out]; exact HS8.out.setP m (q - 1)⟩⟩
          ·have hqb : decide (q > (i0 : Int)) = false := decide_eq_false hqi
           have hqc : decide ((i0 : Int) < q) = false := decide_eq_false hqi
           have HU : Aside0 (upTo (pd i0) m P2 = upTo (pd i0) (m + 1) P2) := ⟨by rw [upTo_same _ _ hml (by rw [hq, pd, if_neg hqi])]⟩
           clear hq hqi
           go_wp2
           go_roundg gm
           case measure => omega
           case rel => exact ⟨m + 1, by go_num, by omega, ⟨by rw [← HU.out]; exact HS8.out⟩⟩
         ·have hk1 : ((m : Int) < (P2.length : Int)) = False := eq_false (by omega)
          have hk2 : decide ((m : Int) < (P2.length : Int)) = false := decide_eq_false (by omega)
          obtain rfl : m = P2.length := by omega
          have HS9 := Aside0.mk HS8.out
          rw [upTo_all] at HS9
          clear HS8
          go_wp2
          go_ret
          exact .inr ⟨i0, p0, hR0, hp0, rfl, by rw [HM.out.1, HM.out.2]; exact HS9.out⟩
     ·have hb2 : ((d2 : Int) != 0) = true := bne_iff_ne.2 (by omega)
      have HK : Aside0 (okM B P i = false) := ⟨by rw [hK, decide_eq_false h1, decide_eq_false h2]; rfl⟩
      clear h1 h2 hK go
      go_wp2
      refine start_ (n := 38) (S := fun w' => w'.cell? ⟨xB, 0, none⟩ = some (.slice (some ⟨gB, 0, none⟩) B.length cB) ∧ w'.cell? ⟨gB, i, none⟩ = some (.int .i64 (bi : Int)) ∧ w'.cell? ⟨gB, p, none⟩ = some (.int .i64 (bp : Int))) (ds := []) (Qbz 38 0) (by kernel_rfl) rfl rfl ⟨f0d, f1d, f2d⟩ (fun hHeld => ?_)
      refine pure_ (i := 0) (N := some 19) (v := ?_) (a' := ?_) (Qbz 38 1) rfl rfl (by kernel_rfl) (fun _ _ _ h => h) (Or.inl ⟨by rfl, ?_⟩) ?_ ?_
      rotate_left
      ·intro w'
       go_simp
       with_reducible rfl
      rotate_left
      ·simp only [Act.put, Qp1, Qp2, Qp3, i64_w, i32_w]
       rfl
      refine pure_ (i := 1) (N := some 20) (v := ?_) (a' := ?_) (Qbz 38 3) rfl rfl (by kernel_rfl) (fun _ _ _ h => h) (Or.inl ⟨by rfl, ?_⟩) ?_ ?_
      rotate_left
      ·intro w'
       go_simp
       with_reducible rfl
      rotate_left
      ·simp only [Act.put, Qp1, Qp2, Qp3, i64_w, i32_w]
       rfl
      refine pure_ (i := 2) (N := some 21) (v := ?_) (a' := ?_) (Qbz 38 7) rfl rfl (by kernel_rfl) (fun _ _ _ h => h) (Or.inl ⟨by rfl, ?_⟩) ?_ ?_
      rotate_left
      ·intro w'
       go_simp
       with_reducible rfl
      rotate_left
      ·simp only [Act.put, Qp1, Qp2, Qp3, i64_w, i32_w]
       rfl
      refine pure_ (i := 3) (N := some 22) (v := ?_) (a' := ?_) (Qbz 38 15) rfl rfl (by kernel_rfl) (fun _ _ _ h => h) (Or.inl ⟨by rfl, ?_⟩) ?_ ?_
      rotate_left
      ·intro w'
       go_simp
       with_reducible rfl
      rotate_left
      ·simp only [Act.put, Qp1, Qp2, Qp3, i64_w, i32_w]
       rfl
      refine pure_ (i := 4) (N := some 23) (v := ?_) (a' := ?_) (Qbz 38 31) rfl rfl (by kernel_rfl) (fun _ _ _ h => h) (Or.inl ⟨by rfl, ?_⟩) ?_ ?_
      rotate_left
      ·intro w'
       go_simp
       with_reducible rfl
      rotate_left
      ·simp only [Act.put, Qp1, Qp2, Qp3, i64_w, i32_w]
       rfl
      refine pure_ (i := 5) (N := some 24) (v := ?_) (a' := ?_) (Qbz 38 63) rfl rfl (by kernel_rfl) (fun _ _ _ h => h) (Or.inl ⟨by rfl, ?_⟩) ?_ ?_
      rotate_left
      ·intro w'
       go_simp
       with_reducible rfl
      rotate_left
      ·simp only [Act.put, Qp1, Qp2, Qp3, i64_w, i32_w]
       rfl
      refine pure_ (i := 7) (N := some 26) (v := ?_) (a' := ?_) (Qbz 38 191) rfl rfl (by kernel_rfl) (fun _ _ _ h => h) (Or.inl ⟨by rfl, ?_⟩) ?_ ?_
      rotate_left
      ·intro w'
       go_simp
       with_reducible rfl
      rotate_left
      ·simp only [Act.put, Qp1, Qp2, Qp3, i64_w, i32_w]
       rfl
      refine pure_ (i := 10) (N := some 29) (v := ?_) (a' := ?_) (Qbz 38 1215) rfl rfl (by kernel_rfl) (fun _ _ _ h => h) (Or.inl ⟨by rfl, ?_⟩) ?_ ?_
      rotate_left
      ·intro w'
       go_simp
       with_reducible rfl
      rotate_left
      ·simp only [Act.put, Qp1, Qp2, Qp3, i64_w, i32_w]
       rfl
      refine pure_ (i := 11) (N := some 30) (v := ?_) (a' := ?_) (Qbz 38 3263) rfl rfl (by kernel_rfl) (fun _ _ _ h => h) (Or.inl ⟨by rfl, ?_⟩) ?_ ?_
      rotate_left
      ·intro w'
       go_simp
       with_reducible rfl
      rotate_left
      ·simp only [Act.put, Qp1, Qp2, Qp3, i64_w, i32_w]
       rfl
      refine pure_ (i := 12) (N := some 31) (v := ?_) (a' := ?_) (Qbz 38 7359) rfl rfl (by kernel_rfl) (fun _ _ _ h => h) (Or.inl ⟨by rfl, ?_⟩) ?_ ?_
      rotate_left
      ·intro w'
       go_simp
       with_reducible rfl
      rotate_left
      ·simp only [Act.put, Qp1, Qp2, Qp3, i64_w, i32_w]
       rfl
      refine pure_ (i := 14) (N := some 33) (v := ?_) (a' := ?_) (Qbz 38 23743) rfl rfl (by kernel_rfl) (fun _ _ _ h => h) (Or.inl ⟨by rfl, ?_⟩) ?_ ?_
      rotate_left
      ·intro w'
       go_simp
       with_reducible rfl
      rotate_left
      ·simp only [Act.put, Qp1, Qp2, Qp3, i64_w, i32_w]
       rfl
      refine take_ (i := 6) (N := some 25) (v := ?_) (a' := ?_) (Qbz 38 23807) rfl rfl (by kernel_rfl) (fun _ _ _ h => h) (Or.inl ⟨by rfl, ?_⟩) hHeld ?_ ?_
      rotate_left
      ·rintro w' ⟨s0, s1, s2⟩
       go_simp
       with_reducible rfl
      rotate_left
      ·simp only [Act.put, Qp1, Qp2, Qp3, i64_w, i32_w]
       rfl
      refine pure_ (i := 8) (N := some 27) (v := ?_) (a' := ?_) (Qbz 38 24063) rfl rfl (by kernel_rfl) (fun _ _ _ h => h) (Or.inl ⟨by rfl, ?_⟩) ?_ ?_
      rotate_left
      ·intro w'
       go_simp
       with_reducible rfl
      rotate_left
      ·simp only [Act.put, Qp1, Qp2, Qp3, i64_w, i32_w]
       rfl
      refine take_ (i := 9) (N := some 28) (v := ?_) (a' := ?_) (Qbz 38 24575) rfl rfl (by kernel_rfl) (fun _ _ _ h => h) (Or.inl ⟨by rfl, ?_⟩) hHeld ?_ ?_
      rotate_left
      ·rintro w' ⟨s0, s1, s2⟩
       go_simp
       with_reducible rfl
      rotate_left
      ·simp only [Act.put, Qp1, Qp2, Qp3, i64_w, i32_w]
       rfl
      refine take_ (i := 13) (N := some 32) (v := ?_) (a' := ?_) (Qbz 38 32767) rfl rfl (by kernel_rfl) (fun _ _ _ h => h) (Or.inl ⟨by rfl, ?_⟩) hHeld ?_ ?_
      rotate_left
      ·rintro w' ⟨s0, s1, s2⟩
       go_simp
       with_reducible rfl
      rotate_left
      ·simp only [Act.put, Qp1, Qp2, Qp3, i64_w, i32_w]
       rfl
      refine pure_ (i := 15) (N := some 34) (v := ?_) (a' := ?_) (Qbz 38 65535) rfl rfl (by kernel_rfl) (fun _ _ _ h => h) (Or.inl ⟨by rfl, ?_⟩) ?_ ?_
      rotate_left
      ·intro w'
       go_simp
       with_reducible rfl
      rotate_left
      ·simp only [Act.put, Qp1, Qp2, Qp3, i64_w, i32_w]
       rfl
      refine take_ (i := 16) (N := some 35) (v := ?_) (a' := ?_) (Qbz 38 131071) rfl rfl (by kernel_rfl) (fun _ _ _ h => h) (Or.inl ⟨by rfl, ?_⟩) hHeld ?_ ?_
      rotate_left
      ·rintro w' ⟨s0, s1, s2⟩
       go_simp
       with_reducible rfl
      rotate_left
      ·simp only [Act.put, Qp1, Qp2, Qp3, i64_w, i32_w]
       rfl
      refine pure_ (i := 17) (N := some 36) (v := ?_) (a' := ?_) (Qbz 38 262143) rfl rfl (by kernel_rfl) (fun _ _ _ h => h) (Or.inl ⟨by rfl, ?_⟩) ?_ ?_
      rotate_left
      ·intro w'
       go_simp
       with_reducible rfl
      rotate_left
      ·simp only [Act.put, Qp1, Qp2, Qp3, i64_w, i32_w]
       rfl
      refine pure_ (i := 18) (N := some 37) (v := ?_) (a' := ?_) (Qbz 38 524287) rfl rfl (by kernel_rfl) (fun _ _ _ h => h) (Or.inl ⟨by rfl, ?_⟩) ?_ ?_
      rotate_left
      ·intro w'
       go_simp
       with_reducible rfl
      rotate_left
      ·simp only [Act.put, Qp1, Qp2, Qp3, i64_w, i32_w]
       rfl
      refine pure_ (i := 19) (N := some 38) (v := ?_) (a' := ?_) (Qbz 38 1048575) rfl rfl (by kernel_rfl) (fun _ _ _ h => h) (Or.inl ⟨by rfl, ?_⟩) ?_ ?_
      rotate_left
      ·intro w'
       go_simp
       with_reducible rfl
      rotate_left
      ·simp only [Act.put, Qp1, Qp2, Qp3, i64_w, i32_w]
       rfl
      refine pure_ (i := 20) (N := some 39) (v := ?_) (a' := ?_) (Qbz 38 2097151) rfl rfl (by kernel_rfl) (fun _ _ _ h => h) (Or.inl ⟨by rfl, ?_⟩) ?_ ?_
      rotate_left
      ·intro w'
       go_simp
       with_reducible rfl
      rotate_left
      ·simp only [Act.put, Qp1, Qp2, Qp3, i64_w, i32_w]
       rfl
      refine pure_ (i := 21) (N := some 40) (v := ?_) (a' := ?_) (Qbz 38 4194303) rfl rfl (by kernel_rfl) (fun _ _ _ h => h) (Or.inl ⟨by rfl, ?_⟩) ?_ ?_
      rotate_left
      ·intro w'
       go_simp
       with_reducible rfl
      rotate_left
      ·simp only [Act.put, Qp1, Qp2, Qp3, i64_w, i32_w]
       rfl
      refine pure_ (i := 22) (N := some 41) (v := ?_) (a' := ?_) (Qbz 38 8388607) rfl rfl (by kernel_rfl) (fun _ _ _ h => h) (Or.inl ⟨by rfl, ?_⟩) ?_ ?_
      rotate_left
      ·intro w'
       go_simp
       with_reducible rfl
      rotate_left
      ·simp only [Act.put, Qp1, Qp2, Qp3, i64_w, i32_w]
       rfl
      refine pure_ (i := 24) (N := some 43) (v := ?_) (a' := ?_) (Qbz 38 25165823) rfl rfl (by kernel_rfl) (fun _ _ _ h => h) (Or.inl ⟨by rfl, ?_⟩) ?_ ?_
      rotate_left
      ·intro w'
       go_simp
       with_reducible rfl
      rotate_left
      ·simp only [Act.put, Qp1, Qp2, Qp3, i64_w, i32_w]
       rfl
      refine pure_ (i := 27) (N := some 46) (v := ?_) (a' := ?_) (Qbz 38 159383551) rfl rfl (by kernel_rfl) (fun _ _ _ h => h) (Or.inl ⟨by rfl, ?_⟩) ?_ ?_
      rotate_left
      ·intro w'
       go_simp
       with_reducible rfl
      rotate_left
      ·simp only [Act.put, Qp1, Qp2, Qp3, i64_w, i32_w]
       rfl
      refine pure_ (i := 28) (N := some 47) (v := ?_) (a' := ?_) (Qbz 38 427819007) rfl rfl (by kernel_rfl) (fun _ _ _ h => h) (Or.inl ⟨by rfl, ?_⟩) ?_ ?_
      rotate_left
      ·intro w'
       go_simp
       with_reducible rfl
      rotate_left
      ·simp only [Act.put, Qp1, Qp2, Qp3, i64_w, i32_w]
       rfl
      refine pure_ (i := 29) (N := some 48) (v := ?_) (a' := ?_) (Qbz 38 964689919) rfl rfl (by kernel_rfl) (fun _ _ _ h => h) (Or.inl ⟨by rfl, ?_⟩) ?_ ?_
      rotate_left
      ·intro w'
       go_simp
       with_reducible rfl
      rotate_left
      ·simp only [Act.put, Qp1, Qp2, Qp3, i64_w, i32_w]
       rfl
      refine pure_ (i := 31) (N := some 50) (v := ?_) (a' := ?_) (Qbz 38 3112173567) rfl rfl (by kernel_rfl) (fun _ _ _ h => h) (Or.inl ⟨by rfl, ?_⟩) ?_ ?_
      rotate_left
      ·intro w'
       go_simp
       with_reducible rfl
      rotate_left
      ·simp only [Act.put, Qp1, Qp2, Qp3, i64_w, i32_w]
       rfl
      refine take_ (i := 23) (N := some 42) (v := ?_) (a' := ?_) (Qbz 38 3120562175) rfl rfl (by kernel_rfl) (fun _ _ _ h => h) (Or.inl ⟨by rfl, ?_⟩) hHeld ?_ ?_
      rotate_left
      ·rintro w' ⟨s0, s1, s2⟩
       go_simp
       with_reducible rfl
      rotate_left
      ·simp only [Act.put, Qp1, Qp2, Qp3, i64_w, i32_w]
       rfl
      refine pure_ (i := 25) (N := some 44) (v := ?_) (a' := ?_) (Qbz 38 3154116607) rfl rfl (by kernel_rfl) (fun _ _ _ h => h) (Or.inl ⟨by rfl, ?_⟩) ?_ ?_
      rotate_left
      ·intro w'
       go_simp
       with_reducible rfl
      rotate_left
      ·simp only [Act.put, Qp1, Qp2, Qp3, i64_w, i32_w]
       rfl
      refine take_ (i := 26) (N := some 45) (v := ?_) (a' := ?_) (Qbz 38 3221225471) rfl rfl (by kernel_rfl) (fun _ _ _ h => h) (Or.inl ⟨by rfl, ?_⟩) hHeld ?_ ?_
      rotate_left
      ·rintro w' ⟨s0, s1, s2⟩
       go_simp
       with_reducible rfl
      rotate_left
      ·simp only [Act.put, Qp1, Qp2, Qp3, i64_w, i32_w]
       rfl
      refine take_ (i := 30) (N := some 49) (v := ?_) (a' := ?_) (Qbz 38 4294967295) rfl rfl (by kernel_rfl) (fun _ _ _ h => h) (Or.inl ⟨by rfl, ?_⟩) hHeld ?_ ?_
      rotate_left
      ·rintro w' ⟨s0, s1, s2⟩
       go_simp
       with_reducible rfl
      rotate_left
      ·simp only [Act.put, Qp1, Qp2, Qp3, i64_w, i32_w]
       rfl
      refine pure_ (i := 32) (N := some 51) (v := ?_) (a' := ?_) (Qbz 38 8589934591) rfl rfl (by kernel_rfl) (fun _ _ _ h => h) (Or.inl ⟨by rfl, ?_⟩) ?_ ?_
      rotate_left
      ·intro w'
       go_simp
       with_reducible rfl
      rotate_left
      ·simp only [Act.put, Qp1, Qp2, Qp3, i64_w, i32_w]
       rfl
      refine take_ (i := 33) (N := some 52) (v := ?_) (a' := ?_) (Qbz 38 17179869183) rfl rfl (by kernel_rfl) (fun _ _ _ h => h) (Or.inl ⟨by rfl, ?_⟩) hHeld ?_ ?_
      rotate_left
      ·rintro w' ⟨s0, s1, s2⟩
       go_simp
       with_reducible rfl
      rotate_left
      ·simp only [Act.put, Qp1, Qp2, Qp3, i64_w, i32_w]
       rfl
      refine pure_ (i := 34) (N := some 53) (v := ?_) (a' := ?_) (Qbz 38 34359738367) rfl rfl (by kernel_rfl) (fun _ _ _ h => h) (Or.inl ⟨by rfl, ?_⟩) ?_ ?_
      rotate_left
      ·intro w'
       go_simp
       with_reducible rfl
      rotate_left
      ·simp only [Act.put, Qp1, Qp2, Qp3, i64_w, i32_w]
       rfl
      refine pure_ (i := 35) (N := some 54) (v := ?_) (a' := ?_) (Qbz 38 68719476735) rfl rfl (by kernel_rfl) (fun _ _ _ h => h) (Or.inl ⟨by rfl, ?_⟩) ?_ ?_
      rotate_left
      ·intro w'
       go_simp
       with_reducible rfl
      rotate_left
      ·simp only [Act.put, Qp1, Qp2, Qp3, i64_w, i32_w]
       rfl
      refine pure_ (i := 36) (N := some 55) (v := ?_) (a' := ?_) (Qbz 38 137438953471) rfl rfl (by kernel_rfl) (fun _ _ _ h => h) (Or.inl ⟨by rfl, ?_⟩) ?_ ?_
      rotate_left
      ·intro w'
       go_simp
       with_reducible rfl
      rotate_left
      ·simp only [Act.put, Qp1, Qp2, Qp3, i64_w, i32_w]
       rfl
      refine pure_ (i := 37) (N := some 56) (v := ?_) (a' := ?_) (Qbz 38 274877906943) rfl rfl (by kernel_rfl) (fun _ _ _ h => h) (Or.inl ⟨by rfl, ?_⟩) ?_ ?_
      rotate_left
      ·intro w'
       go_simp
       with_reducible rfl
      rotate_left
      ·simp only [Act.put, Qp1, Qp2, Qp3, i64_w, i32_w]
       rfl
      refine done_ (by kernel_rfl) ?_
      go_wp2
      go_roundg gi
      case measure => omega
      case rel => exact ⟨i + 1, by go_num, by omega, ⟨fun j hj => by
       by_cases e : j = i
       ·rw [e]; exact HK.out
       ·exact HL.out j (by omega)⟩, ⟨HS.out.drew⟩⟩
  ·have hi1 : ((i : Int) < (P.length : Int)) = False := eq_false (by omega)
   have hi2 : decide ((i : Int) < (P.length : Int)) = false := decide_eq_false (by omega)
   have HN : Aside0 (R = none) := ⟨by rw [← HR.out]; exact pick_no fun j hj => HL.out j (by omega)⟩
   go_wp2
   go_ret
   exact .inl ⟨HN.out, rfl, HS.out⟩
theorem gi_toNatT (G : List Nat) : (gi G).map Int.toNat = G := by
 unfold gi
 rw [List.map_map]
 conv => rhs; rw [← List.map_id G]
 exact List.map_congr_left fun x _ => by simp
theorem p9T {n : Nat} (h : n ≤ 9) : 2 ^ n ≤ 512 := Nat.pow_le_pow_right (n := 2) (by omega) h
theorem bitJT (a y : Nat) (ha : a < 2 ^ 62) (hy : y < 62) : ∃ J : Int, ((a : Int) / 2 ^ min y 64) = J ∧ ((a : Int) / 2 ^ y) = J ∧ shr .i64 (a : Int) (y : Int) = J ∧ (Go.bits .and .i64 J 1 == 1) = a.testBit y ∧ (Go.bits .and .i64 J 1 == 0) = !a.testBit y := by
 have e := s_shr a y hy
 refine ⟨_, rfl, ?_, ?_, ?_, ?_⟩
 ·rw [Nat.min_eq_left (by omega)]
 ·rw [e, Nat.min_eq_left (by omega)]; simp
 ·rw [show ((a : Int) / 2 ^ min y 64) = shr .i64 (a : Int) (y : Int) by rw [e, Nat.min_eq_left (by omega)]; simp, bit_at a y ha hy]
  cases a.testBit y <;> rfl
 ·rw [show ((a : Int) / 2 ^ min y 64) = shr .i64 (a : Int) (y : Int) by rw [e, Nat.min_eq_left (by omega)]; simp, bit_at a y ha hy]
  cases a.testBit y <;> rfl
theorem cell_sameT {W V : World} {a : Addr} (h : V.heap[a.block]? = W.heap[a.block]?) : V.cell? a = W.cell? a := by
 unfold World.cell?
 rw [h]
theorem heap_setT (W : World) (a : Addr) (v : Value) (b : Nat) (h : b ≠ a.block) : (W.setCell a v).heap[b]? = W.heap[b]? := Below.heap_setCell W a v b h
theorem blk_ltT {W : World} {g : Nat} {o : Obj} (h : W.heap[g]? = some o) : g < W.heap.size := (Array.getElem?_eq_some_iff.1 h).1
set_option maxHeartbeats 4000000 in
set_option maxRecDepth 100000 in
theorem cyclic_calls (A0 : Option Addr) (n0 c0 : Nat) (A1 : Option Addr) (c1 : Nat) (P : List Int) (at_ : Int) (hP : InP P) (hn : P.length ≤ 30) (ha1 : at_ < (P.length : Int)) (w : World) (hr : Kd.C (Kd.int .i64) w A1 P.length P) :
  Calls Tryd.prog 101 #[.agg #[.slice A0 n0 c0, .slice A1 P.length c1], .int .i64 at_] w fun e w' => e = .returned (.bool (cycB P P.length at_)) ∧ Below w.heap.size w w' := by
 have HR := Aside0.mk hr
 have HP := Aside0.mk hP
 obtain ⟨R, hR⟩ : ∃ r, cycB P P.length at_ = r := ⟨_, rfl⟩
 rw [hR]
 have HC := Aside0.mk hR
 clear hr hP hR
 go_enter Tryd.func101, Tryd.ntmps101
 go_wp2_with (first | ((with_reducible refine gate_dst (N := 2) rfl ?_); refine box_event ?hg (N := 2) ?hd (cs := #[.slice A0 n0 c0, .slice A1 P.length c1]) (t := 53) ?hr ?_; (case hd => rfl); (case hg => rfl); (case hr => first | (go_simp; done) | (go_simp; rfl)); intro ga hga w7 hbox hb7; have HBOX := Aside0.mk hbox; have HB7 := Aside0.mk hb7; have hz1 : w7.cell? ⟨ga, 1, none⟩ = some (.slice A1 P.length c1) := (blk_cell hbox 1).trans rfl; clear hbox hb7 hga))
 go_loopg [1, 8] P.length (fun kq v1 v8 w' => ∃ (i : Nat) (x : Int), v1 = .int .i64 x ∧ v8 = .int .i64 (i : Int) ∧ i + kq = P.length ∧ Aside0 (cycB P kq x = R ∧ x < (P.length : Int)) ∧ w' = w7)
 case atStart => exact ⟨0, at_, rfl, rfl, by omega, ⟨HC.out, ha1⟩, rfl⟩
 case round =>
  clear HC
  obtain ⟨i, x, rfl, rfl, hi, HC, rfl⟩ := hrel
  obtain ⟨hc, hx⟩ := HC.out
  clear HC
  by_cases hil : i < P.length
  ·have hi1 : ((i : Int) < (P.length : Int)) = True := eq_true (by omega)
   have hi2 : decide ((i : Int) < (P.length : Int)) = true := decide_eq_true (by omega)
   cases gk with
   | zero => omega
   | succ gi =>
   simp only [cycB] at hc
   by_cases hx0 : x < 0
   ·rw [if_pos hx0] at hc
    subst hc
    have hd1 : decide (x < 0) = true := decide_eq_true hx0
    clear hx0
    go_wp2
    go_ret
    exact ⟨rfl, HB7.out⟩
   ·rw [if_neg hx0] at hc
    have hd1 : decide (x < 0) = false := decide_eq_false hx0
    obtain ⟨xn, rfl⟩ := Int.eq_ofNat_of_zero_le (show 0 ≤ x by omega)
    have hxl : xn < P.length := by omega
    obtain ⟨ad, e1, hgx⟩ := Kd.at_int (Kd.C_below HR.out HB7.out) (xn : Int) (by omega) (by omega)
    subst e1
    rw [Int.toNat_natCast] at hgx
    obtain ⟨h1, h2⟩ := HP.out xn hxl
    have hj1 : ((xn : Int) < (P.length : Int)) = True := eq_true (by omega)
    have hj2 : decide ((xn : Int) < (P.length : Int)) = true := decide_eq_true (by omega)
    generalize rd P (xn : Int) = y at *
    have HC2 := Aside0.mk hc
    clear hc hx0
    go_wp2
    go_roundg gi
    case measure => omega
    case rel => exact ⟨i + 1, y, rfl, by go_num, by omega, ⟨HC2.out, h2⟩, rfl⟩
  ·have hi1 : ((i : Int) < (P.length : Int)) = False := eq_false (by omega)
   have hi2 : decide ((i : Int) < (P.length : Int)) = false := decide_eq_false (by omega)
   obtain rfl : gk = 0 := by omega
   simp only [cycB] at hc
   have hd3 : decide (x ≥ 0) = R := hc
   have hd4 : decide (0 ≤ x) = R := hc
   clear hc
   go_wp2
   go_ret
   exact ⟨by first | rfl | (rw [hd4]), HB7.out⟩
theorem cyc1 (xB : Nat) (A0 : Option Addr) (n0 c0 : Nat) (A1 : Option Addr) (c1 : Nat) (P : List Int) (at_ : Int) (hP : InP P) (hn : P.length ≤ 30) (ha1 : at_ < (P.length : Int)) (w : World) (hr : Kd.C (Kd.int .i64) w A1 P.length P) (h0 : w.cell? ⟨xB, 0, none⟩ = some (.slice A0 n0 c0)) (h1 : w.cell? ⟨xB, 1, none⟩ = some (.slice A1 P.length c1)) :
  Calls Tryd.prog 100 #[.int .i64 at_, .pointer (some ⟨xB, 0, none⟩)] w fun e w' => e = .returned (.bool (cycB P P.length at_)) ∧ Below w.heap.size w w' := by
 have HC := Aside0.mk (cyclic_calls A0 n0 c0 A1 c1 P at_ hP hn ha1 w hr)
 clear hP hn ha1 hr
 go_enter Tryd.func100, Tryd.ntmps100
 go_wp2_with (go_at_call 101; refine HC.out.mono ?_; rintro e w3 ⟨rfl, hb⟩)
 go_ret
 exact ⟨rfl, hb⟩
theorem both1 (uB vB : Nat) (u v b : Nat) (hu : u < 62) (hv : v < 62) (hb : b < 2 ^ 62) (w : World) (h0 : w.cell? ⟨uB, 0, none⟩ = some (.int .i64 (u : Int))) (h1 : w.cell? ⟨vB, 0, none⟩ = some (.int .i64 (v : Int))) :
  Calls Tryd.prog 102 #[.int .i64 (b : Int), .pointer (some ⟨uB, 0, none⟩), .pointer (some ⟨vB, 0, none⟩)] w fun e w' => e = .returned (.bool (bothB u v (b : Int))) ∧ Below w.heap.size w w' := by
 obtain ⟨J, hJ1, hJ2, hJ3, hJ4, hJ5⟩ := bitJT b u hb hu
 obtain ⟨K, hK1, hK2, hK3, hK4, hK5⟩ := bitJT b v hb hv
 have HB := Aside0.mk (show bothB u v (b : Int) = (b.testBit u && b.testBit v) from rfl)
 have hz1 : (0 : Int) ≤ (u : Int) := by omega
 have hz2 : (0 : Int) ≤ (v : Int) := by omega
 clear hb hJ3 hJ5 hK3 hK5
 rw [HB.out]
 cases hbt : b.testBit u
 ·rw [hbt] at hJ4
  clear hbt
  generalize b.testBit v = bv at *
  go_enter Tryd.func102, Tryd.ntmps102
  go_wp2
  go_ret
  exact ⟨rfl, Below.refl _ _⟩
 ·rw [hbt] at hJ4
  clear hbt
  generalize b.testBit v = bv at *
  go_enter Tryd.func102, Tryd.ntmps102
  go_wp2
  go_ret
  exact ⟨rfl, Below.refl _ _⟩
set_option maxHeartbeats 2000000 in
theorem index_cyc (A : Option Addr) (c : Nat) (l : List Int) (p : Int → Bool) (xB : Nat) (w : World) (hx : Kd.C (Kd.int .i64) w A l.length l) (hl : l.length ≤ 1000)
  (hp : ∀ W, Below w.heap.size w W → ∀ x ∈ l, Calls Tryd.prog 100 #[.int .i64 x, .pointer (some ⟨xB, 0, none⟩)] W fun e w' => e = .returned (.bool (p x)) ∧ Below W.heap.size W w') :
  Calls Tryd.prog 84 #[.slice A l.length c, .func (.func 100) #[] #[.pointer (some ⟨xB, 0, none⟩)]] w fun e w' => ∃ z, e = .returned (.int .i64 z) ∧ decide (z ≥ 0) = l.any p ∧ Below w.heap.size w w' := by
 have HX := Aside0.mk hx
 have HP := Aside0.mk hp
 clear hx hp
 go_enter Tryd.func84, Tryd.ntmps84
 go_wp2
 go_loopg [8] l.length (fun kq v8 w' => ∃ i : Nat, v8 = .int .i64 (i : Int) ∧ i + kq = l.length ∧ Aside0 ((l.drop i).any p = l.any p) ∧ Aside0 (Below w.heap.size w w'))
 case atStart => exact ⟨0, rfl, by omega, ⟨rfl⟩, ⟨Below.refl _ _⟩⟩
 case round =>
  obtain ⟨i, rfl, hi, HA, HB⟩ := hrel
  by_cases hil : i < l.length
  ·have hi1 : ((i : Int) < (l.length : Int)) = True := eq_true (by omega)
   have hi2 : decide ((i : Int) < (l.length : Int)) = true := decide_eq_true (by omega)
   cases gk with
   | zero => omega
   | succ gi =>
   obtain ⟨ad, e1, hgx⟩ := Kd.at_int (Kd.C_below HX.out HB.out) (i : Int) (by omega) (by omega)
   subst e1
   have hra : rd l (i : Int) = l[i] := by unfold rd; rw [Int.toNat_natCast, List.getD_eq_getElem?_getD, List.getElem?_eq_getElem hil]; rfl
   rw [hra, Int.toNat_natCast] at hgx
   have hm : l[i] ∈ l := List.getElem_mem hil
   have ha := HA.out
   rw [List.drop_eq_getElem_cons hil, List.any_cons] at ha
   have HC := Aside0.mk (HP.out wr HB.out _ hm)
   generalize l[i] = x at *
   clear hra HA
   cases hpx : p x
   ·rw [hpx] at HC ha
    have HA2 : Aside0 ((l.drop (i + 1)).any p = l.any p) := ⟨by simpa using ha⟩
    clear ha hpx hm
    go_wp2_with (go_at_call 100; refine HC.out.mono ?_; rintro e w3 ⟨rfl, hb⟩)
    go_roundg gi
    case measure => omega
    case rel => exact ⟨i + 1, by go_num, by omega, HA2, ⟨below_step HB.out hb⟩⟩
   ·rw [hpx] at HC ha
    have HA2 : Aside0 (true = l.any p) := ⟨by simpa using ha⟩
    clear ha hpx hm
    go_wp2_with (go_at_call 100; refine HC.out.mono ?_; rintro e w3 ⟨rfl, hb⟩)
    go_ret
    exact ⟨_, rfl, by rw [← HA2.out]; exact decide_eq_true (by omega), below_step HB.out hb⟩
  ·have hi1 : ((i : Int) < (l.length : Int)) = False := eq_false (by omega)
   have hi2 : decide ((i : Int) < (l.length : Int)) = false := decide_eq_false (by omega)
   have ha := HA.out
   rw [List.drop_eq_nil_of_le (by omega)] at ha
   have HA2 : Aside0 (false = l.any p) := ⟨ha⟩
   clear ha HA
   go_wp2
   go_ret
   exact ⟨_, rfl, by rw [← HA2.out]; rfl, HB.out⟩
theorem contains_cyc (A : Option Addr) (c : Nat) (l : List Int) (p : Int → Bool) (xB : Nat) (w : World) (hx : Kd.C (Kd.int .i64) w A l.length l) (hl : l.length ≤ 1000)
  (hp : ∀ W, Below w.heap.size w W → ∀ x ∈ l, Calls Tryd.prog 100 #[.int .i64 x, .pointer (some ⟨xB, 0, none⟩)] W fun e w' => e = .returned (.bool (p x)) ∧ Below W.heap.size W w') :
  Calls Tryd.prog 54 #[.slice A l.length c, .func (.func 100) #[] #[.pointer (some ⟨xB, 0, none⟩)]] w fun e w' => e = .returned (.bool (l.any p)) ∧ Below w.heap.size w w' := by
 have HI := Aside0.mk (index_cyc A c l p xB w hx hl hp)
 clear hx hl hp
 go_enter Tryd.func54, Tryd.ntmps54
 go_wp2_with (go_at_call 84; refine HI.out.mono ?_; rintro e w3 ⟨z, rfl, hz, hb⟩)
 go_ret
 exact ⟨by rw [← hz]; rfl, hb⟩
set_option maxHeartbeats 2000000 in
theorem index_both (A : Option Addr) (c : Nat) (l : List Int) (p : Int → Bool) (uB vB : Nat) (w : World) (hx : Kd.C (Kd.int .i64) w A l.length l) (hl : l.length ≤ 1000)
  (hp : ∀ W, Below w.heap.size w W → ∀ x ∈ l, Calls Tryd.prog 102 #[.int .i64 x, .pointer (some ⟨uB, 0, none⟩), .pointer (some ⟨vB, 0, none⟩)] W fun e w' => e = .returned (.bool (p x)) ∧ Below W.heap.size W w') :
  Calls Tryd.prog 84 #[.slice A l.length c, .func (.func 102) #[] #[.pointer (some ⟨uB, 0, none⟩), .pointer (some ⟨vB, 0, none⟩)]] w fun e w' => ∃ z, e = .returned (.int .i64 z) ∧ decide (z ≥ 0) = l.any p ∧ Below w.heap.size w w' := by
 have HX := Aside0.mk hx
 have HP := Aside0.mk hp
 clear hx hp
 go_enter Tryd.func84, Tryd.ntmps84
 go_wp2
 go_loopg [8] l.length (fun kq v8 w' => ∃ i : Nat, v8 = .int .i64 (i : Int) ∧ i + kq = l.length ∧ Aside0 ((l.drop i).any p = l.any p) ∧ Aside0 (Below w.heap.size w w'))
 case atStart => exact ⟨0, rfl, by omega, ⟨rfl⟩, ⟨Below.refl _ _⟩⟩
 case round =>
  obtain ⟨i, rfl, hi, HA, HB⟩ := hrel
  by_cases hil : i < l.length
  ·have hi1 : ((i : Int) < (l.length : Int)) = True := eq_true (by omega)
   have hi2 : decide ((i : Int) < (l.length : Int)) = true := decide_eq_true (by omega)
   cases gk with
   | zero => omega
   | succ gi =>
   obtain ⟨ad, e1, hgx⟩ := Kd.at_int (Kd.C_below HX.out HB.out) (i : Int) (by omega) (by omega)
   subst e1
   have hra : rd l (i : Int) = l[i] := by unfold rd; rw [Int.toNat_natCast, List.getD_eq_getElem?_getD, List.getElem?_eq_getElem hil]; rfl
   rw [hra, Int.toNat_natCast] at hgx
   have hm : l[i] ∈ l := List.getElem_mem hil
   have ha := HA.out
   rw [List.drop_eq_getElem_cons hil, List.any_cons] at ha
   have HC := Aside0.mk (HP.out wr HB.out _ hm)
   generalize l[i] = x at *
   clear hra HA
   cases hpx : p x
   ·rw [hpx] at HC ha
    have HA2 : Aside0 ((l.drop (i + 1)).any p = l.any p) := ⟨by simpa using ha⟩
    clear ha hpx hm
    go_wp2_with (go_at_call 102; refine HC.out.mono ?_; rintro e w3 ⟨rfl, hb⟩)
    go_roundg gi
    case measure => omega
    case rel => exact ⟨i + 1, by go_num, by omega, HA2, ⟨below_step HB.out hb⟩⟩
   ·rw [hpx] at HC ha
    have HA2 : Aside0 (true = l.any p) := ⟨by simpa using ha⟩
    clear ha hpx hm
    go_wp2_with (go_at_call 102; refine HC.out.mono ?_; rintro e w3 ⟨rfl, hb⟩)
    go_ret
    exact ⟨_, rfl, by rw [← HA2.out]; exact decide_eq_true (by omega), below_step HB.out hb⟩
  ·have hi1 : ((i : Int) < (l.length : Int)) = False := eq_false (by omega)
   have hi2 : decide ((i : Int) < (l.length : Int)) = false := decide_eq_false (by omega)
   have ha := HA.out
   rw [List.drop_eq_nil_of_le (by omega)] at ha
   have HA2 : Aside0 (false = l.any p) := ⟨ha⟩
   clear ha HA
   go_wp2
   go_ret
   exact ⟨_, rfl, by rw [← HA2.out]; rfl, HB.out⟩
theorem contains_both (A : Option Addr) (c : Nat) (l : List Int) (p : Int → Bool) (uB vB : Nat) (w : World) (hx : Kd.C (Kd.int .i64) w A l.length l) (hl : l.length ≤ 1000)
  (hp : ∀ W, Below w.heap.size w W → ∀ x ∈ l, Calls Tryd.prog 102 #[.int .i64 x, .pointer (some ⟨uB, 0, none⟩), .pointer (some ⟨vB, 0, none⟩)] W fun e w' => e = .returned (.bool (p x)) ∧ Below W.heap.size W w') :
  Calls Tryd.prog 54 #[.slice A l.length c, .func (.func 102) #[] #[.pointer (some ⟨uB, 0, none⟩), .pointer (some ⟨vB, 0, none⟩)]] w fun e w' => e = .returned (.bool (l.any p)) ∧ Below w.heap.size w w' := by
 have HI := Aside0.mk (index_both A c l p uB vB w hx hl hp)
 clear hx hl hp
 go_enter Tryd.func54, Tryd.ntmps54
 go_wp2_with (go_at_call 84; refine HI.out.mono ?_; rintro e w3 ⟨z, rfl, hz, hb⟩)
 go_ret
 exact ⟨by rw [← hz]; rfl, hb⟩
theorem wnodes_all : ∀ x : Fin 512, width_nodes.f 12 (x.val : Int) = some (gi (els x.val 9)) := by decide +kernel
theorem wall_f {G : List Nat} (hG : Gr 9 G) : width_town_all.f (gi G) = some ((2 ^ G.length - 1 : Nat) : Int) := all_eq G hG.most
set_option maxHeartbeats 16000000 in
set_option maxRecDepth 100000 in
theorem tree_calls (Ag : Option Addr) (cg : Nat) (G : List Nat) (hG : Gr 9 G) (hcg : G.length ≤ cg) (A0 : Option Addr) (c0 : Nat) (B : List Int) (A1 : Option Addr) (c1 : Nat) (P : List Int) (R : Bool) (hR : treeB G B P = R) (w : World) (hGL : GL w) (hrg : Kd.C (Kd.int .i64) w Ag (gi G).length (gi G)) (hr0 : Kd.C (Kd.int .i64) w A0 B.length B) (hr1 : Kd.C (Kd.int .i64) w A1 P.length P) :
  Calls Tryd.prog 78 #[.slice Ag G.length cg, .agg #[.slice A0 B.length c0, .slice A1 P.length c1]] w fun e w' => e = .returned (.bool R) ∧ Below w.heap.size w w' := by
 have hn := hG.most
 have HG := Aside0.mk hG
 have HGL := Aside0.mk hGL
 have HRG := Aside0.mk hrg
 have HR0 := Aside0.mk hr0
 have HR1 := Aside0.mk hr1
 have HL := Aside0.mk (gi_length G)
 have HALL := Aside0.mk (wall_f hG)
 have HN7 := Aside0.mk (p9T hn)
 unfold treeB at hR
 clear hG hGL hrg hr0 hr1
 by_cases hb1 : B.length < 1
 ·rw [if_pos hb1] at hR
  subst hR
  have hd1 : decide ((B.length : Int) < 1) = true := decide_eq_true (by omega)
  clear hb1
  go_enter Tryd.func78, Tryd.ntmps78
  go_wp2_with (first | ((with_reducible refine gate_dst (N := 3) rfl ?_); refine box_event ?hg (N := 3) ?hd (cs := #[.slice A0 B.length c0, .slice A1 P.length c1]) (t := 53) ?hr ?_; (case hd => rfl); (case hg => rfl); (case hr => first | (go_simp; done) | (go_simp; rfl)); intro xB hga w7 hbox hb7; have HBOX := Aside0.mk hbox; have HB7 := Aside0.mk hb7; have hz0 : w7.cell? ⟨xB, 0, none⟩ = some (.slice A0 B.length c0) := (blk_cell hbox 0).trans rfl; have hz1 : w7.cell? ⟨xB, 1, none⟩ = some (.slice A1 P.length c1) := (blk_cell hbox 1).trans rfl; clear hbox hb7 hga))
  go_ret
  exact ⟨rfl, HB7.out⟩
 ·rw [if_neg hb1] at hR
  have hd1 : decide ((B.length : Int) < 1) = false := decide_eq_false (by omega)
  by_cases hb30 : 30 < B.length
  ·rw [if_pos hb30] at hR
   subst hR
   have hd2 : decide ((B.length : Int) > 30) = true := decide_eq_true (by omega)
   clear hb1 hb30
   go_enter Tryd.func78, Tryd.ntmps78
   go_wp2_with (first | ((with_reducible refine gate_dst (N := 3) rfl ?_); refine box_event ?hg (N := 3) ?hd (cs := #[.slice A0 B.length c0, .slice A1 P.length c1]) (t := 53) ?hr ?_; (case hd => rfl); (case hg => rfl); (case hr => first | (go_simp; done) | (go_simp; rfl)); intro xB hga w7 hbox hb7; have HBOX := Aside0.mk hbox; have HB7 := Aside0.mk hb7; have hz0 : w7.cell? ⟨xB, 0, none⟩ = some (.slice A0 B.length c0) := (blk_cell hbox 0).trans rfl; have hz1 : w7.cell? ⟨xB, 1, none⟩ = some (.slice A1 P.length c1) := (blk_cell hbox 1).trans rfl; clear hbox hb7 hga))
   go_ret
   exact ⟨rfl, HB7.out⟩
  ·rw [if_neg hb30] at hR
   have hd2 : decide ((B.length : Int) > 30) = false := decide_eq_false (by omega)
   by_cases hpl : P.length = B.length
   ·rw [if_pos hpl] at hR
    have hd3 : ((P.length : Int) == (B.length : Int)) = true := by rw [hpl]; simp
    have hd4 : ((P.length : Int) != (B.length : Int)) = false := by rw [hpl]; simp
    have HPL := Aside0.mk hpl
    have hn1 : 1 ≤ B.length := by omega
    have hn30 : B.length ≤ 30 := by omega
    obtain ⟨T1, hT1⟩ : ∃ r, tl1 B P B.length (2 ^ G.length - 1) B.length 0 0 0 = r := ⟨_, rfl⟩
    rw [hT1] at hR
    have HT1 := Aside0.mk hT1
    have HR := Aside0.mk hR
    have HOK : Aside0 (∀ r, T1 = some r → ∀ j, j < B.length → -1 ≤ rd P (j : Int) ∧ rd P (j : Int) < (B.length : Int) ∧ 0 ≤ rd B (j : Int) ∧ rd B (j : Int) ≤ ((2 ^ G.length - 1 : Nat) : Int)) := ⟨fun r e j hj => tl1_ok B P B.length (2 ^ G.length - 1) B.length 0 0 0 r (by rw [hT1, e]) j (Nat.zero_le _) (by omega)⟩
    obtain ⟨PA, hPA⟩ : ∃ x, 2 ^ G.length - 1 = x := ⟨_, rfl⟩
    rw [hPA] at HT1 HOK HALL
    have HPA := Aside0.mk hPA
    have hPA7 : PA < 512 := by rw [← hPA]; have := HN7.out; omega
    clear hb1 hb30 hpl hT1 hR hPA
    go_enter Tryd.func78, Tryd.ntmps78
    go_wp2_with (first | ((with_reducible refine gate_dst (N := 3) rfl ?_); refine box_event ?hg (N := 3) ?hd (cs := #[.slice A0 B.length c0, .slice A1 P.length c1]) (t := 53) ?hr ?_; (case hd => rfl); (case hg => rfl); (case hr => first | (go_simp; done) | (go_simp; rfl)); intro xB hga w7 hbox hb7; have HBOX := Aside0.mk hbox; have HB7 := Aside0.mk hb7; have hz0 : w7.cell? ⟨xB, 0, none⟩ = some (.slice A0 B.length c0) := (blk_cell hbox 0).trans rfl; have hz1 : w7.cell? ⟨xB, 1, none⟩ = some (.slice A1 P.length c1) := (blk_cell hbox 1).trans rfl; clear hbox hb7 hga))
    go_loopg [6, 7, 35] B.length (fun kq v6 v7 v35 w' => ∃ (i ro ac : Nat), v6 = .int .i64 (ro : Int) ∧ v7 = .int .i64 (ac : Int) ∧ v35 = .int .i64 (i : Int) ∧ i + kq = B.length ∧ Aside0 (tl1 B P B.length PA kq i ro ac = T1 ∧ ro ≤ i ∧ ac < 512) ∧ Aside0 (Below w7.heap.size w7 w'))
    case atStart => exact ⟨0, 0, 0, rfl, rfl, rfl, by omega, ⟨HT1.out, Nat.le_refl _, by decide⟩, ⟨Below.refl _ _⟩⟩
    case round =>
     clear HT1
     obtain ⟨i, ro, ac, rfl, rfl, rfl, hi, HT, HB⟩ := hrel
     by_cases hil : i < B.length
     ·have hi1 : ((i : Int) < (B.length : Int)) = True := eq_true (by omega)
      have hi2 : decide ((i : Int) < (B.length : Int)) = true := decide_eq_true (by omega)
      have hi3 : ((i : Int) < (P.length : Int)) = True := eq_true (by have := HPL.out; omega)
      have hi4 : decide ((i : Int) < (P.length : Int)) = true := decide_eq_true (by have := HPL.out; omega)
      cases gk with
      | zero => omega
      | succ gq =>
      obtain ⟨ht, hro, hac⟩ := HT.out
      simp only [tl1] at ht
      obtain ⟨adP, e1, hgp⟩ := Kd.at_int (Kd.C_below (Kd.C_below HR1.out HB7.out) HB.out) (i : Int) (by omega) (by have := HPL.out; omega)
      subst e1
      obtain ⟨adB, e2, hgb⟩ := Kd.at_int (Kd.C_below (Kd.C_below HR0.out HB7.out) HB.out) (i : Int) (by omega) (by omega)
      subst e2
      rw [Int.toNat_natCast] at hgp hgb
      have hgb0 := hgb
      generalize rd P (i : Int) = p at *
      generalize rd B (i : Int) = b at *
      have hbc := blk_below HBOX.out HB.out
      have f0d : wr.drew.cell? ⟨xB, 0, none⟩ = some (.slice (some adB) B.length c0) := (blk_cell hbc 0).trans rfl
      have f1d : wr.drew.cell? (adB.add i) = some (.int .i64 b) := hgb
      have fbd : Below w7.heap.size w7 wr.drew := below_drew HB.out
      clear HT hbc
      by_cases hp1 : p < -1
      ·rw [if_pos hp1] at ht
       have hd5 : decide (p < -1) = true := decide_eq_true hp1
       subst ht
       have hr := HR.out
       simp only [treeB2] at hr
       subst hr
       clear hp1
       go_wp2_with (fail)
       refine start_ (n := 25) (S := fun w' => Below w7.heap.size w7 w') (ds := []) (Qbz 25 0) (by kernel_rfl) rfl rfl (fbd) (fun hHeld => ?_)
       refine pure_ (i := 0) (N := some 40) (v := ?_) (a' := ?_) (Qbz 25 1) rfl rfl (by kernel_rfl) (fun _ _ _ h => h) (Or.inl ⟨by rfl, ?_⟩) ?_ ?_
       rotate_left
       ·intro w'
        go_simp
        with_reducible rfl
       rotate_left
       ·simp only [Act.put, Qp1, Qp2, Qp3, i64_w, i32_w]
        rfl
       refine pure_ (i := 1) (N := some 41) (v := ?_) (a' := ?_) (Qbz 25 3) rfl rfl (by kernel_rfl) (fun _ _ _ h => h) (Or.inl ⟨by rfl, ?_⟩) ?_ ?_
       rotate_left
       ·intro w'
        go_simp
        with_reducible rfl
       rotate_left
       ·simp only [Act.put, Qp1, Qp2, Qp3, i64_w, i32_w]
        rfl
       refine pure_ (i := 2) (N := some 42) (v := ?_) (a' := ?_) (Qbz 25 7) rfl rfl (by kernel_rfl) (fun _ _ _ h => h) (Or.inl ⟨by rfl, ?_⟩) ?_ ?_
       rotate_left
       ·intro w'
        go_simp
        with_reducible rfl
       rotate_left
       ·simp only [Act.put, Qp1, Qp2, Qp3, i64_w, i32_w]
        rfl
       refine pure_ (i := 3) (N := some 43) (v := undef) (a' := ?_) (Qbz 25 15) rfl rfl (by kernel_rfl) (fun _ _ _ h => h) (Or.inr ⟨by rfl, rfl⟩) ?_ ?_
       rotate_left
       ·simp only [Act.put, Qp1, Qp2, Qp3, i64_w, i32_w]
        rfl
       refine pure_ (i := 4) (N := some 44) (v := undef) (a' := ?_) (Qbz 25 31) rfl rfl (by kernel_rfl) (fun _ _ _ h => h) (Or.inr ⟨by rfl, rfl⟩) ?_ ?_
       rotate_left
       ·simp only [Act.put, Qp1, Qp2, Qp3, i64_w, i32_w]
        rfl
       refine pure_ (i := 5) (N := some 45) (v := undef) (a' := ?_) (Qbz 25 63) rfl rfl (by kernel_rfl) (fun _ _ _ h => h) (Or.inr ⟨by rfl, rfl⟩) ?_ ?_
       rotate_left
       ·simp only [Act.put, Qp1, Qp2, Qp3, i64_w, i32_w]
        rfl
       refine pure_ (i := 6) (N := some 46) (v := ?_) (a' := ?_) (Qbz 25 127) rfl rfl (by kernel_rfl) (fun _ _ _ h => h) (Or.inl ⟨by rfl, ?_⟩) ?_ ?_
       rotate_left
       ·intro w'
        go_simp
        with_reducible rfl
       rotate_left
       ·simp only [Act.put, Qp1, Qp2, Qp3, i64_w, i32_w]
        rfl
       refine pure_ (i := 7) (N := some 47) (v := ?_) (a' := ?_) (Qbz 25 255) rfl rfl (by kernel_rfl) (fun _ _ _ h => h) (Or.inl ⟨by rfl, ?_⟩) ?_ ?_
       rotate_left
       ·intro w'
        go_simp
        with_reducible rfl
       rotate_left
       ·simp only [Act.put, Qp1, Qp2, Qp3, i64_w, i32_w]
        rfl
       refine pure_ (i := 8) (N := some 48) (v := undef) (a' := ?_) (Qbz 25 511) rfl rfl (by kernel_rfl) (fun _ _ _ h => h) (Or.inr ⟨by rfl, rfl⟩) ?_ ?_
       rotate_left
       ·simp only [Act.put, Qp1, Qp2, Qp3, i64_w, i32_w]
        rfl
       refine pure_ (i := 9) (N := some 49) (v := undef) (a' := ?_) (Qbz 25 1023) rfl rfl (by kernel_rfl) (fun _ _ _ h => h) (Or.inr ⟨by rfl, rfl⟩) ?_ ?_
       rotate_left
       ·simp only [Act.put, Qp1, Qp2, Qp3, i64_w, i32_w]
        rfl
       refine pure_ (i := 10) (N := some 50) (v := undef) (a' := ?_) (Qbz 25 2047) rfl rfl (by kernel_rfl) (fun _ _ _ h => h) (Or.inr ⟨by rfl, rfl⟩) ?_ ?_
       rotate_left
       ·simp only [Act.put, Qp1, Qp2, Qp3, i64_w, i32_w]
        rfl
       refine pure_ (i := 11) (N := some 51) (v := undef) (a' := ?_) (Qbz 25 4095) rfl rfl (by kernel_rfl) (fun _ _ _ h => h) (Or.inr ⟨by rfl, rfl⟩) ?_ ?_
       rotate_left
       ·simp only [Act.put, Qp1, Qp2, Qp3, i64_w, i32_w]
        rfl
       refine pure_ (i := 12) (N := some 52) (v := undef) (a' := ?_) (Qbz 25 8191) rfl rfl (by kernel_rfl) (fun _ _ _ h => h) (Or.inr ⟨by rfl, rfl⟩) ?_ ?_
       rotate_left
       ·simp only [Act.put, Qp1, Qp2, Qp3, i64_w, i32_w]
        rfl
       refine pure_ (i := 13) (N := some 53) (v := undef) (a' := ?_) (Qbz 25 16383) rfl rfl (by kernel_rfl) (fun _ _ _ h => h) (Or.inr ⟨by rfl, rfl⟩) ?_ ?_
       rotate_left
       ·simp only [Act.put, Qp1, Qp2, Qp3, i64_w, i32_w]
        rfl
       refine pure_ (i := 14) (N := some 54) (v := ?_) (a' := ?_) (Qbz 25 32767) rfl rfl (by kernel_rfl) (fun _ _ _ h => h) (Or.inl ⟨by rfl, ?_⟩) ?_ ?_
       rotate_left
       ·intro w'
        go_simp
        with_reducible rfl
       rotate_left
       ·simp only [Act.put, Qp1, Qp2, Qp3, i64_w, i32_w]
        rfl
       refine pure_ (i := 15) (N := some 55) (v := ?_) (a' := ?_) (Qbz 25 65535) rfl rfl (by kernel_rfl) (fun _ _ _ h => h) (Or.inl ⟨by rfl, ?_⟩) ?_ ?_
       rotate_left
       ·intro w'
        go_simp
        with_reducible rfl
       rotate_left
       ·simp only [Act.put, Qp1, Qp2, Qp3, i64_w, i32_w]
        rfl
       refine pure_ (i := 16) (N := some 56) (v := undef) (a' := ?_) (Qbz 25 131071) rfl rfl (by kernel_rfl) (fun _ _ _ h => h) (Or.inr ⟨by rfl, rfl⟩) ?_ ?_
       rotate_left
       ·simp only [Act.put, Qp1, Qp2, Qp3, i64_w, i32_w]
        rfl
       refine pure_ (i := 17) (N := some 57) (v := undef) (a' := ?_) (Qbz 25 262143) rfl rfl (by kernel_rfl) (fun _ _ _ h => h) (Or.inr ⟨by rfl, rfl⟩) ?_ ?_
       rotate_left
       ·simp only [Act.put, Qp1, Qp2, Qp3, i64_w, i32_w]
        rfl
       refine pure_ (i := 18) (N := some 58) (v := undef) (a' := ?_) (Qbz 25 524287) rfl rfl (by kernel_rfl) (fun _ _ _ h => h) (Or.inr ⟨by rfl, rfl⟩) ?_ ?_
       rotate_left
       ·simp only [Act.put, Qp1, Qp2, Qp3, i64_w, i32_w]
        rfl
       refine pure_ (i := 19) (N := some 59) (v := undef) (a' := ?_) (Qbz 25 1048575) rfl rfl (by kernel_rfl) (fun _ _ _ h => h) (Or.inr ⟨by rfl, rfl⟩) ?_ ?_
       rotate_left
       ·simp only [Act.put, Qp1, Qp2, Qp3, i64_w, i32_w]
        rfl
       refine pure_ (i := 20) (N := some 60) (v := undef) (a' := ?_) (Qbz 25 2097151) rfl rfl (by kernel_rfl) (fun _ _ _ h => h) (Or.inr ⟨by rfl, rfl⟩) ?_ ?_
       rotate_left
       ·simp only [Act.put, Qp1, Qp2, Qp3, i64_w, i32_w]
        rfl
       refine pure_ (i := 21) (N := some 61) (v := undef) (a' := ?_) (Qbz 25 4194303) rfl rfl (by kernel_rfl) (fun _ _ _ h => h) (Or.inr ⟨by rfl, rfl⟩) ?_ ?_
       rotate_left
       ·simp only [Act.put, Qp1, Qp2, Qp3, i64_w, i32_w]
        rfl
       refine pure_ (i := 22) (N := some 62) (v := undef) (a' := ?_) (Qbz 25 8388607) rfl rfl (by kernel_rfl) (fun _ _ _ h => h) (Or.inr ⟨by rfl, rfl⟩) ?_ ?_
       rotate_left
       ·simp only [Act.put, Qp1, Qp2, Qp3, i64_w, i32_w]
        rfl
       refine pure_ (i := 23) (N := some 63) (v := undef) (a' := ?_) (Qbz 25 16777215) rfl rfl (by kernel_rfl) (fun _ _ _ h => h) (Or.inr ⟨by rfl, rfl⟩) ?_ ?_
       rotate_left
       ·simp only [Act.put, Qp1, Qp2, Qp3, i64_w, i32_w]
        rfl
       refine pure_ (i := 24) (N := some 64) (v := ?_) (a' := ?_) (Qbz 25 33554431) rfl rfl (by kernel_rfl) (fun _ _ _ h => h) (Or.inl ⟨by rfl, ?_⟩) ?_ ?_
       rotate_left
       ·intro w'
        go_simp
        with_reducible rfl
       rotate_left
       ·simp only [Act.put, Qp1, Qp2, Qp3, i64_w, i32_w]
        rfl
       refine done_ (by kernel_rfl) ?_
       go_wp2
       go_ret
       exact ⟨rfl, below_step HB7.out fbd⟩
      ·rw [if_neg hp1] at ht
       have hd5 : decide (p < -1) = false := decide_eq_false hp1
       by_cases hp2 : (B.length : Int) ≤ p
       ·rw [if_pos hp2] at ht
        have hd6 : decide (p ≥ (B.length : Int)) = true := decide_eq_true hp2
        have hd7 : decide ((B.length : Int) ≤ p) = true := decide_eq_true hp2
        subst ht
        have hr := HR.out
        simp only [treeB2] at hr
        subst hr
        clear hp1 hp2
        go_wp2_with (fail)
        refine start_ (n := 25) (S := fun w' => Below w7.heap.size w7 w') (ds := []) (Qbz 25 0) (by kernel_rfl) rfl rfl (fbd) (fun hHeld => ?_)
        refine pure_ (i := 0) (N := some 40) (v := ?_) (a' := ?_) (Qbz 25 1) rfl rfl (by kernel_rfl) (fun _ _ _ h => h) (Or.inl ⟨by rfl, ?_⟩) ?_ ?_
        rotate_left
        ·intro w'
         go_simp
         with_reducible rfl
        rotate_left
        ·simp only [Act.put, Qp1, Qp2, Qp3, i64_w, i32_w]
         rfl
        refine pure_ (i := 1) (N := some 41) (v := ?_) (a' := ?_) (Qbz 25 3) rfl rfl (by kernel_rfl) (fun _ _ _ h => h) (Or.inl ⟨by rfl, ?_⟩) ?_ ?_
        rotate_left
        ·intro w'
         go_simp
         with_reducible rfl
        rotate_left
        ·simp only [Act.put, Qp1, Qp2, Qp3, i64_w, i32_w]
         rfl
        refine pure_ (i := 2) (N := some 42) (v := ?_) (a' := ?_) (Qbz 25 7) rfl rfl (by kernel_rfl) (fun _ _ _ h => h) (Or.inl ⟨by rfl, ?_⟩) ?_ ?_
        rotate_left
        ·intro w'
         go_simp
         with_reducible rfl
        rotate_left
        ·simp only [Act.put, Qp1, Qp2, Qp3, i64_w, i32_w]
         rfl
        refine pure_ (i := 3) (N := some 43) (v := ?_) (a' := ?_) (Qbz 25 15) rfl rfl (by kernel_rfl) (fun _ _ _ h => h) (Or.inl ⟨by rfl, ?_⟩) ?_ ?_
        rotate_left
        ·intro w'
         go_simp
         with_reducible rfl
        rotate_left
        ·simp only [Act.put, Qp1, Qp2, Qp3, i64_w, i32_w]
         rfl
        refine pure_ (i := 4) (N := some 44) (v := ?_) (a' := ?_) (Qbz 25 31) rfl rfl (by kernel_rfl) (fun _ _ _ h => h) (Or.inl ⟨by rfl, ?_⟩) ?_ ?_
        rotate_left
        ·intro w'
         go_simp
         with_reducible rfl
        rotate_left
        ·simp only [Act.put, Qp1, Qp2, Qp3, i64_w, i32_w]
         rfl
        refine pure_ (i := 5) (N := some 45) (v := ?_) (a' := ?_) (Qbz 25 63) rfl rfl (by kernel_rfl) (fun _ _ _ h => h) (Or.inl ⟨by rfl, ?_⟩) ?_ ?_
        rotate_left
        ·intro w'
         go_simp
         with_reducible rfl
        rotate_left
        ·simp only [Act.put, Qp1, Qp2, Qp3, i64_w, i32_w]
         rfl
        refine pure_ (i := 6) (N := some 46) (v := ?_) (a' := ?_) (Qbz 25 127) rfl rfl (by kernel_rfl) (fun _ _ _ h => h) (Or.inl ⟨by rfl, ?_⟩) ?_ ?_
        rotate_left
        ·intro w'
         go_simp
         with_reducible rfl
        rotate_left
        ·simp only [Act.put, Qp1, Qp2, Qp3, i64_w, i32_w]
         rfl
        refine pure_ (i := 7) (N := some 47) (v := ?_) (a' := ?_) (Qbz 25 255) rfl rfl (by kernel_rfl) (fun _ _ _ h => h) (Or.inl ⟨by rfl, ?_⟩) ?_ ?_
        rotate_left
        ·intro w'
         go_simp
         with_reducible rfl
        rotate_left
        ·simp only [Act.put, Qp1, Qp2, Qp3, i64_w, i32_w]
         rfl
        refine pure_ (i := 8) (N := some 48) (v := undef) (a' := ?_) (Qbz 25 511) rfl rfl (by kernel_rfl) (fun _ _ _ h => h) (Or.inr ⟨by rfl, rfl⟩) ?_ ?_
        rotate_left
        ·simp only [Act.put, Qp1, Qp2, Qp3, i64_w, i32_w]
         rfl
        refine pure_ (i := 9) (N := some 49) (v := undef) (a' := ?_) (Qbz 25 1023) rfl rfl (by kernel_rfl) (fun _ _ _ h => h) (Or.inr ⟨by rfl, rfl⟩) ?_ ?_
        rotate_left
        ·simp only [Act.put, Qp1, Qp2, Qp3, i64_w, i32_w]
         rfl
        refine pure_ (i := 10) (N := some 50) (v := undef) (a' := ?_) (Qbz 25 2047) rfl rfl (by kernel_rfl) (fun _ _ _ h => h) (Or.inr ⟨by rfl, rfl⟩) ?_ ?_
        rotate_left
        ·simp only [Act.put, Qp1, Qp2, Qp3, i64_w, i32_w]
         rfl
        refine pure_ (i := 11) (N := some 51) (v := undef) (a' := ?_) (Qbz 25 4095) rfl rfl (by kernel_rfl) (fun _ _ _ h => h) (Or.inr ⟨by rfl, rfl⟩) ?_ ?_
        rotate_left
        ·simp only [Act.put, Qp1, Qp2, Qp3, i64_w, i32_w]
         rfl
        refine pure_ (i := 12) (N := some 52) (v := undef) (a' := ?_) (Qbz 25 8191) rfl rfl (by kernel_rfl) (fun _ _ _ h => h) (Or.inr ⟨by rfl, rfl⟩) ?_ ?_
        rotate_left
        ·simp only [Act.put, Qp1, Qp2, Qp3, i64_w, i32_w]
         rfl
        refine pure_ (i := 13) (N := some 53) (v := undef) (a' := ?_) (Qbz 25 16383) rfl rfl (by kernel_rfl) (fun _ _ _ h => h) (Or.inr ⟨by rfl, rfl⟩) ?_ ?_
        rotate_left
        ·simp only [Act.put, Qp1, Qp2, Qp3, i64_w, i32_w]
         rfl
        refine pure_ (i := 14) (N := some 54) (v := ?_) (a' := ?_) (Qbz 25 32767) rfl rfl (by kernel_rfl) (fun _ _ _ h => h) (Or.inl ⟨by rfl, ?_⟩) ?_ ?_
        rotate_left
        ·intro w'
         go_simp
         with_reducible rfl
        rotate_left
        ·simp only [Act.put, Qp1, Qp2, Qp3, i64_w, i32_w]
         rfl
        refine pure_ (i := 15) (N := some 55) (v := ?_) (a' := ?_) (Qbz 25 65535) rfl rfl (by kernel_rfl) (fun _ _ _ h => h) (Or.inl ⟨by rfl, ?_⟩) ?_ ?_
        rotate_left
        ·intro w'
         go_simp
         with_reducible rfl
        rotate_left
        ·simp only [Act.put, Qp1, Qp2, Qp3, i64_w, i32_w]
         rfl
        refine pure_ (i := 16) (N := some 56) (v := undef) (a' := ?_) (Qbz 25 131071) rfl rfl (by kernel_rfl) (fun _ _ _ h => h) (Or.inr ⟨by rfl, rfl⟩) ?_ ?_
        rotate_left
        ·simp only [Act.put, Qp1, Qp2, Qp3, i64_w, i32_w]
         rfl
        refine pure_ (i := 17) (N := some 57) (v := undef) (a' := ?_) (Qbz 25 262143) rfl rfl (by kernel_rfl) (fun _ _ _ h => h) (Or.inr ⟨by rfl, rfl⟩) ?_ ?_
        rotate_left
        ·simp only [Act.put, Qp1, Qp2, Qp3, i64_w, i32_w]
         rfl
        refine pure_ (i := 18) (N := some 58) (v := undef) (a' := ?_) (Qbz 25 524287) rfl rfl (by kernel_rfl) (fun _ _ _ h => h) (Or.inr ⟨by rfl, rfl⟩) ?_ ?_
        rotate_left
        ·simp only [Act.put, Qp1, Qp2, Qp3, i64_w, i32_w]
         rfl
        refine pure_ (i := 19) (N := some 59) (v := undef) (a' := ?_) (Qbz 25 1048575) rfl rfl (by kernel_rfl) (fun _ _ _ h => h) (Or.inr ⟨by rfl, rfl⟩) ?_ ?_
        rotate_left
        ·simp only [Act.put, Qp1, Qp2, Qp3, i64_w, i32_w]
         rfl
        refine pure_ (i := 20) (N := some 60) (v := undef) (a' := ?_) (Qbz 25 2097151) rfl rfl (by kernel_rfl) (fun _ _ _ h => h) (Or.inr ⟨by rfl, rfl⟩) ?_ ?_
        rotate_left
        ·simp only [Act.put, Qp1, Qp2, Qp3, i64_w, i32_w]
         rfl
        refine pure_ (i := 21) (N := some 61) (v := undef) (a' := ?_) (Qbz 25 4194303) rfl rfl (by kernel_rfl) (fun _ _ _ h => h) (Or.inr ⟨by rfl, rfl⟩) ?_ ?_
        rotate_left
        ·simp only [Act.put, Qp1, Qp2, Qp3, i64_w, i32_w]
         rfl
        refine pure_ (i := 22) (N := some 62) (v := undef) (a' := ?_) (Qbz 25 8388607) rfl rfl (by kernel_rfl) (fun _ _ _ h => h) (Or.inr ⟨by rfl, rfl⟩) ?_ ?_
        rotate_left
        ·simp only [Act.put, Qp1, Qp2, Qp3, i64_w, i32_w]
         rfl
        refine pure_ (i := 23) (N := some 63) (v := undef) (a' := ?_) (Qbz 25 16777215) rfl rfl (by kernel_rfl) (fun _ _ _ h => h) (Or.inr ⟨by rfl, rfl⟩) ?_ ?_
        rotate_left
        ·simp only [Act.put, Qp1, Qp2, Qp3, i64_w, i32_w]
         rfl
        refine pure_ (i := 24) (N := some 64) (v := ?_) (a' := ?_) (Qbz 25 33554431) rfl rfl (by kernel_rfl) (fun _ _ _ h => h) (Or.inl ⟨by rfl, ?_⟩) ?_ ?_
        rotate_left
        ·intro w'
         go_simp
         with_reducible rfl
        rotate_left
        ·simp only [Act.put, Qp1, Qp2, Qp3, i64_w, i32_w]
         rfl
        refine done_ (by kernel_rfl) ?_
        go_wp2
        go_ret
        exact ⟨rfl, below_step HB7.out fbd⟩
       ·rw [if_neg hp2] at ht
        have hd6 : decide (p ≥ (B.length : Int)) = false := decide_eq_false hp2
        have hd7 : decide ((B.length : Int) ≤ p) = false := decide_eq_false hp2
        by_cases hb1 : b < 0
        ·rw [if_pos hb1] at ht
         have hd8 : decide (b < 0) = true := decide_eq_true hb1
         subst ht
         have hr := HR.out
         simp only [treeB2] at hr
         subst hr
         clear hp1 hp2 hb1
         go_wp2_with (fail)
         refine start_ (n := 25) (S := fun w' => w'.cell? ⟨xB, 0, none⟩ = some (.slice (some adB) B.length c0) ∧ w'.cell? (adB.add i) = some (.int .i64 b) ∧ Below w7.heap.size w7 w') (ds := []) (Qbz 25 0) (by kernel_rfl) rfl rfl ⟨f0d, f1d, fbd⟩ (fun hHeld => ?_)
         refine pure_ (i := 0) (N := some 40) (v := ?_) (a' := ?_) (Qbz 25 1) rfl rfl (by kernel_rfl) (fun _ _ _ h => h) (Or.inl ⟨by rfl, ?_⟩) ?_ ?_
         rotate_left
         ·intro w'
          go_simp
          with_reducible rfl
         rotate_left
         ·simp only [Act.put, Qp1, Qp2, Qp3, i64_w, i32_w]
          rfl
         refine pure_ (i := 1) (N := some 41) (v := ?_) (a' := ?_) (Qbz 25 3) rfl rfl (by kernel_rfl) (fun _ _ _ h => h) (Or.inl ⟨by rfl, ?_⟩) ?_ ?_
         rotate_left
         ·intro w'
          go_simp
          with_reducible rfl
         rotate_left
         ·simp only [Act.put, Qp1, Qp2, Qp3, i64_w, i32_w]
          rfl
         refine pure_ (i := 2) (N := some 42) (v := ?_) (a' := ?_) (Qbz 25 7) rfl rfl (by kernel_rfl) (fun _ _ _ h => h) (Or.inl ⟨by rfl, ?_⟩) ?_ ?_
         rotate_left
         ·intro w'
          go_simp
          with_reducible rfl
         rotate_left
         ·simp only [Act.put, Qp1, Qp2, Qp3, i64_w, i32_w]
          rfl
         refine pure_ (i := 3) (N := some 43) (v := ?_) (a' := ?_) (Qbz 25 15) rfl rfl (by kernel_rfl) (fun _ _ _ h => h) (Or.inl ⟨by rfl, ?_⟩) ?_ ?_
         rotate_left
         ·intro w'
          go_simp
          with_reducible rfl
         rotate_left
         ·simp only [Act.put, Qp1, Qp2, Qp3, i64_w, i32_w]
          rfl
         refine pure_ (i := 4) (N := some 44) (v := ?_) (a' := ?_) (Qbz 25 31) rfl rfl (by kernel_rfl) (fun _ _ _ h => h) (Or.inl ⟨by rfl, ?_⟩) ?_ ?_
         rotate_left
         ·intro w'
          go_simp
          with_reducible rfl
         rotate_left
         ·simp only [Act.put, Qp1, Qp2, Qp3, i64_w, i32_w]
          rfl
         refine pure_ (i := 5) (N := some 45) (v := ?_) (a' := ?_) (Qbz 25 63) rfl rfl (by kernel_rfl) (fun _ _ _ h => h) (Or.inl ⟨by rfl, ?_⟩) ?_ ?_
         rotate_left
         ·intro w'
          go_simp
          with_reducible rfl
         rotate_left
         ·simp only [Act.put, Qp1, Qp2, Qp3, i64_w, i32_w]
          rfl
         refine pure_ (i := 6) (N := some 46) (v := ?_) (a' := ?_) (Qbz 25 127) rfl rfl (by kernel_rfl) (fun _ _ _ h => h) (Or.inl ⟨by rfl, ?_⟩) ?_ ?_
         rotate_left
         ·intro w'
          go_simp
          with_reducible rfl
         rotate_left
         ·simp only [Act.put, Qp1, Qp2, Qp3, i64_w, i32_w]
          rfl
         refine pure_ (i := 7) (N := some 47) (v := ?_) (a' := ?_) (Qbz 25 255) rfl rfl (by kernel_rfl) (fun _ _ _ h => h) (Or.inl ⟨by rfl, ?_⟩) ?_ ?_
         rotate_left
         ·intro w'
          go_simp
          with_reducible rfl
         rotate_left
         ·simp only [Act.put, Qp1, Qp2, Qp3, i64_w, i32_w]
          rfl
         refine pure_ (i := 8) (N := some 48) (v := ?_) (a' := ?_) (Qbz 25 511) rfl rfl (by kernel_rfl) (fun _ _ _ h => h) (Or.inl ⟨by rfl, ?_⟩) ?_ ?_
         rotate_left
         ·intro w'
          go_simp
          with_reducible rfl
         rotate_left
         ·simp only [Act.put, Qp1, Qp2, Qp3, i64_w, i32_w]
          rfl
         refine pure_ (i := 10) (N := some 50) (v := ?_) (a' := ?_) (Qbz 25 1535) rfl rfl (by kernel_rfl) (fun _ _ _ h => h) (Or.inl ⟨by rfl, ?_⟩) ?_ ?_
         rotate_left
         ·intro w'
          go_simp
          with_reducible rfl
         rotate_left
         ·simp only [Act.put, Qp1, Qp2, Qp3, i64_w, i32_w]
          rfl
         refine take_ (i := 9) (N := some 49) (v := ?_) (a' := ?_) (Qbz 25 2047) rfl rfl (by kernel_rfl) (fun _ _ _ h => h) (Or.inl ⟨by rfl, ?_⟩) hHeld ?_ ?_
         rotate_left
         ·rintro w' ⟨s0, s1, s2⟩
          go_simp
          with_reducible rfl
         rotate_left
         ·simp only [Act.put, Qp1, Qp2, Qp3, i64_w, i32_w]
          rfl
         refine pure_ (i := 11) (N := some 51) (v := ?_) (a' := ?_) (Qbz 25 4095) rfl rfl (by kernel_rfl) (fun _ _ _ h => h) (Or.inl ⟨by rfl, ?_⟩) ?_ ?_
         rotate_left
         ·intro w'
          go_simp
          with_reducible rfl
         rotate_left
         ·simp only [Act.put, Qp1, Qp2, Qp3, i64_w, i32_w]
          rfl
         refine take_ (i := 12) (N := some 52) (v := ?_) (a' := ?_) (Qbz 25 8191) rfl rfl (by kernel_rfl) (fun _ _ _ h => h) (Or.inl ⟨by rfl, ?_⟩) hHeld ?_ ?_
         rotate_left
         ·rintro w' ⟨s0, s1, s2⟩
          go_simp
          with_reducible rfl
         rotate_left
         ·simp only [Act.put, Qp1, Qp2, Qp3, i64_w, i32_w]
          rfl
         refine pure_ (i := 13) (N := some 53) (v := ?_) (a' := ?_) (Qbz 25 16383) rfl rfl (by kernel_rfl) (fun _ _ _ h => h) (Or.inl ⟨by rfl, ?_⟩) ?_ ?_
         rotate_left
         ·intro w'
          go_simp
          with_reducible rfl
         rotate_left
         ·simp only [Act.put, Qp1, Qp2, Qp3, i64_w, i32_w]
          rfl
         refine pure_ (i := 14) (N := some 54) (v := ?_) (a' := ?_) (Qbz 25 32767) rfl rfl (by kernel_rfl) (fun _ _ _ h => h) (Or.inl ⟨by rfl, ?_⟩) ?_ ?_
         rotate_left
         ·intro w'
          go_simp
          with_reducible rfl
         rotate_left
         ·simp only [Act.put, Qp1, Qp2, Qp3, i64_w, i32_w]
          rfl
         refine pure_ (i := 15) (N := some 55) (v := ?_) (a' := ?_) (Qbz 25 65535) rfl rfl (by kernel_rfl) (fun _ _ _ h => h) (Or.inl ⟨by rfl, ?_⟩) ?_ ?_
         rotate_left
         ·intro w'
          go_simp
          with_reducible rfl
         rotate_left
         ·simp only [Act.put, Qp1, Qp2, Qp3, i64_w, i32_w]
          rfl
         refine pure_ (i := 16) (N := some 56) (v := undef) (a' := ?_) (Qbz 25 131071) rfl rfl (by kernel_rfl) (fun _ _ _ h => h) (Or.inr ⟨by rfl, rfl⟩) ?_ ?_
         rotate_left
         ·simp only [Act.put, Qp1, Qp2, Qp3, i64_w, i32_w]
          rfl
         refine pure_ (i := 17) (N := some 57) (v := undef) (a' := ?_) (Qbz 25 262143) rfl rfl (by kernel_rfl) (fun _ _ _ h => h) (Or.inr ⟨by rfl, rfl⟩) ?_ ?_
         rotate_left
         ·simp only [Act.put, Qp1, Qp2, Qp3, i64_w, i32_w]
          rfl
         refine pure_ (i := 18) (N := some 58) (v := undef) (a' := ?_) (Qbz 25 524287) rfl rfl (by kernel_rfl) (fun _ _ _ h => h) (Or.inr ⟨by rfl, rfl⟩) ?_ ?_
         rotate_left
         ·simp only [Act.put, Qp1, Qp2, Qp3, i64_w, i32_w]
          rfl
         refine pure_ (i := 19) (N := some 59) (v := undef) (a' := ?_) (Qbz 25 1048575) rfl rfl (by kernel_rfl) (fun _ _ _ h => h) (Or.inr ⟨by rfl, rfl⟩) ?_ ?_
         rotate_left
         ·simp only [Act.put, Qp1, Qp2, Qp3, i64_w, i32_w]
          rfl
         refine pure_ (i := 20) (N := some 60) (v := undef) (a' := ?_) (Qbz 25 2097151) rfl rfl (by kernel_rfl) (fun _ _ _ h => h) (Or.inr ⟨by rfl, rfl⟩) ?_ ?_
         rotate_left
         ·simp only [Act.put, Qp1, Qp2, Qp3, i64_w, i32_w]
          rfl
         refine pure_ (i := 21) (N := some 61) (v := undef) (a' := ?_) (Qbz 25 4194303) rfl rfl (by kernel_rfl) (fun _ _ _ h => h) (Or.inr ⟨by rfl, rfl⟩) ?_ ?_
         rotate_left
         ·simp only [Act.put, Qp1, Qp2, Qp3, i64_w, i32_w]
          rfl
         refine pure_ (i := 22) (N := some 62) (v := undef) (a' := ?_) (Qbz 25 8388607) rfl rfl (by kernel_rfl) (fun _ _ _ h => h) (Or.inr ⟨by rfl, rfl⟩) ?_ ?_
         rotate_left
         ·simp only [Act.put, Qp1, Qp2, Qp3, i64_w, i32_w]
          rfl
         refine pure_ (i := 23) (N := some 63) (v := undef) (a' := ?_) (Qbz 25 16777215) rfl rfl (by kernel_rfl) (fun _ _ _ h => h) (Or.inr ⟨by rfl, rfl⟩) ?_ ?_
         rotate_left
         ·simp only [Act.put, Qp1, Qp2, Qp3, i64_w, i32_w]
          rfl
         refine pure_ (i := 24) (N := some 64) (v := ?_) (a' := ?_) (Qbz 25 33554431) rfl rfl (by kernel_rfl) (fun _ _ _ h => h) (Or.inl ⟨by rfl, ?_⟩) ?_ ?_
         rotate_left
         ·intro w'
          go_simp
          with_reducible rfl
         rotate_left
         ·simp only [Act.put, Qp1, Qp2, Qp3, i64_w, i32_w]
          rfl
         refine done_ (by kernel_rfl) ?_
         go_wp2
         go_ret
         exact ⟨rfl, below_step HB7.out fbd⟩
        ·rw [if_neg hb1] at ht
         have hd8 : decide (b < 0) = false := decide_eq_false hb1
         have CALL : Aside0 (∀ W, (W.cell? ⟨xB, 0, none⟩ = some (.slice (some adB) B.length c0) ∧ W.cell? (adB.add i) = some (.int .i64 b) ∧ Below w7.heap.size w7 W) → Calls Tryd.prog 67 #[.slice Ag G.length cg] W fun e w' => e = .returned (.int .i64 (PA : Int)) ∧ w'.cell? ⟨xB, 0, none⟩ = some (.slice (some adB) B.length c0) ∧ w'.cell? (adB.add i) = some (.int .i64 b) ∧ Below w7.heap.size w7 w') := ⟨fun W hW => by
          have := width_town_all.calls Ag cg (gi G) _ W (Kd.C_below (Kd.C_below HRG.out HB7.out) hW.2.2) (by rw [HL.out]; exact hcg) HALL.out
          rw [HL.out] at this
          exact this.mono fun e w' ⟨h, m, hm⟩ => ⟨h, by rw [hm]; exact ⟨hW.1, hW.2.1, pw_below_drewN hW.2.2 m⟩⟩⟩
         by_cases hb2 : (PA : Int) < b
         ·rw [if_pos hb2] at ht
          have hd9 : decide (b > (PA : Int)) = true := decide_eq_true hb2
          have hd10 : decide ((PA : Int) < b) = true := decide_eq_true hb2
          subst ht
          have hr := HR.out
          simp only [treeB2] at hr
          subst hr
          clear hp1 hp2 hb1 hb2
          go_wp2_with (fail)
          refine start_ (n := 25) (S := fun w' => w'.cell? ⟨xB, 0, none⟩ = some (.slice (some adB) B.length c0) ∧ w'.cell? (adB.add i) = some (.int .i64 b) ∧ Below w7.heap.size w7 w') (ds := []) (Qbz 25 0) (by kernel_rfl) rfl rfl ⟨f0d, f1d, fbd⟩ (fun hHeld => ?_)
          refine pure_ (i := 0) (N := some 40) (v := ?_) (a' := ?_) (Qbz 25 1) rfl rfl (by kernel_rfl) (fun _ _ _ h => h) (Or.inl ⟨by rfl, ?_⟩) ?_ ?_
          rotate_left
          ·intro w'
           go_simp
           with_reducible rfl
          rotate_left
          ·simp only [Act.put, Qp1, Qp2, Qp3, i64_w, i32_w]
           rfl
          refine pure_ (i := 1) (N := some 41) (v := ?_) (a' := ?_) (Qbz 25 3) rfl rfl (by kernel_rfl) (fun _ _ _ h => h) (Or.inl ⟨by rfl, ?_⟩) ?_ ?_
          rotate_left
          ·intro w'
           go_simp
           with_reducible rfl
          rotate_left
          ·simp only [Act.put, Qp1, Qp2, Qp3, i64_w, i32_w]
           rfl
          refine pure_ (i := 2) (N := some 42) (v := ?_) (a' := ?_) (Qbz 25 7) rfl rfl (by kernel_rfl) (fun _ _ _ h => h) (Or.inl ⟨by rfl, ?_⟩) ?_ ?_
          rotate_left
          ·intro w'
           go_simp
           with_reducible rfl
          rotate_left
          ·simp only [Act.put, Qp1, Qp2, Qp3, i64_w, i32_w]
           rfl
          refine pure_ (i := 3) (N := some 43) (v := ?_) (a' := ?_) (Qbz 25 15) rfl rfl (by kernel_rfl) (fun _ _ _ h => h) (Or.inl ⟨by rfl, ?_⟩) ?_ ?_
          rotate_left
          ·intro w'
           go_simp
           with_reducible rfl
          rotate_left
          ·simp only [Act.put, Qp1, Qp2, Qp3, i64_w, i32_w]
           rfl
          refine pure_ (i := 4) (N := some 44) (v := ?_) (a' := ?_) (Qbz 25 31) rfl rfl (by kernel_rfl) (fun _ _ _ h => h) (Or.inl ⟨by rfl, ?_⟩) ?_ ?_
          rotate_left
          ·intro w'
           go_simp
           with_reducible rfl
          rotate_left
          ·simp only [Act.put, Qp1, Qp2, Qp3, i64_w, i32_w]
           rfl
          refine pure_ (i := 5) (N := some 45) (v := ?_) (a' := ?_) (Qbz 25 63) rfl rfl (by kernel_rfl) (fun _ _ _ h => h) (Or.inl ⟨by rfl, ?_⟩) ?_ ?_
          rotate_left
          ·intro w'
           go_simp
           with_reducible rfl
          rotate_left
          ·simp only [Act.put, Qp1, Qp2, Qp3, i64_w, i32_w]
           rfl
          refine pure_ (i := 6) (N := some 46) (v := ?_) (a' := ?_) (Qbz 25 127) rfl rfl (by kernel_rfl) (fun _ _ _ h => h) (Or.inl ⟨by rfl, ?_⟩) ?_ ?_
          rotate_left
          ·intro w'
           go_simp
           with_reducible rfl
          rotate_left
          ·simp only [Act.put, Qp1, Qp2, Qp3, i64_w, i32_w]
           rfl
          refine pure_ (i := 7) (N := some 47) (v := ?_) (a' := ?_) (Qbz 25 255) rfl rfl (by kernel_rfl) (fun _ _ _ h => h) (Or.inl ⟨by rfl, ?_⟩) ?_ ?_
          rotate_left
          ·intro w'
           go_simp
           with_reducible rfl
          rotate_left
          ·simp only [Act.put, Qp1, Qp2, Qp3, i64_w, i32_w]
           rfl
          refine pure_ (i := 8) (N := some 48) (v := ?_) (a' := ?_) (Qbz 25 511) rfl rfl (by kernel_rfl) (fun _ _ _ h => h) (Or.inl ⟨by rfl, ?_⟩) ?_ ?_
          rotate_left
          ·intro w'
           go_simp
           with_reducible rfl
          rotate_left
          ·simp only [Act.put, Qp1, Qp2, Qp3, i64_w, i32_w]
           rfl
          refine pure_ (i := 10) (N := some 50) (v := ?_) (a' := ?_) (Qbz 25 1535) rfl rfl (by kernel_rfl) (fun _ _ _ h => h) (Or.inl ⟨by rfl, ?_⟩) ?_ ?_
          rotate_left
          ·intro w'
           go_simp
           with_reducible rfl
          rotate_left
          ·simp only [Act.put, Qp1, Qp2, Qp3, i64_w, i32_w]
           rfl
          refine take_ (i := 9) (N := some 49) (v := ?_) (a' := ?_) (Qbz 25 2047) rfl rfl (by kernel_rfl) (fun _ _ _ h => h) (Or.inl ⟨by rfl, ?_⟩) hHeld ?_ ?_
          rotate_left
          ·rintro w' ⟨s0, s1, s2⟩
           go_simp
           with_reducible rfl
          rotate_left
          ·simp only [Act.put, Qp1, Qp2, Qp3, i64_w, i32_w]
           rfl
          refine pure_ (i := 11) (N := some 51) (v := ?_) (a' := ?_) (Qbz 25 4095) rfl rfl (by kernel_rfl) (fun _ _ _ h => h) (Or.inl ⟨by rfl, ?_⟩) ?_ ?_
          rotate_left
          ·intro w'
           go_simp
           with_reducible rfl
          rotate_left
          ·simp only [Act.put, Qp1, Qp2, Qp3, i64_w, i32_w]
           rfl
          refine take_ (i := 12) (N := some 52) (v := ?_) (a' := ?_) (Qbz 25 8191) rfl rfl (by kernel_rfl) (fun _ _ _ h => h) (Or.inl ⟨by rfl, ?_⟩) hHeld ?_ ?_
          rotate_left
          ·rintro w' ⟨s0, s1, s2⟩
           go_simp
           with_reducible rfl
          rotate_left
          ·simp only [Act.put, Qp1, Qp2, Qp3, i64_w, i32_w]
           rfl
          refine pure_ (i := 13) (N := some 53) (v := ?_) (a' := ?_) (Qbz 25 16383) rfl rfl (by kernel_rfl) (fun _ _ _ h => h) (Or.inl ⟨by rfl, ?_⟩) ?_ ?_
          rotate_left
          ·intro w'
           go_simp
           with_reducible rfl
          rotate_left
          ·simp only [Act.put, Qp1, Qp2, Qp3, i64_w, i32_w]
           rfl
          refine pure_ (i := 14) (N := some 54) (v := ?_) (a' := ?_) (Qbz 25 32767) rfl rfl (by kernel_rfl) (fun _ _ _ h => h) (Or.inl ⟨by rfl, ?_⟩) ?_ ?_
          rotate_left
          ·intro w'
           go_simp
           with_reducible rfl
          rotate_left
          ·simp only [Act.put, Qp1, Qp2, Qp3, i64_w, i32_w]
           rfl
          refine pure_ (i := 15) (N := some 55) (v := ?_) (a' := ?_) (Qbz 25 65535) rfl rfl (by kernel_rfl) (fun _ _ _ h => h) (Or.inl ⟨by rfl, ?_⟩) ?_ ?_
          rotate_left
          ·intro w'
           go_simp
           with_reducible rfl
          rotate_left
          ·simp only [Act.put, Qp1, Qp2, Qp3, i64_w, i32_w]
           rfl
          refine pure_ (i := 16) (N := some 56) (v := ?_) (a' := ?_) (Qbz 25 131071) rfl rfl (by kernel_rfl) (fun _ _ _ h => h) (Or.inl ⟨by rfl, ?_⟩) ?_ ?_
          rotate_left
          ·intro w'
           go_simp
           with_reducible rfl
          rotate_left
          ·simp only [Act.put, Qp1, Qp2, Qp3, i64_w, i32_w]
           rfl
          refine pure_ (i := 18) (N := some 58) (v := ?_) (a' := ?_) (Qbz 25 393215) rfl rfl (by kernel_rfl) (fun _ _ _ h => h) (Or.inl ⟨by rfl, ?_⟩) ?_ ?_
          rotate_left
          ·intro w'
           go_simp
           with_reducible rfl
          rotate_left
          ·simp only [Act.put, Qp1, Qp2, Qp3, i64_w, i32_w]
           rfl
          refine pure_ (i := 21) (N := some 61) (v := ?_) (a' := ?_) (Qbz 25 2490367) rfl rfl (by kernel_rfl) (fun _ _ _ h => h) (Or.inl ⟨by rfl, ?_⟩) ?_ ?_
          rotate_left
          ·intro w'
           go_simp
           with_reducible rfl
          rotate_left
          ·simp only [Act.put, Qp1, Qp2, Qp3, i64_w, i32_w]
           rfl
          refine take_ (i := 17) (N := some 57) (v := ?_) (a' := ?_) (Qbz 25 2621439) rfl rfl (by kernel_rfl) (fun _ _ _ h => h) (Or.inl ⟨by rfl, ?_⟩) hHeld ?_ ?_
          rotate_left
          ·rintro w' ⟨s0, s1, s2⟩
           go_simp
           with_reducible rfl
          rotate_left
          ·simp only [Act.put, Qp1, Qp2, Qp3, i64_w, i32_w]
           rfl
          refine pure_ (i := 19) (N := some 59) (v := ?_) (a' := ?_) (Qbz 25 3145727) rfl rfl (by kernel_rfl) (fun _ _ _ h => h) (Or.inl ⟨by rfl, ?_⟩) ?_ ?_
          rotate_left
          ·intro w'
           go_simp
           with_reducible rfl
          rotate_left
          ·simp only [Act.put, Qp1, Qp2, Qp3, i64_w, i32_w]
           rfl
          refine take_ (i := 20) (N := some 60) (v := ?_) (a' := ?_) (Qbz 25 4194303) rfl rfl (by kernel_rfl) (fun _ _ _ h => h) (Or.inl ⟨by rfl, ?_⟩) hHeld ?_ ?_
          rotate_left
          ·rintro w' ⟨s0, s1, s2⟩
           go_simp
           with_reducible rfl
          rotate_left
          ·simp only [Act.put, Qp1, Qp2, Qp3, i64_w, i32_w]
           rfl
          refine one_ (i := 22) (N := some 62) (Qbz 25 8388607) rfl rfl (by kernel_rfl) (by decide) (fun K hK => ?_)
          refine goes_ Tryd.func67 (by kernel_rfl) rfl #[.slice Ag G.length cg] (by rfl) rfl rfl (by simp only [List.map_toArray, List.map_cons, List.map_nil]; rfl) ?_
          with_reducible refine (CALL.out _ hHeld).mono ?_
          rintro e w3 ⟨rfl, g0, g1, gB⟩
          refine ⟨_, rfl, ?_⟩
          refine hK.out _ _ ⟨g0, g1, gB⟩ (fun hHeld => ?_)
          clear hK K
          refine norm_ (a' := ?_) ?_ ?_
          rotate_left
          ·show Act.put _ (some 62) _ = _
           simp only [Act.put, Qp1, Qp2, Qp3, i64_w, i32_w]
           rfl
          refine pure_ (i := 23) (N := some 63) (v := ?_) (a' := ?_) (Qbz 25 16777215) rfl rfl (by kernel_rfl) (fun _ _ _ h => h) (Or.inl ⟨by rfl, ?_⟩) ?_ ?_
          rotate_left
          ·intro w'
           go_simp
           with_reducible rfl
          rotate_left
          ·simp only [Act.put, Qp1, Qp2, Qp3, i64_w, i32_w]
           rfl
          refine pure_ (i := 24) (N := some 64) (v := ?_) (a' := ?_) (Qbz 25 33554431) rfl rfl (by kernel_rfl) (fun _ _ _ h => h) (Or.inl ⟨by rfl, ?_⟩) ?_ ?_
          rotate_left
          ·intro w'
           go_simp
           with_reducible rfl
          rotate_left
          ·simp only [Act.put, Qp1, Qp2, Qp3, i64_w, i32_w]
           rfl
          refine done_ (by kernel_rfl) ?_
          go_wp2
          go_ret
          exact ⟨rfl, below_step HB7.out gB⟩
         ·rw [if_neg hb2] at ht
          have hd9 : decide (b > (PA : Int)) = false := decide_eq_false hb2
          have hd10 : decide ((PA : Int) < b) = false := decide_eq_false hb2
          obtain ⟨bn, rfl⟩ := Int.eq_ofNat_of_zero_le (show 0 ≤ b by omega)
          rw [Int.toNat_natCast] at ht
          have hd12 : decide (PA < bn) = false := decide_eq_false (by omega)
          have hd13 : decide (bn > PA) = false := decide_eq_false (by omega)
          have hor := b_or ac bn (by omega) (by omega)
          have hac2 : ac ||| bn < 512 := Nat.or_lt_two_pow (n := 9) hac (by omega)
          generalize ac ||| bn = a2 at *
          by_cases hp0 : p < 0
          ·rw [if_pos hp0] at ht
           have hd11 : decide (p < 0) = true := decide_eq_true hp0
           have HT2 := Aside0.mk ht
           clear hp1 hp2 hb1 hb2 ht hp0
           go_wp2_with (fail)
           refine start_ (n := 25) (S := fun w' => w'.cell? ⟨xB, 0, none⟩ = some (.slice (some adB) B.length c0) ∧ w'.cell? (adB.add i) = some (.int .i64 (bn : Int)) ∧ Below w7.heap.size w7 w') (ds := []) (Qbz 25 0) (by kernel_rfl) rfl rfl ⟨f0d, f1d, fbd⟩ (fun hHeld => ?_)
           refine pure_ (i := 0) (N := some 40) (v := ?_) (a' := ?_) (Qbz 25 1) rfl rfl (by kernel_rfl) (fun _ _ _ h => h) (Or.inl ⟨by rfl, ?_⟩) ?_ ?_
           rotate_left
           ·intro w'
            go_simp
            with_reducible rfl
           rotate_left
           ·simp only [Act.put, Qp1, Qp2, Qp3, i64_w, i32_w]
            rfl
           refine pure_ (i := 1) (N := some 41) (v := ?_) (a' := ?_) (Qbz 25 3) rfl rfl (by kernel_rfl) (fun _ _ _ h => h) (Or.inl ⟨by rfl, ?_⟩) ?_ ?_
           rotate_left
           ·intro w'
            go_simp
            with_reducible rfl
           rotate_left
           ·simp only [Act.put, Qp1, Qp2, Qp3, i64_w, i32_w]
            rfl
           refine pure_ (i := 2) (N := some 42) (v := ?_) (a' := ?_) (Qbz 25 7) rfl rfl (by kernel_rfl) (fun _ _ _ h => h) (Or.inl ⟨by rfl, ?_⟩) ?_ ?_
           rotate_left
           ·intro w'
            go_simp
            with_reducible rfl
           rotate_left
           ·simp only [Act.put, Qp1, Qp2, Qp3, i64_w, i32_w]
            rfl
           refine pure_ (i := 3) (N := some 43) (v := ?_) (a' := ?_) (Qbz 25 15) rfl rfl (by kernel_rfl) (fun _ _ _ h => h) (Or.inl ⟨by rfl, ?_⟩) ?_ ?_
           rotate_left
           ·intro w'
            go_simp
            with_reducible rfl
           rotate_left
           ·simp only [Act.put, Qp1, Qp2, Qp3, i64_w, i32_w]
            rfl
           refine pure_ (i := 4) (N := some 44) (v := ?_) (a' := ?_) (Qbz 25 31) rfl rfl (by kernel_rfl) (fun _ _ _ h => h) (Or.inl ⟨by rfl, ?_⟩) ?_ ?_
           rotate_left
           ·intro w'
            go_simp
            with_reducible rfl
           rotate_left
           ·simp only [Act.put, Qp1, Qp2, Qp3, i64_w, i32_w]
            rfl
           refine pure_ (i := 5) (N := some 45) (v := ?_) (a' := ?_) (Qbz 25 63) rfl rfl (by kernel_rfl) (fun _ _ _ h => h) (Or.inl ⟨by rfl, ?_⟩) ?_ ?_
           rotate_left
           ·intro w'
            go_simp
            with_reducible rfl
           rotate_left
           ·simp only [Act.put, Qp1, Qp2, Qp3, i64_w, i32_w]
            rfl
           refine pure_ (i := 6) (N := some 46) (v := ?_) (a' := ?_) (Qbz 25 127) rfl rfl (by kernel_rfl) (fun _ _ _ h => h) (Or.inl ⟨by rfl, ?_⟩) ?_ ?_
           rotate_left
           ·intro w'
            go_simp
            with_reducible rfl
           rotate_left
           ·simp only [Act.put, Qp1, Qp2, Qp3, i64_w, i32_w]
            rfl
           refine pure_ (i := 7) (N := some 47) (v := ?_) (a' := ?_) (Qbz 25 255) rfl rfl (by kernel_rfl) (fun _ _ _ h => h) (Or.inl ⟨by rfl, ?_⟩) ?_ ?_
           rotate_left
           ·intro w'
            go_simp
            with_reducible rfl
           rotate_left
           ·simp only [Act.put, Qp1, Qp2, Qp3, i64_w, i32_w]
            rfl
           refine pure_ (i := 8) (N := some 48) (v := ?_) (a' := ?_) (Qbz 25 511) rfl rfl (by kernel_rfl) (fun _ _ _ h => h) (Or.inl ⟨by rfl, ?_⟩) ?_ ?_
           rotate_left
           ·intro w'
            go_simp
            with_reducible rfl
           rotate_left
           ·simp only [Act.put, Qp1, Qp2, Qp3, i64_w, i32_w]
            rfl
           refine pure_ (i := 10) (N := some 50) (v := ?_) (a' := ?_) (Qbz 25 1535) rfl rfl (by kernel_rfl) (fun _ _ _ h => h) (Or.inl ⟨by rfl, ?_⟩) ?_ ?_
           rotate_left
           ·intro w'
            go_simp
            with_reducible rfl
           rotate_left
           ·simp only [Act.put, Qp1, Qp2, Qp3, i64_w, i32_w]
            rfl
           refine take_ (i := 9) (N := some 49) (v := ?_) (a' := ?_) (Qbz 25 2047) rfl rfl (by kernel_rfl) (fun _ _ _ h => h) (Or.inl ⟨by rfl, ?_⟩) hHeld ?_ ?_
           rotate_left
           ·rintro w' ⟨s0, s1, s2⟩
            go_simp
            with_reducible rfl
           rotate_left
           ·simp only [Act.put, Qp1, Qp2, Qp3, i64_w, i32_w]
            rfl
           refine pure_ (i := 11) (N := some 51) (v := ?_) (a' := ?_) (Qbz 25 4095) rfl rfl (by kernel_rfl) (fun _ _ _ h => h) (Or.inl ⟨by rfl, ?_⟩) ?_ ?_
           rotate_left
           ·intro w'
            go_simp
            with_reducible rfl
           rotate_left
           ·simp only [Act.put, Qp1, Qp2, Qp3, i64_w, i32_w]
            rfl
           refine take_ (i := 12) (N := some 52) (v := ?_) (a' := ?_) (Qbz 25 8191) rfl rfl (by kernel_rfl) (fun _ _ _ h => h) (Or.inl ⟨by rfl, ?_⟩) hHeld ?_ ?_
           rotate_left
           ·rintro w' ⟨s0, s1, s2⟩
            go_simp
            with_reducible rfl
           rotate_left
           ·simp only [Act.put, Qp1, Qp2, Qp3, i64_w, i32_w]
            rfl
           refine pure_ (i := 13) (N := some 53) (v := ?_) (a' := ?_) (Qbz 25 16383) rfl rfl (by kernel_rfl) (fun _ _ _ h => h) (Or.inl ⟨by rfl, ?_⟩) ?_ ?_
           rotate_left
           ·intro w'
            go_simp
            with_reducible rfl
           rotate_left
           ·simp only [Act.put, Qp1, Qp2, Qp3, i64_w, i32_w]
            rfl
           refine pure_ (i := 14) (N := some 54) (v := ?_) (a' := ?_) (Qbz 25 32767) rfl rfl (by kernel_rfl) (fun _ _ _ h => h) (Or.inl ⟨by rfl, ?_⟩) ?_ ?_
           rotate_left
           ·intro w'
            go_simp
            with_reducible rfl
           rotate_left
           ·simp only [Act.put, Qp1, Qp2, Qp3, i64_w, i32_w]
            rfl
           refine pure_ (i := 15) (N := some 55) (v := ?_) (a' := ?_) (Qbz 25 65535) rfl rfl (by kernel_rfl) (fun _ _ _ h => h) (Or.inl ⟨by rfl, ?_⟩) ?_ ?_
           rotate_left
           ·intro w'
            go_simp
            with_reducible rfl
           rotate_left
           ·simp only [Act.put, Qp1, Qp2, Qp3, i64_w, i32_w]
            rfl
           refine pure_ (i := 16) (N := some 56) (v := ?_) (a' := ?_) (Qbz 25 131071) rfl rfl (by kernel_rfl) (fun _ _ _ h => h) (Or.inl ⟨by rfl, ?_⟩) ?_ ?_
           rotate_left
           ·intro w'
            go_simp
            with_reducible rfl
           rotate_left
           ·simp only [Act.put, Qp1, Qp2, Qp3, i64_w, i32_w]
            rfl
           refine pure_ (i := 18) (N := some 58) (v := ?_) (a' := ?_) (Qbz 25 393215) rfl rfl (by kernel_rfl) (fun _ _ _ h => h) (Or.inl ⟨by rfl, ?_⟩) ?_ ?_
           rotate_left
           ·intro w'
            go_simp
            with_reducible rfl
           rotate_left
           ·simp only [Act.put, Qp1, Qp2, Qp3, i64_w, i32_w]
            rfl
           refine pure_ (i := 21) (N := some 61) (v := ?_) (a' := ?_) (Qbz 25 2490367) rfl rfl (by kernel_rfl) (fun _ _ _ h => h) (Or.inl ⟨by rfl, ?_⟩) ?_ ?_
           rotate_left
           ·intro w'
            go_simp
            with_reducible rfl
           rotate_left
           ·simp only [Act.put, Qp1, Qp2, Qp3, i64_w, i32_w]
            rfl
           refine take_ (i := 17) (N := some 57) (v := ?_) (a' := ?_) (Qbz 25 2621439) rfl rfl (by kernel_rfl) (fun _ _ _ h => h) (Or.inl ⟨by rfl, ?_⟩) hHeld ?_ ?_
           rotate_left
           ·rintro w' ⟨s0, s1, s2⟩
            go_simp
            with_reducible rfl
           rotate_left
           ·simp only [Act.put, Qp1, Qp2, Qp3, i64_w, i32_w]
            rfl
           refine pure_ (i := 19) (N := some 59) (v := ?_) (a' := ?_) (Qbz 25 3145727) rfl rfl (by kernel_rfl) (fun _ _ _ h => h) (Or.inl ⟨by rfl, ?_⟩) ?_ ?_
           rotate_left
           ·intro w'
            go_simp
            with_reducible rfl
           rotate_left
           ·simp only [Act.put, Qp1, Qp2, Qp3, i64_w, i32_w]
            rfl
           refine take_ (i := 20) (N := some 60) (v := ?_) (a' := ?_) (Qbz 25 4194303) rfl rfl (by kernel_rfl) (fun _ _ _ h => h) (Or.inl ⟨by rfl, ?_⟩) hHeld ?_ ?_
           rotate_left
           ·rintro w' ⟨s0, s1, s2⟩
            go_simp
            with_reducible rfl
           rotate_left
           ·simp only [Act.put, Qp1, Qp2, Qp3, i64_w, i32_w]
            rfl
           refine one_ (i := 22) (N := some 62) (Qbz 25 8388607) rfl rfl (by kernel_rfl) (by decide) (fun K hK => ?_)
           refine goes_ Tryd.func67 (by kernel_rfl) rfl #[.slice Ag G.length cg] (by rfl) rfl rfl (by simp only [List.map_toArray, List.map_cons, List.map_nil]; rfl) ?_
           with_reducible refine (CALL.out _ hHeld).mono ?_
           rintro e w3 ⟨rfl, g0, g1, gB⟩
           refine ⟨_, rfl, ?_⟩
           refine hK.out _ _ ⟨g0, g1, gB⟩ (fun hHeld => ?_)
           clear hK K
           refine norm_ (a' := ?_) ?_ ?_
           rotate_left
           ·show Act.put _ (some 62) _ = _
            simp only [Act.put, Qp1, Qp2, Qp3, i64_w, i32_w]
            rfl
           refine pure_ (i := 23) (N := some 63) (v := ?_) (a' := ?_) (Qbz 25 16777215) rfl rfl (by kernel_rfl) (fun _ _ _ h => h) (Or.inl ⟨by rfl, ?_⟩) ?_ ?_
           rotate_left
           ·intro w'
            go_simp
            with_reducible rfl
           rotate_left
           ·simp only [Act.put, Qp1, Qp2, Qp3, i64_w, i32_w]
            rfl
           refine pure_ (i := 24) (N := some 64) (v := ?_) (a' := ?_) (Qbz 25 33554431) rfl rfl (by kernel_rfl) (fun _ _ _ h => h) (Or.inl ⟨by rfl, ?_⟩) ?_ ?_
           rotate_left
           ·intro w'
            go_simp
            with_reducible rfl
           rotate_left
           ·simp only [Act.put, Qp1, Qp2, Qp3, i64_w, i32_w]
            rfl
           refine done_ (by kernel_rfl) ?_
           go_wp2
           go_roundg gq
           case measure => omega
           case rel => exact ⟨i + 1, ro + 1, a2, by go_num, rfl, by go_num, by omega, ⟨HT2.out, by omega, hac2⟩, ⟨gB⟩⟩
          ·rw [if_neg hp0] at ht
           have hd11 : decide (p < 0) = false := decide_eq_false hp0
           have HT2 := Aside0.mk ht
           clear hp1 hp2 hb1 hb2 ht hp0
           go_wp2_with (fail)
           refine start_ (n := 25) (S := fun w' => w'.cell? ⟨xB, 0, none⟩ = some (.slice (some adB) B.length c0) ∧ w'.cell? (adB.add i) = some (.int .i64 (bn : Int)) ∧ Below w7.heap.size w7 w') (ds := []) (Qbz 25 0) (by kernel_rfl) rfl rfl ⟨f0d, f1d, fbd⟩ (fun hHeld => ?_)
           refine pure_ (i := 0) (N := some 40) (v := ?_) (a' := ?_) (Qbz 25 1) rfl rfl (by kernel_rfl) (fun _ _ _ h => h) (Or.inl ⟨by rfl, ?_⟩) ?_ ?_
           rotate_left
           ·intro w'
            go_simp
            with_reducible rfl
           rotate_left
           ·simp only [Act.put, Qp1, Qp2, Qp3, i64_w, i32_w]
            rfl
           refine pure_ (i := 1) (N := some 41) (v := ?_) (a' := ?_) (Qbz 25 3) rfl rfl (by kernel_rfl) (fun _ _ _ h => h) (Or.inl ⟨by rfl, ?_⟩) ?_ ?_
           rotate_left
           ·intro w'
            go_simp
            with_reducible rfl
           rotate_left
           ·simp only [Act.put, Qp1, Qp2, Qp3, i64_w, i32_w]
            rfl
           refine pure_ (i := 2) (N := some 42) (v := ?_) (a' := ?_) (Qbz 25 7) rfl rfl (by kernel_rfl) (fun _ _ _ h => h) (Or.inl ⟨by rfl, ?_⟩) ?_ ?_
           rotate_left
           ·intro w'
            go_simp
            with_reducible rfl
           rotate_left
           ·simp only [Act.put, Qp1, Qp2, Qp3, i64_w, i32_w]
            rfl
           refine pure_ (i := 3) (N := some 43) (v := ?_) (a' := ?_) (Qbz 25 15) rfl rfl (by kernel_rfl) (fun _ _ _ h => h) (Or.inl ⟨by rfl, ?_⟩) ?_ ?_
           rotate_left
           ·intro w'
            go_simp
            with_reducible rfl
           rotate_left
           ·simp only [Act.put, Qp1, Qp2, Qp3, i64_w, i32_w]
            rfl
           refine pure_ (i := 4) (N := some 44) (v := ?_) (a' := ?_) (Qbz 25 31) rfl rfl (by kernel_rfl) (fun _ _ _ h => h) (Or.inl ⟨by rfl, ?_⟩) ?_ ?_
           rotate_left
           ·intro w'
            go_simp
            with_reducible rfl
           rotate_left
           ·simp only [Act.put, Qp1, Qp2, Qp3, i64_w, i32_w]
            rfl
           refine pure_ (i := 5) (N := some 45) (v := ?_) (a' := ?_) (Qbz 25 63) rfl rfl (by kernel_rfl) (fun _ _ _ h => h) (Or.inl ⟨by rfl, ?_⟩) ?_ ?_
           rotate_left
           ·intro w'
            go_simp
            with_reducible rfl
           rotate_left
           ·simp only [Act.put, Qp1, Qp2, Qp3, i64_w, i32_w]
            rfl
           refine pure_ (i := 6) (N := some 46) (v := ?_) (a' := ?_) (Qbz 25 127) rfl rfl (by kernel_rfl) (fun _ _ _ h => h) (Or.inl ⟨by rfl, ?_⟩) ?_ ?_
           rotate_left
           ·intro w'
            go_simp
            with_reducible rfl
           rotate_left
           ·simp only [Act.put, Qp1, Qp2, Qp3, i64_w, i32_w]
            rfl
           refine pure_ (i := 7) (N := some 47) (v := ?_) (a' := ?_) (Qbz 25 255) rfl rfl (by kernel_rfl) (fun _ _ _ h => h) (Or.inl ⟨by rfl, ?_⟩) ?_ ?_
           rotate_left
           ·intro w'
            go_simp
            with_reducible rfl
           rotate_left
           ·simp only [Act.put, Qp1, Qp2, Qp3, i64_w, i32_w]
            rfl
           refine pure_ (i := 8) (N := some 48) (v := ?_) (a' := ?_) (Qbz 25 511) rfl rfl (by kernel_rfl) (fun _ _ _ h => h) (Or.inl ⟨by rfl, ?_⟩) ?_ ?_
           rotate_left
           ·intro w'
            go_simp
            with_reducible rfl
           rotate_left
           ·simp only [Act.put, Qp1, Qp2, Qp3, i64_w, i32_w]
            rfl
           refine pure_ (i := 10) (N := some 50) (v := ?_) (a' := ?_) (Qbz 25 1535) rfl rfl (by kernel_rfl) (fun _ _ _ h => h) (Or.inl ⟨by rfl, ?_⟩) ?_ ?_
           rotate_left
           ·intro w'
            go_simp
            with_reducible rfl
           rotate_left
           ·simp only [Act.put, Qp1, Qp2, Qp3, i64_w, i32_w]
            rfl
           refine take_ (i := 9) (N := some 49) (v := ?_) (a' := ?_) (Qbz 25 2047) rfl rfl (by kernel_rfl) (fun _ _ _ h => h) (Or.inl ⟨by rfl, ?_⟩) hHeld ?_ ?_
           rotate_left
           ·rintro w' ⟨s0, s1, s2⟩
            go_simp
            with_reducible rfl
           rotate_left
           ·simp only [Act.put, Qp1, Qp2, Qp3, i64_w, i32_w]
            rfl
           refine pure_ (i := 11) (N := some 51) (v := ?_) (a' := ?_) (Qbz 25 4095) rfl rfl (by kernel_rfl) (fun _ _ _ h => h) (Or.inl ⟨by rfl, ?_⟩) ?_ ?_
           rotate_left
           ·intro w'
            go_simp
            with_reducible rfl
           rotate_left
           ·simp only [Act.put, Qp1, Qp2, Qp3, i64_w, i32_w]
            rfl
           refine take_ (i := 12) (N := some 52) (v := ?_) (a' := ?_) (Qbz 25 8191) rfl rfl (by kernel_rfl) (fun _ _ _ h => h) (Or.inl ⟨by rfl, ?_⟩) hHeld ?_ ?_
           rotate_left
           ·rintro w' ⟨s0, s1, s2⟩
            go_simp
            with_reducible rfl
           rotate_left
           ·simp only [Act.put, Qp1, Qp2, Qp3, i64_w, i32_w]
            rfl
           refine pure_ (i := 13) (N := some 53) (v := ?_) (a' := ?_) (Qbz 25 16383) rfl rfl (by kernel_rfl) (fun _ _ _ h => h) (Or.inl ⟨by rfl, ?_⟩) ?_ ?_
           rotate_left
           ·intro w'
            go_simp
            with_reducible rfl
           rotate_left
           ·simp only [Act.put, Qp1, Qp2, Qp3, i64_w, i32_w]
            rfl
           refine pure_ (i := 14) (N := some 54) (v := ?_) (a' := ?_) (Qbz 25 32767) rfl rfl (by kernel_rfl) (fun _ _ _ h => h) (Or.inl ⟨by rfl, ?_⟩) ?_ ?_
           rotate_left
           ·intro w'
            go_simp
            with_reducible rfl
           rotate_left
           ·simp only [Act.put, Qp1, Qp2, Qp3, i64_w, i32_w]
            rfl
           refine pure_ (i := 15) (N := some 55) (v := ?_) (a' := ?_) (Qbz 25 65535) rfl rfl (by kernel_rfl) (fun _ _ _ h => h) (Or.inl ⟨by rfl, ?_⟩) ?_ ?_
           rotate_left
           ·intro w'
            go_simp
            with_reducible rfl
           rotate_left
           ·simp only [Act.put, Qp1, Qp2, Qp3, i64_w, i32_w]
            rfl
           refine pure_ (i := 16) (N := some 56) (v := ?_) (a' := ?_) (Qbz 25 131071) rfl rfl (by kernel_rfl) (fun _ _ _ h => h) (Or.inl ⟨by rfl, ?_⟩) ?_ ?_
           rotate_left
           ·intro w'
            go_simp
            with_reducible rfl
           rotate_left
           ·simp only [Act.put, Qp1, Qp2, Qp3, i64_w, i32_w]
            rfl
           refine pure_ (i := 18) (N := some 58) (v := ?_) (a' := ?_) (Qbz 25 393215) rfl rfl (by kernel_rfl) (fun _ _ _ h => h) (Or.inl ⟨by rfl, ?_⟩) ?_ ?_
           rotate_left
           ·intro w'
            go_simp
            with_reducible rfl
           rotate_left
           ·simp only [Act.put, Qp1, Qp2, Qp3, i64_w, i32_w]
            rfl
           refine pure_ (i := 21) (N := some 61) (v := ?_) (a' := ?_) (Qbz 25 2490367) rfl rfl (by kernel_rfl) (fun _ _ _ h => h) (Or.inl ⟨by rfl, ?_⟩) ?_ ?_
           rotate_left
           ·intro w'
            go_simp
            with_reducible rfl
           rotate_left
           ·simp only [Act.put, Qp1, Qp2, Qp3, i64_w, i32_w]
            rfl
           refine take_ (i := 17) (N := some 57) (v := ?_) (a' := ?_) (Qbz 25 2621439) rfl rfl (by kernel_rfl) (fun _ _ _ h => h) (Or.inl ⟨by rfl, ?_⟩) hHeld ?_ ?_
           rotate_left
           ·rintro w' ⟨s0, s1, s2⟩
            go_simp
            with_reducible rfl
           rotate_left
           ·simp only [Act.put, Qp1, Qp2, Qp3, i64_w, i32_w]
            rfl
           refine pure_ (i := 19) (N := some 59) (v := ?_) (a' := ?_) (Qbz 25 3145727) rfl rfl (by kernel_rfl) (fun _ _ _ h => h) (Or.inl ⟨by rfl, ?_⟩) ?_ ?_
           rotate_left
           ·intro w'
            go_simp
            with_reducible rfl
           rotate_left
           ·simp only [Act.put, Qp1, Qp2, Qp3, i64_w, i32_w]
            rfl
           refine take_ (i := 20) (N := some 60) (v := ?_) (a' := ?_) (Qbz 25 4194303) rfl rfl (by kernel_rfl) (fun _ _ _ h => h) (Or.inl ⟨by rfl, ?_⟩) hHeld ?_ ?_
           rotate_left
           ·rintro w' ⟨s0, s1, s2⟩
            go_simp
            with_reducible rfl
           rotate_left
           ·simp only [Act.put, Qp1, Qp2, Qp3, i64_w, i32_w]
            rfl
           refine one_ (i := 22) (N := some 62) (Qbz 25 8388607) rfl rfl (by kernel_rfl) (by decide) (fun K hK => ?_)
           refine goes_ Tryd.func67 (by kernel_rfl) rfl #[.slice Ag G.length cg] (by rfl) rfl rfl (by simp only [List.map_toArray, List.map_cons, List.map_nil]; rfl) ?_
           with_reducible refine (CALL.out _ hHeld).mono ?_
           rintro e w3 ⟨rfl, g0, g1, gB⟩
           refine ⟨_, rfl, ?_⟩
           refine hK.out _ _ ⟨g0, g1, gB⟩ (fun hHeld => ?_)
           clear hK K
           refine norm_ (a' := ?_) ?_ ?_
           rotate_left
           ·show Act.put _ (some 62) _ = _
            simp only [Act.put, Qp1, Qp2, Qp3, i64_w, i32_w]
            rfl
           refine pure_ (i := 23) (N := some 63) (v := ?_) (a' := ?_) (Qbz 25 16777215) rfl rfl (by kernel_rfl) (fun _ _ _ h => h) (Or.inl ⟨by rfl, ?_⟩) ?_ ?_
           rotate_left
           ·intro w'
            go_simp
            with_reducible rfl
           rotate_left
           ·simp only [Act.put, Qp1, Qp2, Qp3, i64_w, i32_w]
            rfl
           refine pure_ (i := 24) (N := some 64) (v := ?_) (a' := ?_) (Qbz 25 33554431) rfl rfl (by kernel_rfl) (fun _ _ _ h => h) (Or.inl ⟨by rfl, ?_⟩) ?_ ?_
           rotate_left
           ·intro w'
            go_simp
            with_reducible rfl
           rotate_left
           ·simp only [Act.put, Qp1, Qp2, Qp3, i64_w, i32_w]
            rfl
           refine done_ (by kernel_rfl) ?_
           go_wp2
           go_roundg gq
           case measure => omega
           case rel => exact ⟨i + 1, ro, a2, rfl, rfl, by go_num, by omega, ⟨HT2.out, by omega, hac2⟩, ⟨gB⟩⟩
     ·have hi1 : ((i : Int) < (B.length : Int)) = False := eq_false (by omega)
      have hi2 : decide ((i : Int) < (B.length : Int)) = false := decide_eq_false (by omega)
      have hi3 : ((i : Int) < (P.length : Int)) = False := eq_false (by have := HPL.out; omega)
      have hi4 : decide ((i : Int) < (P.length : Int)) = false := decide_eq_false (by have := HPL.out; omega)
      obtain rfl : gk = 0 := by omega
      obtain ⟨ht, hro, hac⟩ := HT.out
      simp only [tl1] at ht
      subst ht
      clear HT
      have hr := HR.out
      simp only [treeB2] at hr
      have CAL2 : Aside0 (∀ W, Below wr.heap.size wr W → Calls Tryd.prog 67 #[.slice Ag G.length cg] W fun e w' => e = .returned (.int .i64 (PA : Int)) ∧ Below wr.heap.size wr w') := ⟨fun W hW => by
       have := width_town_all.calls Ag cg (T.gi G) _ W (Kd.C_below (Kd.C_below (Kd.C_below HRG.out HB7.out) HB.out) hW) (by rw [HL.out]; exact hcg) HALL.out
       rw [HL.out] at this
       exact this.mono fun e w' ⟨h, m, hm⟩ => ⟨h, by rw [hm]; exact pw_below_drewN hW m⟩⟩
      have hinp : InP P := fun j hj => by
       have := HOK.out _ rfl j (by have := HPL.out; omega)
       have e := HPL.out
       omega
      have hbc := blk_below HBOX.out HB.out
      have hz1' : wr.cell? ⟨xB, 1, none⟩ = some (.slice A1 P.length c1) := (blk_cell hbc 1).trans rfl
      have CCY : Aside0 (∀ W, Below wr.heap.size wr W → Calls Tryd.prog 54 #[.slice A1 P.length c1, .func (.func 100) #[] #[.pointer (some ⟨xB, 0, none⟩)]] W fun e w' => e = .returned (.bool (P.any (cycB P P.length))) ∧ Below W.heap.size W w') := ⟨fun W hW => contains_cyc A1 c1 P (cycB P P.length) xB W (Kd.C_below (Kd.C_below (Kd.C_below HR1.out HB7.out) HB.out) hW) (by have := HPL.out; omega) (fun V hV x hx => by
       have hb2 := below_step hW hV
       refine cyc1 xB A0 B.length c0 A1 c1 P x hinp (by have := HPL.out; omega) ?_ V (Kd.C_below (Kd.C_below (Kd.C_below HR1.out HB7.out) HB.out) hb2) ((blk_cell (blk_below hbc hb2) 0).trans rfl) ((blk_cell (blk_below hbc hb2) 1).trans rfl)
       obtain ⟨j, hj, e⟩ := List.getElem_of_mem hx
       have := (hinp j hj).2
       unfold rd at this
       rw [Int.toNat_natCast, List.getD_eq_getElem?_getD, List.getElem?_eq_getElem hj] at this
       rw [← e]
       exact this)⟩
      have HBC := Aside0.mk hbc
      have hro30 : ro ≤ 30 := by omega
      by_cases h1 : ro = 1
      ·subst h1
       rw [if_pos rfl] at hr
       by_cases h2 : ac = PA
       ·subst h2
        rw [if_pos HPA.out.symm] at hr
        have hx5 : ((ac : Int) == (ac : Int)) = true := by simp
        have hx6 : ((ac : Int) != (ac : Int)) = false := by simp
        obtain ⟨cy, hcy⟩ : ∃ b, P.any (cycB P P.length) = b := ⟨_, rfl⟩
        rw [hcy] at CCY hr
        clear hcy hbc
        cases cy
        ·rw [if_neg (by simp)] at hr
         have HR2 := Aside0.mk hr
         clear hr hz1
         go_wp2_with (first
          | (go_at_call 67; refine (CAL2.out _ (Below.refl _ _)).mono ?_; rintro e w3 ⟨rfl, hb3⟩; have HB3 := Aside0.mk hb3; have hz3 : w3.cell? ⟨xB, 1, none⟩ = some (.slice A1 P.length c1) := (blk_cell (blk_below HBC.out hb3) 1).trans rfl; clear hb3)
          | (go_at_call 54; refine (CCY.out _ HB3.out).mono ?_; rintro e w4 ⟨rfl, hb4⟩; have HB4 := Aside0.mk (below_step HB3.out hb4); clear hb4))
         have HB5 : Aside0 (Below w7.heap.size w7 w4) := ⟨below_step HB.out HB4.out⟩
         have HOK2 : Aside0 (∀ j, j < B.length → -1 ≤ rd P (j : Int) ∧ rd P (j : Int) < (B.length : Int) ∧ 0 ≤ rd B (j : Int) ∧ rd B (j : Int) < 512) := ⟨fun j hj => by
          have := HOK.out _ rfl j hj
          omega⟩
         obtain ⟨adB, eB, _⟩ := Kd.at_int HR0.out 0 (by omega) (by omega)
         subst eB
         obtain ⟨adP, eP, _⟩ := Kd.at_int HR1.out 0 (by omega) (by have := HPL.out; omega)
         subst eP
         clear HB4 HB3 CAL2 CCY HALL HOK hz0
         clear HB
         go_loopg [93] G.length (fun kq v93 w' => ∃ v : Nat, v93 = .int .i64 (v : Int) ∧ v + kq = G.length ∧ Aside0 (tl2 G B P kq v = R) ∧ Aside0 (Below w7.heap.size w7 w'))
         case atStart => exact ⟨0, rfl, by omega, HR2, HB5⟩
         case round =>
          clear HR2 HB5
          obtain ⟨v, rfl, hv, HT2, HB⟩ := hrel
          by_cases hvl : v < G.length
          ·have hv1 : ((v : Int) < (G.length : Int)) = True := eq_true (by omega)
           have hv2 : decide ((v : Int) < (G.length : Int)) = true := decide_eq_true (by omega)
           cases gk with
           | zero => omega
           | succ gq =>
           have ht := HT2.out
           simp only [tl2] at ht
           obtain ⟨TP, hTP⟩ : ∃ t, topsF B P v B.length 0 0 = t := ⟨_, rfl⟩
           rw [hTP] at ht
           have HTP := Aside0.mk hTP
           have HT3 := Aside0.mk ht
           clear HT2 ht hTP
           go_wp2_with (first | ((with_reducible refine gate_dst (N := 10) rfl ?_); refine box_event ?hg (N := 10) ?hd (cs := #[.int .i64 0]) (t := 3) ?hr ?_; (case hd => rfl); (case hg => rfl); (case hr => first | (go_simp; done) | (go_simp; rfl)); intro vB hgv w8' hbox hb8; have HGV := Aside0.mk (show wr.heap.size ≤ vB by rw [hgv]; exact Nat.le_refl _); clear hgv; have hv0 : w8'.cell? ⟨vB, 0, none⟩ = some (.int .i64 0) := (blk_cell hbox 0).trans rfl; have hvf := blk_frozen hbox 0; have hx0 : ∀ u : Value, (w8'.setCell ⟨vB, 0, none⟩ u).cell? ⟨xB, 0, none⟩ = some (.slice (some adB) B.length c0) := (fun u => (cell_sameT (heap_setT _ ⟨vB, 0, none⟩ u _ (by have := HGV.out; have := HB.out.size; have := blk_ltT HBOX.out; show xB ≠ vB; omega))).trans ((blk_cell (blk_below (blk_below HBOX.out HB.out) hb8) 0).trans rfl)); have HBV := Aside0.mk hbox; have HB8 := Aside0.mk hb8; clear hbox hb8))
           have hcv := blk_set HBV.out 0 (.int .i64 (v : Int))
           have HB9 : Aside0 (Below w7.heap.size w7 (w8'.setCell ⟨vB, 0, none⟩ (.int .i64 (v : Int)))) := ⟨below_then HB.out HB.out.size (below_set HB8.out HGV.out)⟩
           generalize w8'.setCell ⟨vB, 0, none⟩ (.int .i64 (v : Int)) = w9 at *
           have HCV := Aside0.mk hcv
           have HBOX9 := Aside0.mk (blk_below HBOX.out HB9.out)
           clear hcv HBV HB8 HGV hv0 hvf hx0 HB
           go_loopg [11, 99] B.length (fun kq v11 v99 w' => ∃ i t : Nat, v11 = .int .i64 (t : Int) ∧ v99 = .int .i64 (i : Int) ∧ i + kq = B.length ∧ Aside0 (topsF B P v kq i t = TP ∧ t ≤ i) ∧ Aside0 (Below w9.heap.size w9 w'))
           case atStart => exact ⟨0, 0, rfl, rfl, by omega, ⟨HTP.out, Nat.le_refl _⟩, ⟨Below.refl _ _⟩⟩
           case round =>
            clear HTP
            obtain ⟨i, t, rfl, rfl, hi, HT, HB⟩ := hrel
            by_cases hil : i < B.length
            ·have hi1 : ((i : Int) < (B.length : Int)) = True := eq_true (by omega)
             have hi2 : decide ((i : Int) < (B.length : Int)) = true := decide_eq_true (by omega)
             have hi3 : ((i : Int) < (P.length : Int)) = True := eq_true (by have := HPL.out; omega)
             have hi4 : decide ((i : Int) < (P.length : Int)) = true := decide_eq_true (by have := HPL.out; omega)
             cases gk with
             | zero => omega
             | succ gx =>
             obtain ⟨ht, hti⟩ := HT.out
             simp only [topsF] at ht
             obtain ⟨hk1, hk2, hk3, hk4⟩ := HOK2.out i hil
             have hcB := Kd.C_below (Kd.C_below (Kd.C_below HR0.out HB7.out) HB9.out) HB.out
             have hcP := Kd.C_below (Kd.C_below (Kd.C_below HR1.out HB7.out) HB9.out) HB.out
             obtain ⟨adP', e1, hgp⟩ := Kd.at_int hcP (i : Int) (by omega) (by have := HPL.out; omega)
             injection e1 with e1
             subst e1
             obtain ⟨adB', e2, hgb⟩ := Kd.at_int hcB (i : Int) (by omega) (by omega)
             injection e2 with e2
             subst e2
             rw [Int.toNat_natCast] at hgp hgb
             obtain ⟨p, hp⟩ : ∃ p, rd P (i : Int) = p := ⟨_, rfl⟩
             rw [hp] at hgp ht hk1 hk2
             obtain ⟨bn, hbn⟩ := Int.eq_ofNat_of_zero_le hk3
             rw [hbn] at hgb ht hk4
             have hbn7 : bn < 512 := by omega
             have hcv2 := blk_below HCV.out HB.out
             have hcx2 := blk_below HBOX9.out HB.out
             have fvd : wr.drew.cell? ⟨vB, 0, none⟩ = some (.int .i64 (v : Int)) := (blk_cell hcv2 0).trans rfl
             have f0d : wr.drew.cell? ⟨xB, 0, none⟩ = some (.slice (some adB) B.length c0) := (blk_cell hcx2 0).trans rfl
             have f1d : wr.drew.cell? ⟨xB, 1, none⟩ = some (.slice (some adP) P.length c1) := (blk_cell hcx2 1).trans rfl
             have fpd : wr.drew.cell? (adP.add i) = some (.int .i64 p) := hgp
             have hzv : (0 : Int) ≤ (v : Int) := by omega
             obtain ⟨J, hJ1, hJ2, hJ3, hJ4, hJ5⟩ := bitJT bn v (by omega) (by omega)
             have hbi : bitI (bn : Int) v = bn.testBit v := rfl
             rw [hbi] at ht
             clear HT hk3 hbn hp hcv2 hcx2 hbi hJ3 hJ5 hcP
             cases hbt : bn.testBit v
             ·rw [hbt] at hJ4 ht
              have HT4 : Aside0 (topsF B P v gx (i + 1) t = TP) := ⟨by simpa using ht⟩
              clear ht hbt hcB
              go_wp2_with (fail)
              refine start_ (n := 28) (S := fun w' => w'.cell? ⟨vB, 0, none⟩ = some (.int .i64 (v : Int))) (ds := []) (Qbz 28 0) (by kernel_rfl) rfl rfl (fvd) (fun hHeld => ?_)
              refine pure_ (i := 0) (N := some 104) (v := ?_) (a' := ?_) (Qbz 28 1) rfl rfl (by kernel_rfl) (fun _ _ _ h => h) (Or.inl ⟨by rfl, ?_⟩) ?_ ?_
              rotate_left
              ·intro w'
               go_simp
               with_reducible rfl
              rotate_left
              ·simp only [Act.put, Qp1, Qp2, Qp3, i64_w, i32_w]
               rfl
              refine take_ (i := 1) (N := some 105) (v := ?_) (a' := ?_) (Qbz 28 3) rfl rfl (by kernel_rfl) (fun _ _ _ h => h) (Or.inl ⟨by rfl, ?_⟩) hHeld ?_ ?_
              rotate_left
              ·intro w' s0
               go_simp
               with_reducible rfl
              rotate_left
              ·simp only [Act.put, Qp1, Qp2, Qp3, i64_w, i32_w]
               rfl
              refine pure_ (i := 2) (N := some 106) (v := ?_) (a' := ?_) (Qbz 28 7) rfl rfl (by kernel_rfl) (fun _ _ _ h => h) (Or.inl ⟨by rfl, ?_⟩) ?_ ?_
              rotate_left
              ·intro w'
               go_simp
               with_reducible rfl
              rotate_left
              ·simp only [Act.put, Qp1, Qp2, Qp3, i64_w, i32_w]
               rfl
              refine pure_ (i := 3) (N := some 107) (v := ?_) (a' := ?_) (Qbz 28 15) rfl rfl (by kernel_rfl) (fun _ _ _ h => h) (Or.inl ⟨by rfl, ?_⟩) ?_ ?_
              rotate_left
              ·intro w'
               go_simp
               with_reducible rfl
              rotate_left
              ·simp only [Act.put, Qp1, Qp2, Qp3, i64_w, i32_w]
               rfl
              refine pure_ (i := 4) (N := some 108) (v := ?_) (a' := ?_) (Qbz 28 31) rfl rfl (by kernel_rfl) (fun _ _ _ h => h) (Or.inl ⟨by rfl, ?_⟩) ?_ ?_
              rotate_left
              ·intro w'
               go_simp
               with_reducible rfl
              rotate_left
              ·simp only [Act.put, Qp1, Qp2, Qp3, i64_w, i32_w]
               rfl
              refine pure_ (i := 5) (N := some 109) (v := ?_) (a' := ?_) (Qbz 28 63) rfl rfl (by kernel_rfl) (fun _ _ _ h => h) (Or.inl ⟨by rfl, ?_⟩) ?_ ?_
              rotate_left
              ·intro w'
               go_simp
               with_reducible rfl
              rotate_left
              ·simp only [Act.put, Qp1, Qp2, Qp3, i64_w, i32_w]
               rfl
              refine pure_ (i := 6) (N := some 110) (v := undef) (a' := ?_) (Qbz 28 127) rfl rfl (by kernel_rfl) (fun _ _ _ h => h) (Or.inr ⟨by rfl, rfl⟩) ?_ ?_
              rotate_left
              ·simp only [Act.put, Qp1, Qp2, Qp3, i64_w, i32_w]
               rfl
              refine pure_ (i := 7) (N := some 111) (v := undef) (a' := ?_) (Qbz 28 255) rfl rfl (by kernel_rfl) (fun _ _ _ h => h) (Or.inr ⟨by rfl, rfl⟩) ?_ ?_
              rotate_left
              ·simp only [Act.put, Qp1, Qp2, Qp3, i64_w, i32_w]
               rfl
              refine pure_ (i := 8) (N := some 112) (v := undef) (a' := ?_) (Qbz 28 511) rfl rfl (by kernel_rfl) (fun _ _ _ h => h) (Or.inr ⟨by rfl, rfl⟩) ?_ ?_
              rotate_left
              ·simp only [Act.put, Qp1, Qp2, Qp3, i64_w, i32_w]
               rfl
              refine pure_ (i := 9) (N := some 113) (v := undef) (a' := ?_) (Qbz 28 1023) rfl rfl (by kernel_rfl) (fun _ _ _ h => h) (Or.inr ⟨by rfl, rfl⟩) ?_ ?_
              rotate_left
              ·simp only [Act.put, Qp1, Qp2, Qp3, i64_w, i32_w]
               rfl
              refine pure_ (i := 10) (N := some 114) (v := undef) (a' := ?_) (Qbz 28 2047) rfl rfl (by kernel_rfl) (fun _ _ _ h => h) (Or.inr ⟨by rfl, rfl⟩) ?_ ?_
              rotate_left
              ·simp only [Act.put, Qp1, Qp2, Qp3, i64_w, i32_w]
               rfl
              refine pure_ (i := 11) (N := some 115) (v := undef) (a' := ?_) (Qbz 28 4095) rfl rfl (by kernel_rfl) (fun _ _ _ h => h) (Or.inr ⟨by rfl, rfl⟩) ?_ ?_
              rotate_left
              ·simp only [Act.put, Qp1, Qp2, Qp3, i64_w, i32_w]
               rfl
              refine pure_ (i := 12) (N := some 116) (v := undef) (a' := ?_) (Qbz 28 8191) rfl rfl (by kernel_rfl) (fun _ _ _ h => h) (Or.inr ⟨by rfl, rfl⟩) ?_ ?_
              rotate_left
              ·simp only [Act.put, Qp1, Qp2, Qp3, i64_w, i32_w]
               rfl
              refine pure_ (i := 13) (N := some 117) (v := undef) (a' := ?_) (Qbz 28 16383) rfl rfl (by kernel_rfl) (fun _ _ _ h => h) (Or.inr ⟨by rfl, rfl⟩) ?_ ?_
              rotate_left
              ·simp only [Act.put, Qp1, Qp2, Qp3, i64_w, i32_w]
               rfl
              refine pure_ (i := 14) (N := some 118) (v := undef) (a' := ?_) (Qbz 28 32767) rfl rfl (by kernel_rfl) (fun _ _ _ h => h) (Or.inr ⟨by rfl, rfl⟩) ?_ ?_
              rotate_left
              ·simp only [Act.put, Qp1, Qp2, Qp3, i64_w, i32_w]
               rfl
              refine pure_ (i := 15) (N := some 119) (v := undef) (a' := ?_) (Qbz 28 65535) rfl rfl (by kernel_rfl) (fun _ _ _ h => h) (Or.inr ⟨by rfl, rfl⟩) ?_ ?_
              rotate_left
              ·simp only [Act.put, Qp1, Qp2, Qp3, i64_w, i32_w]
               rfl
              refine pure_ (i := 16) (N := some 120) (v := undef) (a' := ?_) (Qbz 28 131071) rfl rfl (by kernel_rfl) (fun _ _ _ h => h) (Or.inr ⟨by rfl, rfl⟩) ?_ ?_
              rotate_left
              ·simp only [Act.put, Qp1, Qp2, Qp3, i64_w, i32_w]
               rfl
              refine pure_ (i := 17) (N := some 121) (v := undef) (a' := ?_) (Qbz 28 262143) rfl rfl (by kernel_rfl) (fun _ _ _ h => h) (Or.inr ⟨by rfl, rfl⟩) ?_ ?_
              rotate_left
              ·simp only [Act.put, Qp1, Qp2, Qp3, i64_w, i32_w]
               rfl
              refine pure_ (i := 18) (N := some 122) (v := undef) (a' := ?_) (Qbz 28 524287) rfl rfl (by kernel_rfl) (fun _ _ _ h => h) (Or.inr ⟨by rfl, rfl⟩) ?_ ?_
              rotate_left
              ·simp only [Act.put, Qp1, Qp2, Qp3, i64_w, i32_w]
               rfl
              refine pure_ (i := 19) (N := some 123) (v := undef) (a' := ?_) (Qbz 28 1048575) rfl rfl (by kernel_rfl) (fun _ _ _ h => h) (Or.inr ⟨by rfl, rfl⟩) ?_ ?_
              rotate_left
              ·simp only [Act.put, Qp1, Qp2, Qp3, i64_w, i32_w]
               rfl
              refine pure_ (i := 20) (N := some 124) (v := undef) (a' := ?_) (Qbz 28 2097151) rfl rfl (by kernel_rfl) (fun _ _ _ h => h) (Or.inr ⟨by rfl, rfl⟩) ?_ ?_
              rotate_left
              ·simp only [Act.put, Qp1, Qp2, Qp3, i64_w, i32_w]
               rfl
              refine pure_ (i := 21) (N := some 125) (v := undef) (a' := ?_) (Qbz 28 4194303) rfl rfl (by kernel_rfl) (fun _ _ _ h => h) (Or.inr ⟨by rfl, rfl⟩) ?_ ?_
              rotate_left
              ·simp only [Act.put, Qp1, Qp2, Qp3, i64_w, i32_w]
               rfl
              refine pure_ (i := 22) (N := some 126) (v := undef) (a' := ?_) (Qbz 28 8388607) rfl rfl (by kernel_rfl) (fun _ _ _ h => h) (Or.inr ⟨by rfl, rfl⟩) ?_ ?_
              rotate_left
              ·simp only [Act.put, Qp1, Qp2, Qp3, i64_w, i32_w]
               rfl
              refine pure_ (i := 23) (N := some 127) (v := undef) (a' := ?_) (Qbz 28 16777215) rfl rfl (by kernel_rfl) (fun _ _ _ h => h) (Or.inr ⟨by rfl, rfl⟩) ?_ ?_
              rotate_left
              ·simp only [Act.put, Qp1, Qp2, Qp3, i64_w, i32_w]
               rfl
              refine pure_ (i := 24) (N := some 128) (v := undef) (a' := ?_) (Qbz 28 33554431) rfl rfl (by kernel_rfl) (fun _ _ _ h => h) (Or.inr ⟨by rfl, rfl⟩) ?_ ?_
              rotate_left
              ·simp only [Act.put, Qp1, Qp2, Qp3, i64_w, i32_w]
               rfl
              refine pure_ (i := 25) (N := some 129) (v := undef) (a' := ?_) (Qbz 28 67108863) rfl rfl (by kernel_rfl) (fun _ _ _ h => h) (Or.inr ⟨by rfl, rfl⟩) ?_ ?_
              rotate_left
              ·simp only [Act.put, Qp1, Qp2, Qp3, i64_w, i32_w]
               rfl
              refine pure_ (i := 26) (N := some 130) (v := undef) (a' := ?_) (Qbz 28 134217727) rfl rfl (by kernel_rfl) (fun _ _ _ h => h) (Or.inr ⟨by rfl, rfl⟩) ?_ ?_
              rotate_left
              ·simp only [Act.put, Qp1, Qp2, Qp3, i64_w, i32_w]
               rfl
              refine pure_ (i := 27) (N := some 131) (v := ?_) (a' := ?_) (Qbz 28 268435455) rfl rfl (by kernel_rfl) (fun _ _ _ h => h) (Or.inl ⟨by rfl, ?_⟩) ?_ ?_
              rotate_left
              ·intro w'
               go_simp
               with_reducible rfl
              rotate_left
              ·simp only [Act.put, Qp1, Qp2, Qp3, i64_w, i32_w]
               rfl
              refine done_ (by kernel_rfl) ?_
              go_wp2
              go_roundg gx
              case measure => omega
              case rel => exact ⟨i + 1, t, rfl, by go_num, by omega, ⟨HT4.out, by omega⟩, ⟨below_drew HB.out⟩⟩
             ·rw [hbt] at hJ4 ht
              by_cases hp0 : p < 0
              ·have hd1' : decide (p < 0) = true := decide_eq_true hp0
               rw [hd1'] at ht
               have HT4 : Aside0 (topsF B P v gx (i + 1) (t + 1) = TP) := ⟨by simpa using ht⟩
               clear ht hbt hcB hp0
               go_wp2_with (fail)
               refine start_ (n := 28) (S := fun w' => w'.cell? ⟨vB, 0, none⟩ = some (.int .i64 (v : Int)) ∧ w'.cell? ⟨xB, 1, none⟩ = some (.slice (some adP) P.length c1) ∧ w'.cell? (adP.add i) = some (.int .i64 p)) (ds := []) (Qbz 28 0) (by kernel_rfl) rfl rfl ⟨fvd, f1d, fpd⟩ (fun hHeld => ?_)
               refine pure_ (i := 0) (N := some 104) (v := ?_) (a' := ?_) (Qbz 28 1) rfl rfl (by kernel_rfl) (fun _ _ _ h => h) (Or.inl ⟨by rfl, ?_⟩) ?_ ?_
               rotate_left
               ·intro w'
                go_simp
                with_reducible rfl
               rotate_left
               ·simp only [Act.put, Qp1, Qp2, Qp3, i64_w, i32_w]
                rfl
               refine take_ (i := 1) (N := some 105) (v := ?_) (a' := ?_) (Qbz 28 3) rfl rfl (by kernel_rfl) (fun _ _ _ h => h) (Or.inl ⟨by rfl, ?_⟩) hHeld ?_ ?_
               rotate_left
               ·rintro w' ⟨s0, s1, s2⟩
                go_simp
                with_reducible rfl
               rotate_left
               ·simp only [Act.put, Qp1, Qp2, Qp3, i64_w, i32_w]
                rfl
               refine pure_ (i := 2) (N := some 106) (v := ?_) (a' := ?_) (Qbz 28 7) rfl rfl (by kernel_rfl) (fun _ _ _ h => h) (Or.inl ⟨by rfl, ?_⟩) ?_ ?_
               rotate_left
               ·intro w'
                go_simp
                with_reducible rfl
               rotate_left
               ·simp only [Act.put, Qp1, Qp2, Qp3, i64_w, i32_w]
                rfl
               refine pure_ (i := 3) (N := some 107) (v := ?_) (a' := ?_) (Qbz 28 15) rfl rfl (by kernel_rfl) (fun _ _ _ h => h) (Or.inl ⟨by rfl, ?_⟩) ?_ ?_
               rotate_left
               ·intro w'
                go_simp
                with_reducible rfl
               rotate_left
               ·simp only [Act.put, Qp1, Qp2, Qp3, i64_w, i32_w]
                rfl
               refine pure_ (i := 4) (N := some 108) (v := ?_) (a' := ?_) (Qbz 28 31) rfl rfl (by kernel_rfl) (fun _ _ _ h => h) (Or.inl ⟨by rfl, ?_⟩) ?_ ?_
               rotate_left
               ·intro w'
                go_simp
                with_reducible rfl
               rotate_left
               ·simp only [Act.put, Qp1, Qp2, Qp3, i64_w, i32_w]
                rfl
               refine pure_ (i := 5) (N := some 109) (v := ?_) (a' := ?_) (Qbz 28 63) rfl rfl (by kernel_rfl) (fun _ _ _ h => h) (Or.inl ⟨by rfl, ?_⟩) ?_ ?_
               rotate_left
               ·intro w'
                go_simp
                with_reducible rfl
               rotate_left
               ·simp only [Act.put, Qp1, Qp2, Qp3, i64_w, i32_w]
                rfl
               refine pure_ (i := 6) (N := some 110) (v := ?_) (a' := ?_) (Qbz 28 127) rfl rfl (by kernel_rfl) (fun _ _ _ h => h) (Or.inl ⟨by rfl, ?_⟩) ?_ ?_
               rotate_left
               ·intro w'
                go_simp
                with_reducible rfl
               rotate_left
               ·simp only [Act.put, Qp1, Qp2, Qp3, i64_w, i32_w]
                rfl
               refine pure_ (i := 8) (N := some 112) (v := ?_) (a' := ?_) (Qbz 28 383) rfl rfl (by kernel_rfl) (fun _ _ _ h => h) (Or.inl ⟨by rfl, ?_⟩) ?_ ?_
               rotate_left
               ·intro w'
                go_simp
                with_reducible rfl
               rotate_left
               ·simp only [Act.put, Qp1, Qp2, Qp3, i64_w, i32_w]
                rfl
               refine take_ (i := 7) (N := some 111) (v := ?_) (a' := ?_) (Qbz 28 511) rfl rfl (by kernel_rfl) (fun _ _ _ h => h) (Or.inl ⟨by rfl, ?_⟩) hHeld ?_ ?_
               rotate_left
               ·rintro w' ⟨s0, s1, s2⟩
                go_simp
                with_reducible rfl
               rotate_left
               ·simp only [Act.put, Qp1, Qp2, Qp3, i64_w, i32_w]
                rfl
               refine pure_ (i := 9) (N := some 113) (v := ?_) (a' := ?_) (Qbz 28 1023) rfl rfl (by kernel_rfl) (fun _ _ _ h => h) (Or.inl ⟨by rfl, ?_⟩) ?_ ?_
               rotate_left
               ·intro w'
                go_simp
                with_reducible rfl
               rotate_left
               ·simp only [Act.put, Qp1, Qp2, Qp3, i64_w, i32_w]
                rfl
               refine take_ (i := 10) (N := some 114) (v := ?_) (a' := ?_) (Qbz 28 2047) rfl rfl (by kernel_rfl) (fun _ _ _ h => h) (Or.inl ⟨by rfl, ?_⟩) hHeld ?_ ?_
               rotate_left
               ·rintro w' ⟨s0, s1, s2⟩
                go_simp
                with_reducible rfl
               rotate_left
               ·simp only [Act.put, Qp1, Qp2, Qp3, i64_w, i32_w]
                rfl
               refine pure_ (i := 11) (N := some 115) (v := ?_) (a' := ?_) (Qbz 28 4095) rfl rfl (by kernel_rfl) (fun _ _ _ h => h) (Or.inl ⟨by rfl, ?_⟩) ?_ ?_
               rotate_left
               ·intro w'
                go_simp
                with_reducible rfl
               rotate_left
               ·simp only [Act.put, Qp1, Qp2, Qp3, i64_w, i32_w]
                rfl
               refine pure_ (i := 12) (N := some 116) (v := ?_) (a' := ?_) (Qbz 28 8191) rfl rfl (by kernel_rfl) (fun _ _ _ h => h) (Or.inl ⟨by rfl, ?_⟩) ?_ ?_
               rotate_left
               ·intro w'
                go_simp
                with_reducible rfl
               rotate_left
               ·simp only [Act.put, Qp1, Qp2, Qp3, i64_w, i32_w]
                rfl
               refine pure_ (i := 13) (N := some 117) (v := undef) (a' := ?_) (Qbz 28 16383) rfl rfl (by kernel_rfl) (fun _ _ _ h => h) (Or.inr ⟨by rfl, rfl⟩) ?_ ?_
               rotate_left
               ·simp only [Act.put, Qp1, Qp2, Qp3, i64_w, i32_w]
                rfl
               refine pure_ (i := 14) (N := some 118) (v := undef) (a' := ?_) (Qbz 28 32767) rfl rfl (by kernel_rfl) (fun _ _ _ h => h) (Or.inr ⟨by rfl, rfl⟩) ?_ ?_
               rotate_left
               ·simp only [Act.put, Qp1, Qp2, Qp3, i64_w, i32_w]
                rfl
               refine pure_ (i := 15) (N := some 119) (v := undef) (a' := ?_) (Qbz 28 65535) rfl rfl (by kernel_rfl) (fun _ _ _ h => h) (Or.inr ⟨by rfl, rfl⟩) ?_ ?_
               rotate_left
               ·simp only [Act.put, Qp1, Qp2, Qp3, i64_w, i32_w]
                rfl
               refine pure_ (i := 16) (N := some 120) (v := undef) (a' := ?_) (Qbz 28 131071) rfl rfl (by kernel_rfl) (fun _ _ _ h => h) (Or.inr ⟨by rfl, rfl⟩) ?_ ?_
               rotate_left
               ·simp only [Act.put, Qp1, Qp2, Qp3, i64_w, i32_w]
                rfl
               refine pure_ (i := 17) (N := some 121) (v := undef) (a' := ?_) (Qbz 28 262143) rfl rfl (by kernel_rfl) (fun _ _ _ h => h) (Or.inr ⟨by rfl, rfl⟩) ?_ ?_
               rotate_left
               ·simp only [Act.put, Qp1, Qp2, Qp3, i64_w, i32_w]
                rfl
               refine pure_ (i := 18) (N := some 122) (v := undef) (a' := ?_) (Qbz 28 524287) rfl rfl (by kernel_rfl) (fun _ _ _ h => h) (Or.inr ⟨by rfl, rfl⟩) ?_ ?_
               rotate_left
               ·simp only [Act.put, Qp1, Qp2, Qp3, i64_w, i32_w]
                rfl
               refine pure_ (i := 19) (N := some 123) (v := undef) (a' := ?_) (Qbz 28 1048575) rfl rfl (by kernel_rfl) (fun _ _ _ h => h) (Or.inr ⟨by rfl, rfl⟩) ?_ ?_
               rotate_left
               ·simp only [Act.put, Qp1, Qp2, Qp3, i64_w, i32_w]
                rfl
               refine pure_ (i := 20) (N := some 124) (v := undef) (a' := ?_) (Qbz 28 2097151) rfl rfl (by kernel_rfl) (fun _ _ _ h => h) (Or.inr ⟨by rfl, rfl⟩) ?_ ?_
               rotate_left
               ·simp only [Act.put, Qp1, Qp2, Qp3, i64_w, i32_w]
                rfl
               refine pure_ (i := 21) (N := some 125) (v := undef) (a' := ?_) (Qbz 28 4194303) rfl rfl (by kernel_rfl) (fun _ _ _ h => h) (Or.inr ⟨by rfl, rfl⟩) ?_ ?_
               rotate_left
               ·simp only [Act.put, Qp1, Qp2, Qp3, i64_w, i32_w]
                rfl
               refine pure_ (i := 22) (N := some 126) (v := undef) (a' := ?_) (Qbz 28 8388607) rfl rfl (by kernel_rfl) (fun _ _ _ h => h) (Or.inr ⟨by rfl, rfl⟩) ?_ ?_
               rotate_left
               ·simp only [Act.put, Qp1, Qp2, Qp3, i64_w, i32_w]
                rfl
               refine pure_ (i := 23) (N := some 127) (v := undef) (a' := ?_) (Qbz 28 16777215) rfl rfl (by kernel_rfl) (fun _ _ _ h => h) (Or.inr ⟨by rfl, rfl⟩) ?_ ?_
               rotate_left
               ·simp only [Act.put, Qp1, Qp2, Qp3, i64_w, i32_w]
                rfl
               refine pure_ (i := 24) (N := some 128) (v := undef) (a' := ?_) (Qbz 28 33554431) rfl rfl (by kernel_rfl) (fun _ _ _ h => h) (Or.inr ⟨by rfl, rfl⟩) ?_ ?_
               rotate_left
               ·simp only [Act.put, Qp1, Qp2, Qp3, i64_w, i32_w]
                rfl
               refine pure_ (i := 25) (N := some 129) (v := undef) (a' := ?_) (Qbz 28 67108863) rfl rfl (by kernel_rfl) (fun _ _ _ h => h) (Or.inr ⟨by rfl, rfl⟩) ?_ ?_
               rotate_left
               ·simp only [Act.put, Qp1, Qp2, Qp3, i64_w, i32_w]
                rfl
               refine pure_ (i := 26) (N := some 130) (v := ?_) (a' := ?_) (Qbz 28 134217727) rfl rfl (by kernel_rfl) (fun _ _ _ h => h) (Or.inl ⟨by rfl, ?_⟩) ?_ ?_
               rotate_left
               ·intro w'
                go_simp
                with_reducible rfl
               rotate_left
               ·simp only [Act.put, Qp1, Qp2, Qp3, i64_w, i32_w]
                rfl
               refine pure_ (i := 27) (N := some 131) (v := ?_) (a' := ?_) (Qbz 28 268435455) rfl rfl (by kernel_rfl) (fun _ _ _ h => h) (Or.inl ⟨by rfl, ?_⟩) ?_ ?_
               rotate_left
               ·intro w'
                go_simp
                with_reducible rfl
               rotate_left
               ·simp only [Act.put, Qp1, Qp2, Qp3, i64_w, i32_w]
                rfl
               refine done_ (by kernel_rfl) ?_
               go_wp2
               go_roundg gx
               case measure => omega
               case rel => exact ⟨i + 1, t + 1, by go_num, by go_num, by omega, ⟨HT4.out, by omega⟩, ⟨below_drew HB.out⟩⟩
              ·have hd1' : decide (p < 0) = false := decide_eq_false hp0
               rw [hd1'] at ht
               obtain ⟨pn, rfl⟩ := Int.eq_ofNat_of_zero_le (show 0 ≤ p by omega)
               have hpn : pn < B.length := by omega
               obtain ⟨hm1, hm2, hm3, hm4⟩ := HOK2.out pn hpn
               obtain ⟨adB'', e3, hgc⟩ := Kd.at_int hcB (pn : Int) (by omega) (by omega)
               injection e3 with e3
               subst e3
               rw [Int.toNat_natCast] at hgc
               obtain ⟨cn, hcn⟩ := Int.eq_ofNat_of_zero_le hm3
               rw [hcn] at hgc ht hm4
               have hcn7 : cn < 512 := by omega
               have fcd : wr.drew.cell? (adB.add pn) = some (.int .i64 (cn : Int)) := hgc
               have hci : bitI (cn : Int) v = cn.testBit v := rfl
               rw [hci] at ht
               obtain ⟨J2, hK1, hK2, hK3, hK4, hK5⟩ := bitJT cn v (by omega) (by omega)
               have hp5 : ((pn : Int) < (B.length : Int)) = True := eq_true (by omega)
               have hp6 : decide ((pn : Int) < (B.length : Int)) = true := decide_eq_true (by omega)
               have hd1n : decide ((pn : Int) < 0) = false := hd1'
               clear hm1 hm2 hm3 hcn hci hK3 hK4 hcB hbt hp0
               cases hct : cn.testBit v
               ·rw [hct] at hK5 ht
                have HT4 : Aside0 (topsF B P v gx (i + 1) (t + 1) = TP) := ⟨by simpa using ht⟩
                clear ht hct
                go_wp2_with (fail)
                refine start_ (n := 28) (S := fun w' => w'.cell? ⟨vB, 0, none⟩ = some (.int .i64 (v : Int)) ∧ w'.cell? ⟨xB, 0, none⟩ = some (.slice (some adB) B.length c0) ∧ w'.cell? ⟨xB, 1, none⟩ = some (.slice (some adP) P.length c1) ∧ w'.cell? (adP.add i) = some (.int .i64 (pn : Int)) ∧ w'.cell? (adB.add pn) = some (.int .i64 (cn : Int))) (ds := []) (Qbz 28 0) (by kernel_rfl) rfl rfl ⟨fvd, f0d, f1d, fpd, fcd⟩ (fun hHeld => ?_)
                refine pure_ (i := 0) (N := some 104) (v := ?_) (a' := ?_) (Qbz 28 1) rfl rfl (by kernel_rfl) (fun _ _ _ h => h) (Or.inl ⟨by rfl, ?_⟩) ?_ ?_
                rotate_left
                ·intro w'
                 go_simp
                 with_reducible rfl
                rotate_left
                ·simp only [Act.put, Qp1, Qp2, Qp3, i64_w, i32_w]
                 rfl
                refine take_ (i := 1) (N := some 105) (v := ?_) (a' := ?_) (Qbz 28 3) rfl rfl (by kernel_rfl) (fun _ _ _ h => h) (Or.inl ⟨by rfl, ?_⟩) hHeld ?_ ?_
                rotate_left
                ·rintro w' ⟨s0, s1, s2, s3, s4⟩
                 go_simp
                 with_reducible rfl
                rotate_left
                ·simp only [Act.put, Qp1, Qp2, Qp3, i64_w, i32_w]
                 rfl
                refine pure_ (i := 2) (N := some 106) (v := ?_) (a' := ?_) (Qbz 28 7) rfl rfl (by kernel_rfl) (fun _ _ _ h => h) (Or.inl ⟨by rfl, ?_⟩) ?_ ?_
                rotate_left
                ·intro w'
                 go_simp
                 with_reducible rfl
                rotate_left
                ·simp only [Act.put, Qp1, Qp2, Qp3, i64_w, i32_w]
                 rfl
                refine pure_ (i := 3) (N := some 107) (v := ?_) (a' := ?_) (Qbz 28 15) rfl rfl (by kernel_rfl) (fun _ _ _ h => h) (Or.inl ⟨by rfl, ?_⟩) ?_ ?_
                rotate_left
                ·intro w'
                 go_simp
                 with_reducible rfl
                rotate_left
                ·simp only [Act.put, Qp1, Qp2, Qp3, i64_w, i32_w]
                 rfl
                refine pure_ (i := 4) (N := some 108) (v := ?_) (a' := ?_) (Qbz 28 31) rfl rfl (by kernel_rfl) (fun _ _ _ h => h) (Or.inl ⟨by rfl, ?_⟩) ?_ ?_
                rotate_left
                ·intro w'
                 go_simp
                 with_reducible rfl
                rotate_left
                ·simp only [Act.put, Qp1, Qp2, Qp3, i64_w, i32_w]
                 rfl
                refine pure_ (i := 5) (N := some 109) (v := ?_) (a' := ?_) (Qbz 28 63) rfl rfl (by kernel_rfl) (fun _ _ _ h => h) (Or.inl ⟨by rfl, ?_⟩) ?_ ?_
                rotate_left
                ·intro w'
                 go_simp
                 with_reducible rfl
                rotate_left
                ·simp only [Act.put, Qp1, Qp2, Qp3, i64_w, i32_w]
                 rfl
                refine pure_ (i := 6) (N := some 110) (v := ?_) (a' := ?_) (Qbz 28 127) rfl rfl (by kernel_rfl) (fun _ _ _ h => h) (Or.inl ⟨by rfl, ?_⟩) ?_ ?_
                rotate_left
                ·intro w'
                 go_simp
                 with_reducible rfl
                rotate_left
                ·simp only [Act.put, Qp1, Qp2, Qp3, i64_w, i32_w]
                 rfl
                refine pure_ (i := 8) (N := some 112) (v := ?_) (a' := ?_) (Qbz 28 383) rfl rfl (by kernel_rfl) (fun _ _ _ h => h) (Or.inl ⟨by rfl, ?_⟩) ?_ ?_
                rotate_left
                ·intro w'
                 go_simp
                 with_reducible rfl
                rotate_left
                ·simp only [Act.put, Qp1, Qp2, Qp3, i64_w, i32_w]
                 rfl
                refine take_ (i := 7) (N := some 111) (v := ?_) (a' := ?_) (Qbz 28 511) rfl rfl (by kernel_rfl) (fun _ _ _ h => h) (Or.inl ⟨by rfl, ?_⟩) hHeld ?_ ?_
                rotate_left
                ·rintro w' ⟨s0, s1, s2, s3, s4⟩
                 go_simp
                 with_reducible rfl
                rotate_left
                ·simp only [Act.put, Qp1, Qp2, Qp3, i64_w, i32_w]
                 rfl
                refine pure_ (i := 9) (N := some 113) (v := ?_) (a' := ?_) (Qbz 28 1023) rfl rfl (by kernel_rfl) (fun _ _ _ h => h) (Or.inl ⟨by rfl, ?_⟩) ?_ ?_
                rotate_left
                ·intro w'
                 go_simp
                 with_reducible rfl
                rotate_left
                ·simp only [Act.put, Qp1, Qp2, Qp3, i64_w, i32_w]
                 rfl
                refine take_ (i := 10) (N := some 114) (v := ?_) (a' := ?_) (Qbz 28 2047) rfl rfl (by kernel_rfl) (fun _ _ _ h => h) (Or.inl ⟨by rfl, ?_⟩) hHeld ?_ ?_
                rotate_left
                ·rintro w' ⟨s0, s1, s2, s3, s4⟩
                 go_simp
                 with_reducible rfl
                rotate_left
                ·simp only [Act.put, Qp1, Qp2, Qp3, i64_w, i32_w]
                 rfl
                refine pure_ (i := 11) (N := some 115) (v := ?_) (a' := ?_) (Qbz 28 4095) rfl rfl (by kernel_rfl) (fun _ _ _ h => h) (Or.inl ⟨by rfl, ?_⟩) ?_ ?_
                rotate_left
                ·intro w'
                 go_simp
                 with_reducible rfl
                rotate_left
                ·simp only [Act.put, Qp1, Qp2, Qp3, i64_w, i32_w]
                 rfl
                refine pure_ (i := 12) (N := some 116) (v := ?_) (a' := ?_) (Qbz 28 8191) rfl rfl (by kernel_rfl) (fun _ _ _ h => h) (Or.inl ⟨by rfl, ?_⟩) ?_ ?_
                rotate_left
                ·intro w'
                 go_simp
                 with_reducible rfl
                rotate_left
                ·simp only [Act.put, Qp1, Qp2, Qp3, i64_w, i32_w]
                 rfl
                refine pure_ (i := 13) (N := some 117) (v := ?_) (a' := ?_) (Qbz 28 16383) rfl rfl (by kernel_rfl) (fun _ _ _ h => h) (Or.inl ⟨by rfl, ?_⟩) ?_ ?_
                rotate_left
                ·intro w'
                 go_simp
                 with_reducible rfl
                rotate_left
                ·simp only [Act.put, Qp1, Qp2, Qp3, i64_w, i32_w]
                 rfl
                refine pure_ (i := 15) (N := some 119) (v := ?_) (a' := ?_) (Qbz 28 49151) rfl rfl (by kernel_rfl) (fun _ _ _ h => h) (Or.inl ⟨by rfl, ?_⟩) ?_ ?_
                rotate_left
                ·intro w'
                 go_simp
                 with_reducible rfl
                rotate_left
                ·simp only [Act.put, Qp1, Qp2, Qp3, i64_w, i32_w]
                 rfl
                refine pure_ (i := 17) (N := some 121) (v := ?_) (a' := ?_) (Qbz 28 180223) rfl rfl (by kernel_rfl) (fun _ _ _ h => h) (Or.inl ⟨by rfl, ?_⟩) ?_ ?_
                rotate_left
                ·intro w'
                 go_simp
                 with_reducible rfl
                rotate_left
                ·simp only [Act.put, Qp1, Qp2, Qp3, i64_w, i32_w]
                 rfl
                refine take_ (i := 14) (N := some 118) (v := ?_) (a' := ?_) (Qbz 28 196607) rfl rfl (by kernel_rfl) (fun _ _ _ h => h) (Or.inl ⟨by rfl, ?_⟩) hHeld ?_ ?_
                rotate_left
                ·rintro w' ⟨s0, s1, s2, s3, s4⟩
                 go_simp
                 with_reducible rfl
                rotate_left
                ·simp only [Act.put, Qp1, Qp2, Qp3, i64_w, i32_w]
                 rfl
                refine take_ (i := 16) (N := some 120) (v := ?_) (a' := ?_) (Qbz 28 262143) rfl rfl (by kernel_rfl) (fun _ _ _ h => h) (Or.inl ⟨by rfl, ?_⟩) hHeld ?_ ?_
                rotate_left
                ·rintro w' ⟨s0, s1, s2, s3, s4⟩
                 go_simp
                 with_reducible rfl
                rotate_left
                ·simp only [Act.put, Qp1, Qp2, Qp3, i64_w, i32_w]
                 rfl
                refine pure_ (i := 18) (N := some 122) (v := ?_) (a' := ?_) (Qbz 28 524287) rfl rfl (by kernel_rfl) (fun _ _ _ h => h) (Or.inl ⟨by rfl, ?_⟩) ?_ ?_
                rotate_left
                ·intro w'
                 go_simp
                 with_reducible rfl
                rotate_left
                ·simp only [Act.put, Qp1, Qp2, Qp3, i64_w, i32_w]
                 rfl
                refine take_ (i := 19) (N := some 123) (v := ?_) (a' := ?_) (Qbz 28 1048575) rfl rfl (by kernel_rfl) (fun _ _ _ h => h) (Or.inl ⟨by rfl, ?_⟩) hHeld ?_ ?_
                rotate_left
                ·rintro w' ⟨s0, s1, s2, s3, s4⟩
                 go_simp
                 with_reducible rfl
                rotate_left
                ·simp only [Act.put, Qp1, Qp2, Qp3, i64_w, i32_w]
                 rfl
                refine pure_ (i := 20) (N := some 124) (v := ?_) (a' := ?_) (Qbz 28 2097151) rfl rfl (by kernel_rfl) (fun _ _ _ h => h) (Or.inl ⟨by rfl, ?_⟩) ?_ ?_
                rotate_left
                ·intro w'
                 go_simp
                 with_reducible rfl
                rotate_left
                ·simp only [Act.put, Qp1, Qp2, Qp3, i64_w, i32_w]
                 rfl
                refine take_ (i := 21) (N := some 125) (v := ?_) (a' := ?_) (Qbz 28 4194303) rfl rfl (by kernel_rfl) (fun _ _ _ h => h) (Or.inl ⟨by rfl, ?_⟩) hHeld ?_ ?_
                rotate_left
                ·rintro w' ⟨s0, s1, s2, s3, s4⟩
                 go_simp
                 with_reducible rfl
                rotate_left
                ·simp only [Act.put, Qp1, Qp2, Qp3, i64_w, i32_w]
                 rfl
                refine take_ (i := 22) (N := some 126) (v := ?_) (a' := ?_) (Qbz 28 8388607) rfl rfl (by kernel_rfl) (fun _ _ _ h => h) (Or.inl ⟨by rfl, ?_⟩) hHeld ?_ ?_
                rotate_left
                ·rintro w' ⟨s0, s1, s2, s3, s4⟩
                 go_simp
                 with_reducible rfl
                rotate_left
                ·simp only [Act.put, Qp1, Qp2, Qp3, i64_w, i32_w]
                 rfl
                refine pure_ (i := 23) (N := some 127) (v := ?_) (a' := ?_) (Qbz 28 16777215) rfl rfl (by kernel_rfl) (fun _ _ _ h => h) (Or.inl ⟨by rfl, ?_⟩) ?_ ?_
                rotate_left
                ·intro w'
                 go_simp
                 with_reducible rfl
                rotate_left
                ·simp only [Act.put, Qp1, Qp2, Qp3, i64_w, i32_w]
                 rfl
                refine pure_ (i := 24) (N := some 128) (v := ?_) (a' := ?_) (Qbz 28 33554431) rfl rfl (by kernel_rfl) (fun _ _ _ h => h) (Or.inl ⟨by rfl, ?_⟩) ?_ ?_
                rotate_left
                ·intro w'
                 go_simp
                 with_reducible rfl
                rotate_left
                ·simp only [Act.put, Qp1, Qp2, Qp3, i64_w, i32_w]
                 rfl
                refine pure_ (i := 25) (N := some 129) (v := ?_) (a' := ?_) (Qbz 28 67108863) rfl rfl (by kernel_rfl) (fun _ _ _ h => h) (Or.inl ⟨by rfl, ?_⟩) ?_ ?_
                rotate_left
                ·intro w'
                 go_simp
                 with_reducible rfl
                rotate_left
                ·simp only [Act.put, Qp1, Qp2, Qp3, i64_w, i32_w]
                 rfl
                refine pure_ (i := 26) (N := some 130) (v := ?_) (a' := ?_) (Qbz 28 134217727) rfl rfl (by kernel_rfl) (fun _ _ _ h => h) (Or.inl ⟨by rfl, ?_⟩) ?_ ?_
                rotate_left
                ·intro w'
                 go_simp
                 with_reducible rfl
                rotate_left
                ·simp only [Act.put, Qp1, Qp2, Qp3, i64_w, i32_w]
                 rfl
                refine pure_ (i := 27) (N := some 131) (v := ?_) (a' := ?_) (Qbz 28 268435455) rfl rfl (by kernel_rfl) (fun _ _ _ h => h) (Or.inl ⟨by rfl, ?_⟩) ?_ ?_
                rotate_left
                ·intro w'
                 go_simp
                 with_reducible rfl
                rotate_left
                ·simp only [Act.put, Qp1, Qp2, Qp3, i64_w, i32_w]
                 rfl
                refine done_ (by kernel_rfl) ?_
                go_wp2
                go_roundg gx
                case measure => omega
                case rel => exact ⟨i + 1, t + 1, by go_num, by go_num, by omega, ⟨HT4.out, by omega⟩, ⟨below_drew HB.out⟩⟩
               ·rw [hct] at hK5 ht
                have HT4 : Aside0 (topsF B P v gx (i + 1) t = TP) := ⟨by simpa using ht⟩
                clear ht hct
                go_wp2_with (fail)
                refine start_ (n := 28) (S := fun w' => w'.cell? ⟨vB, 0, none⟩ = some (.int .i64 (v : Int)) ∧ w'.cell? ⟨xB, 0, none⟩ = some (.slice (some adB) B.length c0) ∧ w'.cell? ⟨xB, 1, none⟩ = some (.slice (some adP) P.length c1) ∧ w'.cell? (adP.add i) = some (.int .i64 (pn : Int)) ∧ w'.cell? (adB.add pn) = some (.int .i64 (cn : Int))) (ds := []) (Qbz 28 0) (by kernel_rfl) rfl rfl ⟨fvd, f0d, f1d, fpd, fcd⟩ (fun hHeld => ?_)
                refine pure_ (i := 0) (N := some 104) (v := ?_) (a' := ?_) (Qbz 28 1) rfl rfl (by kernel_rfl) (fun _ _ _ h => h) (Or.inl ⟨by rfl, ?_⟩) ?_ ?_
                rotate_left
                ·intro w'
                 go_simp
                 with_reducible rfl
                rotate_left
                ·simp only [Act.put, Qp1, Qp2, Qp3, i64_w, i32_w]
                 rfl
                refine take_ (i := 1) (N := some 105) (v := ?_) (a' := ?_) (Qbz 28 3) rfl rfl (by kernel_rfl) (fun _ _ _ h => h) (Or.inl ⟨by rfl, ?_⟩) hHeld ?_ ?_
                rotate_left
                ·rintro w' ⟨s0, s1, s2, s3, s4⟩
                 go_simp
                 with_reducible rfl
                rotate_left
                ·simp only [Act.put, Qp1, Qp2, Qp3, i64_w, i32_w]
                 rfl
                refine pure_ (i := 2) (N := some 106) (v := ?_) (a' := ?_) (Qbz 28 7) rfl rfl (by kernel_rfl) (fun _ _ _ h => h) (Or.inl ⟨by rfl, ?_⟩) ?_ ?_
                rotate_left
                ·intro w'
                 go_simp
                 with_reducible rfl
                rotate_left
                ·simp only [Act.put, Qp1, Qp2, Qp3, i64_w, i32_w]
                 rfl
                refine pure_ (i := 3) (N := some 107) (v := ?_) (a' := ?_) (Qbz 28 15) rfl rfl (by kernel_rfl) (fun _ _ _ h => h) (Or.inl ⟨by rfl, ?_⟩) ?_ ?_
                rotate_left
                ·intro w'
                 go_simp
                 with_reducible rfl
                rotate_left
                ·simp only [Act.put, Qp1, Qp2, Qp3, i64_w, i32_w]
                 rfl
                refine pure_ (i := 4) (N := some 108) (v := ?_) (a' := ?_) (Qbz 28 31) rfl rfl (by kernel_rfl) (fun _ _ _ h => h) (Or.inl ⟨by rfl, ?_⟩) ?_ ?_
                rotate_left
                ·intro w'
                 go_simp
                 with_reducible rfl
                rotate_left
                ·simp only [Act.put, Qp1, Qp2, Qp3, i64_w, i32_w]
                 rfl
                refine pure_ (i := 5) (N := some 109) (v := ?_) (a' := ?_) (Qbz 28 63) rfl rfl (by kernel_rfl) (fun _ _ _ h => h) (Or.inl ⟨by rfl, ?_⟩) ?_ ?_
                rotate_left
                ·intro w'
                 go_simp
                 with_reducible rfl
                rotate_left
                ·simp only [Act.put, Qp1, Qp2, Qp3, i64_w, i32_w]
                 rfl
                refine pure_ (i := 6) (N := some 110) (v := ?_) (a' := ?_) (Qbz 28 127) rfl rfl (by kernel_rfl) (fun _ _ _ h => h) (Or.inl ⟨by rfl, ?_⟩) ?_ ?_
                rotate_left
                ·intro w'
                 go_simp
                 with_reducible rfl
                rotate_left
                ·simp only [Act.put, Qp1, Qp2, Qp3, i64_w, i32_w]
                 rfl
                refine pure_ (i := 8) (N := some 112) (v := ?_) (a' := ?_) (Qbz 28 383) rfl rfl (by kernel_rfl) (fun _ _ _ h => h) (Or.inl ⟨by rfl, ?_⟩) ?_ ?_
                rotate_left
                ·intro w'
                 go_simp
                 with_reducible rfl
                rotate_left
                ·simp only [Act.put, Qp1, Qp2, Qp3, i64_w, i32_w]
                 rfl
                refine take_ (i := 7) (N := some 111) (v := ?_) (a' := ?_) (Qbz 28 511) rfl rfl (by kernel_rfl) (fun _ _ _ h => h) (Or.inl ⟨by rfl, ?_⟩) hHeld ?_ ?_
                rotate_left
                ·rintro w' ⟨s0, s1, s2, s3, s4⟩
                 go_simp
                 with_reducible rfl
                rotate_left
                ·simp only [Act.put, Qp1, Qp2, Qp3, i64_w, i32_w]
                 rfl
                refine pure_ (i := 9) (N := some 113) (v := ?_) (a' := ?_) (Qbz 28 1023) rfl rfl (by kernel_rfl) (fun _ _ _ h => h) (Or.inl ⟨by rfl, ?_⟩) ?_ ?_
                rotate_left
                ·intro w'
                 go_simp
                 with_reducible rfl
                rotate_left
                ·simp only [Act.put, Qp1, Qp2, Qp3, i64_w, i32_w]
                 rfl
                refine take_ (i := 10) (N := some 114) (v := ?_) (a' := ?_) (Qbz 28 2047) rfl rfl (by kernel_rfl) (fun _ _ _ h => h) (Or.inl ⟨by rfl, ?_⟩) hHeld ?_ ?_
                rotate_left
                ·rintro w' ⟨s0, s1, s2, s3, s4⟩
                 go_simp
                 with_reducible rfl
                rotate_left
                ·simp only [Act.put, Qp1, Qp2, Qp3, i64_w, i32_w]
                 rfl
                refine pure_ (i := 11) (N := some 115) (v := ?_) (a' := ?_) (Qbz 28 4095) rfl rfl (by kernel_rfl) (fun _ _ _ h => h) (Or.inl ⟨by rfl, ?_⟩) ?_ ?_
                rotate_left
                ·intro w'
                 go_simp
                 with_reducible rfl
                rotate_left
                ·simp only [Act.put, Qp1, Qp2, Qp3, i64_w, i32_w]
                 rfl
                refine pure_ (i := 12) (N := some 116) (v := ?_) (a' := ?_) (Qbz 28 8191) rfl rfl (by kernel_rfl) (fun _ _ _ h => h) (Or.inl ⟨by rfl, ?_⟩) ?_ ?_
                rotate_left
                ·intro w'
                 go_simp
                 with_reducible rfl
                rotate_left
                ·simp only [Act.put, Qp1, Qp2, Qp3, i64_w, i32_w]
                 rfl
                refine pure_ (i := 13) (N := some 117) (v := ?_) (a' := ?_) (Qbz 28 16383) rfl rfl (by kernel_rfl) (fun _ _ _ h => h) (Or.inl ⟨by rfl, ?_⟩) ?_ ?_
                rotate_left
                ·intro w'
                 go_simp
                 with_reducible rfl
                rotate_left
                ·simp only [Act.put, Qp1, Qp2, Qp3, i64_w, i32_w]
                 rfl
                refine pure_ (i := 15) (N := some 119) (v := ?_) (a' := ?_) (Qbz 28 49151) rfl rfl (by kernel_rfl) (fun _ _ _ h => h) (Or.inl ⟨by rfl, ?_⟩) ?_ ?_
                rotate_left
                ·intro w'
                 go_simp
                 with_reducible rfl
                rotate_left
                ·simp only [Act.put, Qp1, Qp2, Qp3, i64_w, i32_w]
                 rfl
                refine pure_ (i := 17) (N := some 121) (v := ?_) (a' := ?_) (Qbz 28 180223) rfl rfl (by kernel_rfl) (fun _ _ _ h => h) (Or.inl ⟨by rfl, ?_⟩) ?_ ?_
                rotate_left
                ·intro w'
                 go_simp
                 with_reducible rfl
                rotate_left
                ·simp only [Act.put, Qp1, Qp2, Qp3, i64_w, i32_w]
                 rfl
                refine take_ (i := 14) (N := some 118) (v := ?_) (a' := ?_) (Qbz 28 196607) rfl rfl (by kernel_rfl) (fun _ _ _ h => h) (Or.inl ⟨by rfl, ?_⟩) hHeld ?_ ?_
                rotate_left
                ·rintro w' ⟨s0, s1, s2, s3, s4⟩
                 go_simp
                 with_reducible rfl
                rotate_left
                ·simp only [Act.put, Qp1, Qp2, Qp3, i64_w, i32_w]
                 rfl
                refine take_ (i := 16) (N := some 120) (v := ?_) (a' := ?_) (Qbz 28 262143) rfl rfl (by kernel_rfl) (fun _ _ _ h => h) (Or.inl ⟨by rfl, ?_⟩) hHeld ?_ ?_
                rotate_left
                ·rintro w' ⟨s0, s1, s2, s3, s4⟩
                 go_simp
                 with_reducible rfl
                rotate_left
                ·simp only [Act.put, Qp1, Qp2, Qp3, i64_w, i32_w]
                 rfl
                refine pure_ (i := 18) (N := some 122) (v := ?_) (a' := ?_) (Qbz 28 524287) rfl rfl (by kernel_rfl) (fun _ _ _ h => h) (Or.inl ⟨by rfl, ?_⟩) ?_ ?_
                rotate_left
                ·intro w'
                 go_simp
                 with_reducible rfl
                rotate_left
                ·simp only [Act.put, Qp1, Qp2, Qp3, i64_w, i32_w]
                 rfl
                refine take_ (i := 19) (N := some 123) (v := ?_) (a' := ?_) (Qbz 28 1048575) rfl rfl (by kernel_rfl) (fun _ _ _ h => h) (Or.inl ⟨by rfl, ?_⟩) hHeld ?_ ?_
                rotate_left
                ·rintro w' ⟨s0, s1, s2, s3, s4⟩
                 go_simp
                 with_reducible rfl
                rotate_left
                ·simp only [Act.put, Qp1, Qp2, Qp3, i64_w, i32_w]
                 rfl
                refine pure_ (i := 20) (N := some 124) (v := ?_) (a' := ?_) (Qbz 28 2097151) rfl rfl (by kernel_rfl) (fun _ _ _ h => h) (Or.inl ⟨by rfl, ?_⟩) ?_ ?_
                rotate_left
                ·intro w'
                 go_simp
                 with_reducible rfl
                rotate_left
                ·simp only [Act.put, Qp1, Qp2, Qp3, i64_w, i32_w]
                 rfl
                refine take_ (i := 21) (N := some 125) (v := ?_) (a' := ?_) (Qbz 28 4194303) rfl rfl (by kernel_rfl) (fun _ _ _ h => h) (Or.inl ⟨by rfl, ?_⟩) hHeld ?_ ?_
                rotate_left
                ·rintro w' ⟨s0, s1, s2, s3, s4⟩
                 go_simp
                 with_reducible rfl
                rotate_left
                ·simp only [Act.put, Qp1, Qp2, Qp3, i64_w, i32_w]
                 rfl
                refine take_ (i := 22) (N := some 126) (v := ?_) (a' := ?_) (Qbz 28 8388607) rfl rfl (by kernel_rfl) (fun _ _ _ h => h) (Or.inl ⟨by rfl, ?_⟩) hHeld ?_ ?_
                rotate_left
                ·rintro w' ⟨s0, s1, s2, s3, s4⟩
                 go_simp
                 with_reducible rfl
                rotate_left
                ·simp only [Act.put, Qp1, Qp2, Qp3, i64_w, i32_w]
                 rfl
                refine pure_ (i := 23) (N := some 127) (v := ?_) (a' := ?_) (Qbz 28 16777215) rfl rfl (by kernel_rfl) (fun _ _ _ h => h) (Or.inl ⟨by rfl, ?_⟩) ?_ ?_
                rotate_left
                ·intro w'
                 go_simp
                 with_reducible rfl
                rotate_left
                ·simp only [Act.put, Qp1, Qp2, Qp3, i64_w, i32_w]
                 rfl
                refine pure_ (i := 24) (N := some 128) (v := ?_) (a' := ?_) (Qbz 28 33554431) rfl rfl (by kernel_rfl) (fun _ _ _ h => h) (Or.inl ⟨by rfl, ?_⟩) ?_ ?_
                rotate_left
                ·intro w'
                 go_simp
                 with_reducible rfl
                rotate_left
                ·simp only [Act.put, Qp1, Qp2, Qp3, i64_w, i32_w]
                 rfl
                refine pure_ (i := 25) (N := some 129) (v := ?_) (a' := ?_) (Qbz 28 67108863) rfl rfl (by kernel_rfl) (fun _ _ _ h => h) (Or.inl ⟨by rfl, ?_⟩) ?_ ?_
                rotate_left
                ·intro w'
                 go_simp
                 with_reducible rfl
                rotate_left
                ·simp only [Act.put, Qp1, Qp2, Qp3, i64_w, i32_w]
                 rfl
                refine pure_ (i := 26) (N := some 130) (v := ?_) (a' := ?_) (Qbz 28 134217727) rfl rfl (by kernel_rfl) (fun _ _ _ h => h) (Or.inl ⟨by rfl, ?_⟩) ?_ ?_
                rotate_left
                ·intro w'
                 go_simp
                 with_reducible rfl
                rotate_left
                ·simp only [Act.put, Qp1, Qp2, Qp3, i64_w, i32_w]
                 rfl
                refine pure_ (i := 27) (N := some 131) (v := ?_) (a' := ?_) (Qbz 28 268435455) rfl rfl (by kernel_rfl) (fun _ _ _ h => h) (Or.inl ⟨by rfl, ?_⟩) ?_ ?_
                rotate_left
                ·intro w'
                 go_simp
                 with_reducible rfl
                rotate_left
                ·simp only [Act.put, Qp1, Qp2, Qp3, i64_w, i32_w]
                 rfl
                refine done_ (by kernel_rfl) ?_
                go_wp2
                go_roundg gx
                case measure => omega
                case rel => exact ⟨i + 1, t, rfl, by go_num, by omega, ⟨HT4.out, by omega⟩, ⟨below_drew HB.out⟩⟩
            ·have hi1 : ((i : Int) < (B.length : Int)) = False := eq_false (by omega)
             have hi2 : decide ((i : Int) < (B.length : Int)) = false := decide_eq_false (by omega)
             obtain rfl : gk = 0 := by omega
             obtain ⟨ht, hti⟩ := HT.out
             simp only [topsF] at ht
             subst ht
             have ht := HT3.out
             clear HT HT3
             by_cases htp : t = 1
             ·subst htp
              rw [if_pos rfl] at ht
              have hx7 : ((1 : Int) != 1) = false := by decide
              obtain ⟨s, hs⟩ : ∃ s, G.getD v 0 = s := ⟨_, rfl⟩
              obtain ⟨adG, e4, hgg⟩ := Kd.at_int (Kd.C_below (Kd.C_below (Kd.C_below HRG.out HB7.out) HB9.out) HB.out) (v : Int) (by omega) (by rw [HL.out]; omega)
              subst e4
              have hsl := HG.out.row v
              rw [rd_gi, Int.toNat_natCast, hs] at hgg
              rw [hs] at ht hsl
              have hs7 : s < 512 := Nat.lt_of_lt_of_le hsl HN7.out
              have HWN := Aside0.mk (wnodes_all ⟨s, hs7⟩)
              obtain ⟨L, hL⟩ : ∃ L, els s 9 = L := ⟨_, rfl⟩
              have HLM : Aside0 (∀ u ∈ L, u < 62) := ⟨fun u hu => by
               rw [← hL] at hu
               have := (mem_els.1 hu).1
               omega⟩
              have HWN2 : Aside0 (width_nodes.f 12 (s : Int) = some (gi L)) := ⟨by rw [← hL]; exact HWN.out⟩
              rw [hL] at ht
              have hll : L.length ≤ 9 := by rw [← hL]; rw [els_length]; exact pc_le s 9
              have hfv : wr.cell? ⟨vB, 0, none⟩ = some (.int .i64 (v : Int)) := (blk_cell (blk_below HCV.out HB.out) 0).trans rfl
              have HND := Aside0.mk (width_nodes.calls 12 (s : Int) (gi L) wr (GL_below HGL.out (below_step HB7.out (below_step HB9.out HB.out))) HWN2.out)
              have HT5 := Aside0.mk ht
              have HLG := Aside0.mk (gi_length L)
              clear ht hL hs hsl hs7 HWN
              go_wp2_with (go_at_call 98; refine HND.out.mono ?_; rintro e w10 ⟨u5, rfl, hu, hb10⟩; obtain ⟨A5, c5, eu, hc5, hC5⟩ := Kd.R_reads hu; subst eu; have HC5 := Aside0.mk hC5; have HB10 := Aside0.mk hb10; clear hu hb10 hC5 hc5)
              rw [HLG.out]
              have HBT : Aside0 (Below w9.heap.size w9 w10) := ⟨below_step HB.out HB10.out⟩
              have HBOX9 := Aside0.mk (blk_below HBOX9.out HBT.out)
              have HCV9 := Aside0.mk (blk_below HCV.out HBT.out)
              have HB11 : Aside0 (Below w7.heap.size w7 w10) := ⟨below_step HB9.out HBT.out⟩
              clear HB HB10 HND hfv hgg
              have HCBOTH : Aside0 (∀ (uB u : Nat), u < 62 → ∀ W, Below w10.heap.size w10 W → W.cell? ⟨uB, 0, none⟩ = some (.int .i64 (u : Int)) → Calls Tryd.prog 54 #[.slice (some adB) B.length c0, .func (.func 102) #[] #[.pointer (some ⟨uB, 0, none⟩), .pointer (some ⟨vB, 0, none⟩)]] W fun e w' => e = .returned (.bool (B.any (bothB u v))) ∧ Below W.heap.size W w') := ⟨fun uB u hu W hW hc => contains_both (some adB) c0 B (bothB u v) uB vB W (Kd.C_below (Kd.C_below (Kd.C_below HR0.out HB7.out) HB11.out) hW) (by omega) (fun V hV x hx => by
               obtain ⟨j, hj, e⟩ := List.getElem_of_mem hx
               obtain ⟨_, _, q3, q4⟩ := HOK2.out j hj
               unfold rd at q3 q4
               rw [Int.toNat_natCast, List.getD_eq_getElem?_getD, List.getElem?_eq_getElem hj] at q3 q4
               rw [← e]
               obtain ⟨xn, hxn⟩ := Int.eq_ofNat_of_zero_le (show 0 ≤ B[j] from q3)
               have q5 : B[j] < 512 := q4
               rw [hxn] at q5 ⊢
               exact both1 uB vB u v xn hu (by omega) (by omega) V ((hV.cell (World.block_lt_of_cell? W _ hc)).trans hc) ((blk_cell (blk_below HCV9.out (below_step hW hV)) 0).trans rfl))⟩
              go_loopg [143] L.length (fun kq v143 w' => ∃ j : Nat, v143 = .int .i64 (j : Int) ∧ j + kq = L.length ∧ Aside0 ((nbF B v (L.drop j) && tl2 G B P gq (v + 1)) = R) ∧ Aside0 (Below w10.heap.size w10 w'))
              case atStart => exact ⟨0, rfl, by omega, HT5, ⟨Below.refl _ _⟩⟩
              case round =>
               clear HT5
               obtain ⟨j, rfl, hj, HT5, HB⟩ := hrel
               by_cases hjl : j < L.length
               ·have hj1 : ((j : Int) < (L.length : Int)) = True := eq_true (by omega)
                have hj2 : decide ((j : Int) < (L.length : Int)) = true := decide_eq_true (by omega)
                cases gk with
                | zero => omega
                | succ gy =>
                obtain ⟨ad5, e5, hg5⟩ := Kd.at_int (Kd.C_below HC5.out HB.out) (j : Int) (by omega) (by rw [HLG.out]; omega)
                subst e5
                have hra : L.getD j 0 = L[j] := by rw [List.getD_eq_getElem?_getD, List.getElem?_eq_getElem hjl]; rfl
                rw [rd_gi, hra, Int.toNat_natCast] at hg5
                have hu62 := HLM.out L[j] (List.getElem_mem hjl)
                have ht := HT5.out
                rw [List.drop_eq_getElem_cons hjl] at ht
                simp only [nbF] at ht
                generalize L[j] = u at *
                clear HT5 hra
                obtain ⟨an, han⟩ : ∃ b, B.any (bothB u v) = b := ⟨_, rfl⟩
                have HCBU : Aside0 (∀ uB W, Below wr.heap.size wr W → W.cell? ⟨uB, 0, none⟩ = some (.int .i64 (u : Int)) → Calls Tryd.prog 54 #[.slice (some adB) B.length c0, .func (.func 102) #[] #[.pointer (some ⟨uB, 0, none⟩), .pointer (some ⟨vB, 0, none⟩)]] W fun e w' => e = .returned (.bool an) ∧ Below W.heap.size W w') := ⟨fun uB W hW hc => by rw [← han]; exact HCBOTH.out uB u hu62 W (below_step HB.out hW) hc⟩
                rw [han] at ht
                clear han
                cases an
                ·obtain rfl : false = R := by simpa using ht
                 clear ht
                 go_wp2_with (first
               | ((with_reducible refine gate_dst (N := 15) rfl ?_); refine box_event ?hg (N := 15) ?hd (cs := #[.int .i64 0]) (t := 3) ?hr ?_; (case hd => rfl); (case hg => rfl); (case hr => first | (go_simp; done) | (go_simp; rfl)); intro uB hgu w12' hbox hb12; have HGU := Aside0.mk (show wr.heap.size ≤ uB by rw [hgu]; exact Nat.le_refl _); clear hgu; have hu0 : w12'.cell? ⟨uB, 0, none⟩ = some (.int .i64 0) := (blk_cell hbox 0).trans rfl; have huf := blk_frozen hbox 0; have hux0 : ∀ x : Value, (w12'.setCell ⟨uB, 0, none⟩ x).cell? ⟨xB, 0, none⟩ = some (.slice (some adB) B.length c0) := (fun x => (cell_sameT (heap_setT _ ⟨uB, 0, none⟩ x _ (by have := HGU.out; have := HB.out.size; have := blk_ltT HBOX9.out; show xB ≠ uB; omega))).trans ((blk_cell (blk_below (blk_below HBOX9.out HB.out) hb12) 0).trans rfl)); have HBU := Aside0.mk hbox; have HB12 := Aside0.mk hb12; have HBS : Aside0 (Below wr.heap.size wr (w12'.setCell ⟨uB, 0, none⟩ (.int .i64 (u : Int)))) := ⟨below_set hb12 HGU.out⟩; have HCB := Aside0.mk (HCBU.out uB _ HBS.out (by have := HGU.out; exact (blk_cell (blk_set hbox 0 (.int .i64 (u : Int))) 0).trans rfl)); clear hbox hb12)
               | (go_at_call 54; refine HCB.out.mono ?_; rintro e w13 ⟨rfl, hb13⟩; have HB13 := Aside0.mk (below_step HBS.out hb13); clear hb13))
                 go_ret
                 exact ⟨rfl, below_step HB7.out (below_step HB11.out (below_step HB.out HB13.out))⟩
                ·have HT6 : Aside0 ((nbF B v (L.drop (j + 1)) && tl2 G B P gq (v + 1)) = R) := ⟨by simpa using ht⟩
                 clear ht
                 go_wp2_with (first
               | ((with_reducible refine gate_dst (N := 15) rfl ?_); refine box_event ?hg (N := 15) ?hd (cs := #[.int .i64 0]) (t := 3) ?hr ?_; (case hd => rfl); (case hg => rfl); (case hr => first | (go_simp; done) | (go_simp; rfl)); intro uB hgu w12' hbox hb12; have HGU := Aside0.mk (show wr.heap.size ≤ uB by rw [hgu]; exact Nat.le_refl _); clear hgu; have hu0 : w12'.cell? ⟨uB, 0, none⟩ = some (.int .i64 0) := (blk_cell hbox 0).trans rfl; have huf := blk_frozen hbox 0; have hux0 : ∀ x : Value, (w12'.setCell ⟨uB, 0, none⟩ x).cell? ⟨xB, 0, none⟩ = some (.slice (some adB) B.length c0) := (fun x => (cell_sameT (heap_setT _ ⟨uB, 0, none⟩ x _ (by have := HGU.out; have := HB.out.size; have := blk_ltT HBOX9.out; show xB ≠ uB; omega))).trans ((blk_cell (blk_below (blk_below HBOX9.out HB.out) hb12) 0).trans rfl)); have HBU := Aside0.mk hbox; have HB12 := Aside0.mk hb12; have HBS : Aside0 (Below wr.heap.size wr (w12'.setCell ⟨uB, 0, none⟩ (.int .i64 (u : Int)))) := ⟨below_set hb12 HGU.out⟩; have HCB := Aside0.mk (HCBU.out uB _ HBS.out (by have := HGU.out; exact (blk_cell (blk_set hbox 0 (.int .i64 (u : Int))) 0).trans rfl)); clear hbox hb12)
               | (go_at_call 54; refine HCB.out.mono ?_; rintro e w13 ⟨rfl, hb13⟩; have HB13 := Aside0.mk (below_step HBS.out hb13); clear hb13))
                 go_roundg gy
                 case measure => omega
                 case rel => exact ⟨j + 1, by go_num, by omega, HT6, ⟨below_step HB.out HB13.out⟩⟩
               ·have hj1 : ((j : Int) < (L.length : Int)) = False := eq_false (by omega)
                have hj2 : decide ((j : Int) < (L.length : Int)) = false := decide_eq_false (by omega)
                obtain rfl : gk = 0 := by omega
                have ht := HT5.out
                rw [List.drop_eq_nil_of_le (by omega)] at ht
                simp only [nbF, Bool.true_and] at ht
                have HT6 := Aside0.mk ht
                clear ht HT5
                go_wp2
                go_roundg gq
                case measure => omega
                case rel => exact ⟨v + 1, by go_num, by omega, HT6, ⟨below_step HB11.out HB.out⟩⟩
             ·rw [if_neg htp] at ht
              subst ht
              have hx1 : ((t : Int) == 1) = false := by simp; omega
              have hx2 : ((t : Int) != 1) = true := by simp; omega
              have hx3 : (t = 1) = False := eq_false htp
              clear htp
              go_wp2
              go_ret
              exact ⟨rfl, below_step HB7.out (below_step HB9.out HB.out)⟩
          ·have hv1 : ((v : Int) < (G.length : Int)) = False := eq_false (by omega)
           have hv2 : decide ((v : Int) < (G.length : Int)) = false := decide_eq_false (by omega)
           obtain rfl : gk = 0 := by omega
           have ht := HT2.out
           simp only [tl2] at ht
           subst ht
           clear HT2
           go_wp2
           go_ret
           exact ⟨rfl, below_step HB7.out HB.out⟩
        ·rw [if_pos rfl] at hr
         subst hr
         clear hz1
         go_wp2_with (first
          | (go_at_call 67; refine (CAL2.out _ (Below.refl _ _)).mono ?_; rintro e w3 ⟨rfl, hb3⟩; have HB3 := Aside0.mk hb3; have hz3 : w3.cell? ⟨xB, 1, none⟩ = some (.slice A1 P.length c1) := (blk_cell (blk_below HBC.out hb3) 1).trans rfl; clear hb3)
          | (go_at_call 54; refine (CCY.out _ HB3.out).mono ?_; rintro e w4 ⟨rfl, hb4⟩; have HB4 := Aside0.mk (below_step HB3.out hb4); clear hb4))
         go_ret
         exact ⟨rfl, below_step HB7.out (below_step HB.out HB4.out)⟩
       ·rw [if_neg (by rw [HPA.out]; exact h2)] at hr
        subst hr
        have hx5 : ((ac : Int) == (PA : Int)) = false := by simp; omega
        have hx6 : ((ac : Int) != (PA : Int)) = true := by simp; omega
        clear h2 hbc
        go_wp2_with (go_at_call 67; refine (CAL2.out _ (Below.refl _ _)).mono ?_; rintro e w3 ⟨rfl, hb3⟩)
        go_ret
        exact ⟨rfl, below_step HB7.out (below_step HB.out hb3)⟩
      ·rw [if_neg h1] at hr
       subst hr
       have hx1 : ((ro : Int) == 1) = false := by simp; omega
       have hx2 : ((ro : Int) != 1) = true := by simp; omega
       have hx3 : (ro = 1) = False := eq_false h1
       clear h1 hbc
       go_wp2
       go_ret
       exact ⟨rfl, below_step HB7.out HB.out⟩
   ·rw [if_neg hpl] at hR
    subst hR
    have hd3 : ((P.length : Int) == (B.length : Int)) = false := by simp; omega
    have hd4 : ((P.length : Int) != (B.length : Int)) = true := by simp; omega
    clear hb1 hb30 hpl
    go_enter Tryd.func78, Tryd.ntmps78
    go_wp2_with (first | ((with_reducible refine gate_dst (N := 3) rfl ?_); refine box_event ?hg (N := 3) ?hd (cs := #[.slice A0 B.length c0, .slice A1 P.length c1]) (t := 53) ?hr ?_; (case hd => rfl); (case hg => rfl); (case hr => first | (go_simp; done) | (go_simp; rfl)); intro xB hga w7 hbox hb7; have HBOX := Aside0.mk hbox; have HB7 := Aside0.mk hb7; have hz0 : w7.cell? ⟨xB, 0, none⟩ = some (.slice A0 B.length c0) := (blk_cell hbox 0).trans rfl; have hz1 : w7.cell? ⟨xB, 1, none⟩ = some (.slice A1 P.length c1) := (blk_cell hbox 1).trans rfl; clear hbox hb7 hga))
    go_ret
    exact ⟨rfl, HB7.out⟩
def width_town_tree.f (g : List Int) (B P : List Int) : Option Bool := if chk 9 g = true then some (treeB (g.map Int.toNat) B P) else none
theorem width_town_tree.calls (Ag : Option Addr) (cg : Nat) (g : List Int) (A0 : Option Addr) (c0 : Nat) (B : List Int) (A1 : Option Addr) (c1 : Nat) (P : List Int) (r : Bool) (w : World) (hGL : GL w) (hrg : Kd.C (Kd.int .i64) w Ag g.length g) (hcg : g.length ≤ cg) (hr0 : Kd.C (Kd.int .i64) w A0 B.length B) (hc0 : B.length ≤ c0) (hr1 : Kd.C (Kd.int .i64) w A1 P.length P) (hc1 : P.length ≤ c1) (h : width_town_tree.f g B P = some r) :
  Calls Tryd.prog 78 #[.slice Ag g.length cg, .agg #[.slice A0 B.length c0, .slice A1 P.length c1]] w fun e w' => e = .returned (.bool r) ∧ Below w.heap.size w w' := by
 unfold width_town_tree.f at h
 by_cases hchk : chk 9 g = true
 ·rw [if_pos hchk] at h
  obtain ⟨G, rfl, hG⟩ := (chk_iff 9 (by omega) _).1 hchk
  rw [gi_toNatT] at h
  rw [gi_length] at hcg ⊢
  exact tree_calls Ag cg G hG hcg A0 c0 B A1 c1 P r (Option.some.inj h) w hGL hrg hr0 hr1
 ·rw [if_neg hchk] at h
  cases h
def width_Narrow.f (g B P : List Int) : Option (List Int × List Int × Int) :=
 if chk 9 g = true then (if treeB (g.map Int.toNat) B P = true then some ((narN B.length B P).1, (narN B.length B P).2, 0) else some ([], [], 2)) else if g.length < 1000 then some ([], [], 2) else none
theorem gi_toNatN (G : List Nat) : (gi G).map Int.toNat = G := by
 unfold gi
 rw [List.map_map]
 exact (List.map_congr_left (fun x _ => Int.toNat_natCast x)).trans (List.map_id _)
theorem readN_yes {G : List Nat} (hG : Gr 9 G) (A0 : Option Addr) (c0 : Nat) (w : World) (hr0 : Kd.C (Kd.int .i64) w A0 (gi G).length (gi G)) (hc0 : (gi G).length ≤ c0) :
  Calls Tryd.prog 59 #[.slice A0 (gi G).length c0] w fun e w' => ∃ A1 c1, e = .returned (.tuple #[.slice A1 (gi G).length c1, .bool true]) ∧ (gi G).length ≤ c1 ∧ Kd.C (Kd.int .i64) w' A1 (gi G).length (gi G) ∧ Below w.heap.size w w' := by
 obtain ⟨K, hK⟩ := read_ev (gi G) (by rw [gi_length]; have := hG.most; omega)
 have hk := hK K (Nat.le_refl _)
 rw [(chk_iff 9 (by omega) _).2 ⟨G, rfl, hG⟩] at hk
 have := width_read.calls K (fun k_ => k_ < w.heap.size) A0 c0 (gi G) (gi G) true w (Kd.V_mk hc0 (Kd.F_below (Kd.C_F (Kd.heap_int .i64) hr0) (Below.refl _ _))) hk
 refine this.mono ?_
 rintro e w' ⟨v, rfl, hv, hb⟩
 obtain ⟨A1, c1, rfl⟩ := Kd.V_slice hv
 have h2 := Kd.V_reads' hv
 exact ⟨A1, c1, rfl, h2.2.1, h2.2.2, hb⟩
theorem readN_no {g : List Int} (hl : g.length < 2 ^ 60) (hg : chk 9 g = false) (A0 : Option Addr) (c0 : Nat) (w : World) (hr0 : Kd.C (Kd.int .i64) w A0 g.length g) (hc0 : g.length ≤ c0) :
  Calls Tryd.prog 59 #[.slice A0 g.length c0] w fun e w' => ∃ v, e = .returned (.tuple #[v, .bool false]) ∧ Below w.heap.size w w' := by
 obtain ⟨K, hK⟩ := read_ev g hl
 have hk := hK K (Nat.le_refl _)
 rw [hg] at hk
 refine (width_read.calls K (fun k_ => k_ < w.heap.size) A0 c0 g [] false w (Kd.V_mk hc0 (Kd.F_below (Kd.C_F (Kd.heap_int .i64) hr0) (Below.refl _ _))) hk).mono ?_
 rintro e w' ⟨v, rfl, hv, hb⟩
 exact ⟨v, rfl, hb⟩
theorem clone_own (A : Option Addr) (c : Nat) (l : List Int) (h0 : 0 < l.length) (h9 : l.length ≤ 1000) (w : World) (hr : Kd.C (Kd.int .i64) w A l.length l) (hc : l.length ≤ c) :
  Calls Tryd.prog 72 #[.slice A l.length c] w fun e w' => ∃ g cp, e = .returned (.slice (some ⟨g, 0, none⟩) l.length cp) ∧ Kd.R (Kd.int .i64) 3 w' w.heap.size (fun k => k = g) (.slice (some ⟨g, 0, none⟩) l.length cp) l ∧ Below w.heap.size w w' := by
 refine (slices_Clone_int_int.calls A c l l w hr hc (by unfold slices_Clone_int_int.f; simp; omega)).mono ?_
 rintro e w' ⟨v, rfl, hR, hb⟩
 obtain ⟨n, hn⟩ : ∃ n, l.length = n + 1 := ⟨l.length - 1, by omega⟩
 have ho := Kd.own_of_R hR
 rw [hn] at ho
 obtain ⟨g, cp, rfl⟩ := own_succ ho
 rw [← hn] at *
 exact ⟨g, cp, rfl, ⟨fun k hk => by simp [Value.ownBlock] at hk; exact hk.symm, (Kd.R_of_own (ok := fun k => k = g) (Kd.own_of_R hR) (fun k hk => by simp [Value.ownBlock] at hk; exact hk.symm)).2⟩, hb⟩
structure NS (w4 W : World) (gB cB gP cP gO : Nat) (B P : List Int) : Prop where
 rB : Kd.R (Kd.int .i64) 3 W w4.heap.size (fun k => k = gB) (.slice (some ⟨gB, 0, none⟩) B.length cB) B
 rP : Kd.R (Kd.int .i64) 3 W w4.heap.size (fun k => k = gP) (.slice (some ⟨gP, 0, none⟩) P.length cP) P
 blk : W.heap[gO]? = some (.cells #[.slice none 0 0, .slice none 0 0] 53 (0, 0))
 below : Below w4.heap.size w4 W
 ge : w4.heap.size ≤ gO
 nB : gO ≠ gB
 nP : gO ≠ gP
 nBP : gB ≠ gP
section
variable {w4 W w3 w5 : World} {gB cB gP cP gO : Nat} {B P : List Int}
theorem R_new_ge {b g c : Nat} {l : List Int} (h : Kd.R (Kd.int .i64) 3 W b (fun k => k = g) (.slice (some ⟨g, 0, none⟩) l.length c) l) : b ≤ g ∧ g < W.heap.size := ⟨own_base2 (Kd.own_of_R h) g (by simp [Value.ownBlock]), own_lt2 (Kd.own_of_R h) g (by simp [Value.ownBlock])⟩
def nilO : Obj := .cells #[.slice none 0 0, .slice none 0 0] 53 (0, 0)
theorem ns257 (h4 : Below w4.heap.size w4 W) (hR3 : Kd.R (Kd.int .i64) 3 w3 W.heap.size (fun k => k = gB) (.slice (some ⟨gB, 0, none⟩) B.length cB) B) (hb3 : Below W.heap.size W w3) (hR5 : Kd.R (Kd.int .i64) 3 w5 w3.heap.size (fun k => k = gP) (.slice (some ⟨gP, 0, none⟩) P.length cP) P) (hb5 : Below w3.heap.size w3 w5) :
  NS w4 (w5.alloc nilO) gB cB gP cP w5.heap.size B P := by
 have a := R_new_ge hR3; have b := R_new_ge hR5; have c := h4.size; have d := hb3.size; have f := hb5.size
 have hR3' := Kd.R_below hR3 hb5
 exact ⟨Kd.R_lower (Kd.R_alloc hR3' _) (by omega), Kd.R_lower (Kd.R_alloc hR5 _) (by omega), blk_new _ _, below_alloc (below_step (below_step h4 hb3) hb5) _, by omega, by omega, by omega, by omega⟩
theorem ns275 (h4 : Below w4.heap.size w4 W) (hR3 : Kd.R (Kd.int .i64) 3 w3 W.heap.size (fun k => k = gB) (.slice (some ⟨gB, 0, none⟩) B.length cB) B) (hb3 : Below W.heap.size W w3) (hR5 : Kd.R (Kd.int .i64) 3 w5 (w3.alloc nilO).heap.size (fun k => k = gP) (.slice (some ⟨gP, 0, none⟩) P.length cP) P) (hb5 : Below (w3.alloc nilO).heap.size (w3.alloc nilO) w5) :
  NS w4 w5 gB cB gP cP w3.heap.size B P := by
 have a := R_new_ge hR3; have b := R_new_ge hR5; have c := h4.size; have d := hb3.size; have f := hb5.size
 have e : (w3.alloc nilO).heap.size = w3.heap.size + 1 := by simp
 exact ⟨Kd.R_lower (Kd.R_below (Kd.R_alloc hR3 _) hb5) (by omega), Kd.R_lower hR5 (by omega), blk_below (blk_new _ _) hb5, below_step (below_alloc (below_step h4 hb3) _) hb5, by omega, by omega, by omega, by omega⟩
theorem ns725 (h4 : Below w4.heap.size w4 W) (hR3 : Kd.R (Kd.int .i64) 3 w3 (W.alloc nilO).heap.size (fun k => k = gB) (.slice (some ⟨gB, 0, none⟩) B.length cB) B) (hb3 : Below (W.alloc nilO).heap.size (W.alloc nilO) w3) (hR5 : Kd.R (Kd.int .i64) 3 w5 w3.heap.size (fun k => k = gP) (.slice (some ⟨gP, 0, none⟩) P.length cP) P) (hb5 : Below w3.heap.size w3 w5) :
  NS w4 w5 gB cB gP cP W.heap.size B P := by
 have a := R_new_ge hR3; have b := R_new_ge hR5; have c := h4.size; have d := hb3.size; have f := hb5.size
 have e : (W.alloc nilO).heap.size = W.heap.size + 1 := by simp
 exact ⟨Kd.R_lower (Kd.R_below hR3 hb5) (by omega), Kd.R_lower hR5 (by omega), blk_below (blk_below (blk_new _ _) hb3) hb5, below_step (below_step (below_alloc h4 _) hb3) hb5, by omega, by omega, by omega, by omega⟩
theorem two_facts {g : Nat} {t : TypeId} {x0 x1 : Value} (h : W.heap[g]? = some (.cells #[x0, x1] t (0, 0))) (u0 u1 : Value) :
  (W.cell? ⟨g, 0, none⟩ = some x0 ∧ W.frozen? ⟨g, 0, none⟩ = false) ∧ ((W.setCell ⟨g, 0, none⟩ u0).cell? ⟨g, 1, none⟩ = some x1 ∧ (W.setCell ⟨g, 0, none⟩ u0).frozen? ⟨g, 1, none⟩ = false) ∧ (W.cell? ⟨g, 1, none⟩ = some x1 ∧ W.frozen? ⟨g, 1, none⟩ = false) ∧ ((W.setCell ⟨g, 0, none⟩ u0).setCell ⟨g, 1, none⟩ u1).heap[g]? = some (.cells #[u0, u1] t (0, 0)) := by
 have h1 : (W.setCell ⟨g, 0, none⟩ u0).heap[g]? = some (.cells #[u0, x1] t (0, 0)) := blk_put h 0 u0 rfl
 exact ⟨⟨(blk_cell h 0).trans rfl, blk_frozen h 0⟩, ⟨(blk_cell h1 1).trans rfl, blk_frozen h1 1⟩, ⟨(blk_cell h 1).trans rfl, blk_frozen h 1⟩, blk_put h1 1 u1 rfl⟩
theorem NS.ms (h : NS w4 W gB cB gP cP gO B P) : MS w4 ((W.setCell ⟨gO, 0, none⟩ (.slice (some ⟨gB, 0, none⟩) B.length cB)).setCell ⟨gO, 1, none⟩ (.slice (some ⟨gP, 0, none⟩) P.length cP)) gO gB cB gP cP B P :=
 ⟨(two_facts h.blk _ _).2.2.2, Kd.R_far (p := ⟨gO, 1, none⟩) (Kd.R_far (p := ⟨gO, 0, none⟩) h.rB (fun k e => by rw [e]; exact fun e2 => h.nB e2.symm) _) (fun k e => by rw [e]; exact fun e2 => h.nB e2.symm) _, Kd.R_far (p := ⟨gO, 1, none⟩) (Kd.R_far (p := ⟨gO, 0, none⟩) h.rP (fun k e => by rw [e]; exact fun e2 => h.nP e2.symm) _) (fun k e => by rw [e]; exact fun e2 => h.nP e2.symm) _, below_set (below_set h.below h.ge) h.ge, h.ge, h.nB, h.nP, h.nBP⟩
theorem cell_al {a : Addr} {v : Value} (h : W.cell? a = some v) (o : Obj) : (W.alloc o).cell? a = some v := ((below_alloc (Below.refl _ _) o).cell (World.block_lt_of_cell? W _ h)).trans h
theorem cell_be {a : Addr} {v : Value} (h : W.cell? a = some v) (hb : Below W.heap.size W w3) : w3.cell? a = some v := (hb.cell (World.block_lt_of_cell? W _ h)).trans h
end
set_option maxHeartbeats 8000000 in
set_option maxRecDepth 100000 in
theorem merge_none {G : List Nat} (hG : Gr 9 G) (w0 W : World) (xB gB cB gP cP : Nat) (B P : List Int) (hT : TD G B P) (hS : MS w0 W xB gB cB gP cP B P) (hR : pickM B P = none) :
  Calls Tryd.prog 79 #[.pointer (some ⟨xB, 0, none⟩)] W fun e w' => e = .returned (.bool false) ∧ MS w0 w' xB gB cB gP cP B P := by
 refine (merge_calls hG w0 W xB gB cB gP cP B P hT hS none hR).mono ?_
 rintro e w' (⟨_, h⟩ | ⟨i, p, h, _⟩)
 ·exact h
 ·cases h
theorem merge_some {G : List Nat} (hG : Gr 9 G) (w0 W : World) (xB gB cB gP cP : Nat) (B P : List Int) (hT : TD G B P) (hS : MS w0 W xB gB cB gP cP B P) (i : Nat) (hR : pickM B P = some i) :
  Calls Tryd.prog 79 #[.pointer (some ⟨xB, 0, none⟩)] W fun e w' => e = .returned (.bool true) ∧ MS w0 w' xB gB cB gP cP (mergeB B i (rd P (i : Int)).toNat) (mergeP P i (rd P (i : Int)).toNat) := by
 refine (merge_calls hG w0 W xB gB cB gP cP B P hT hS (some i) hR).mono ?_
 rintro e w' (⟨h, _⟩ | ⟨j, p, h, h1, h2, h3⟩)
 ·cases h
 ·obtain rfl := Option.some.inj h
  rw [h1, Int.toNat_natCast]
  exact ⟨h2, h3⟩
set_option maxHeartbeats 8000000 in
set_option maxRecDepth 100000 in
theorem narrow_no (Ag : Option Addr) (cg : Nat) (g : List Int) (A0 : Option Addr) (c0 : Nat) (B : List Int) (A1 : Option Addr) (c1 : Nat) (P : List Int) (w : World) (hrg : Kd.C (Kd.int .i64) w Ag g.length g) (hcg : g.length ≤ cg) (hl : g.length < 1000) (hchk : chk 9 g = false) :
  Calls Tryd.prog 43 #[.slice Ag g.length cg, .agg #[.slice A0 B.length c0, .slice A1 P.length c1]] w fun e w' => e = .returned (.tuple #[.agg #[.slice none 0 0, .slice none 0 0], .int .i64 2]) ∧ Below w.heap.size w w' := by
 have HRD : Aside0 (∀ W, Below w.heap.size w W → Calls Tryd.prog 59 #[.slice Ag g.length cg] W fun e w' => ∃ v, e = .returned (.tuple #[v, .bool false]) ∧ Below W.heap.size W w') := ⟨fun W hW => readN_no (by omega) hchk Ag cg W (Kd.C_below hrg hW) hcg⟩
 have hu53 := Tryd.underlying53
 clear hrg hcg hl hchk
 go_enter Tryd.func43, Tryd.ntmps43
 go_wp2_with (first | ((with_reducible refine gate_dst (N := 3) rfl ?_); refine box_event ?hg (N := 3) ?hd (cs := #[.slice A0 B.length c0, .slice A1 P.length c1]) (t := 53) ?hr ?_; (case hd => rfl); (case hg => rfl); (case hr => first | (go_simp; done) | (go_simp; rfl)); intro xB hxB w1 hbox hb1; have HX := Aside0.mk hbox; have HB1 := Aside0.mk hb1; clear hbox hb1 hxB) | ((with_reducible refine gate_dst (N := 4) rfl ?_); refine box_event ?hg (N := 4) ?hd (cs := #[.slice none 0 0, .slice none 0 0]) (t := 53) ?hr ?_; (case hd => rfl); (case hg => rfl); (case hr => first | (go_simp; done) | (go_simp; rfl)); intro rB hrB w2 hbox hb2; have HR := Aside0.mk hbox; have HB2 := Aside0.mk (below_step HB1.out hb2); have HGR : Aside0 (w.heap.size ≤ rB) := ⟨by rw [hrB]; exact HB1.out.size⟩; clear hbox hb2 hrB) | (go_at_call 59; refine (HRD.out _ HB2.out).mono ?_; rintro e w3 ⟨v, rfl, hb3⟩; have HR3 := Aside0.mk (blk_below HR.out hb3); have HB3 := Aside0.mk (below_step HB2.out hb3); obtain ⟨⟨e1, e2⟩, ⟨e3, e4⟩, ⟨e5, e6⟩, e7⟩ := two_facts HR3.out (.slice none 0 0) (.slice none 0 0); have E7 := Aside0.mk e7; clear hb3 e7))
 refine bodyPost_ret (results_ct rfl _ _ rB 53 #[.slice none 0 0, .slice none 0 0] (0, 0) _ rfl E7.out Tryd.underlying53 rfl (by kernel_rfl)) rfl ?_
 exact ⟨rfl, below_set (below_set HB3.out HGR.out) HGR.out⟩
set_option maxHeartbeats 8000000 in
set_option maxRecDepth 100000 in
theorem narrow_bad {G : List Nat} (hG : Gr 9 G) (Ag : Option Addr) (cg : Nat) (A0 : Option Addr) (c0 : Nat) (B : List Int) (A1 : Option Addr) (c1 : Nat) (P : List Int) (w : World) (hGL : GL w) (hrg : Kd.C (Kd.int .i64) w Ag (gi G).length (gi G)) (hcg : (gi G).length ≤ cg) (hr0 : Kd.C (Kd.int .i64) w A0 B.length B) (hc0 : B.length ≤ c0) (hr1 : Kd.C (Kd.int .i64) w A1 P.length P) (hc1 : P.length ≤ c1) (hbt : treeB G B P = false) :
  Calls Tryd.prog 43 #[.slice Ag (gi G).length cg, .agg #[.slice A0 B.length c0, .slice A1 P.length c1]] w fun e w' => e = .returned (.tuple #[.agg #[.slice none 0 0, .slice none 0 0], .int .i64 2]) ∧ Below w.heap.size w w' := by
 have HRD : Aside0 (∀ W, Below w.heap.size w W → Calls Tryd.prog 59 #[.slice Ag (gi G).length cg] W fun e w' => ∃ A1 c1, e = .returned (.tuple #[.slice A1 (gi G).length c1, .bool true]) ∧ (gi G).length ≤ c1 ∧ Kd.C (Kd.int .i64) w' A1 (gi G).length (gi G) ∧ Below W.heap.size W w') := ⟨fun W hW => readN_yes hG Ag cg W (Kd.C_below hrg hW) hcg⟩
 have HTR : Aside0 (∀ W A2 c2, Below w.heap.size w W → (gi G).length ≤ c2 → Kd.C (Kd.int .i64) W A2 (gi G).length (gi G) → Calls Tryd.prog 78 #[.slice A2 (gi G).length c2, .agg #[.slice A0 B.length c0, .slice A1 P.length c1]] W fun e w' => e = .returned (.bool false) ∧ Below W.heap.size W w') := ⟨fun W A2 c2 hW hc hC => width_town_tree.calls A2 c2 (gi G) A0 c0 B A1 c1 P false W (GL_below hGL hW) hC hc (Kd.C_below hr0 hW) hc0 (Kd.C_below hr1 hW) hc1 (by unfold width_town_tree.f; rw [if_pos ((chk_iff 9 (by omega) _).2 ⟨G, rfl, hG⟩), gi_toNatN, hbt])⟩
 have hu53 := Tryd.underlying53
 clear hrg hcg hr0 hr1 hbt hGL
 generalize (gi G).length = n at *
 generalize gi G = g at *
 go_enter Tryd.func43, Tryd.ntmps43
 go_wp2_with (first | ((with_reducible refine gate_dst (N := 3) rfl ?_); refine box_event ?hg (N := 3) ?hd (cs := #[.slice A0 B.length c0, .slice A1 P.length c1]) (t := 53) ?hr ?_; (case hd => rfl); (case hg => rfl); (case hr => first | (go_simp; done) | (go_simp; rfl)); intro xB hxB w1 hbox hb1; have HX := Aside0.mk hbox; have HB1 := Aside0.mk hb1; clear hbox hb1 hxB) | ((with_reducible refine gate_dst (N := 4) rfl ?_); refine box_event ?hg (N := 4) ?hd (cs := #[.slice none 0 0, .slice none 0 0]) (t := 53) ?hr ?_; (case hd => rfl); (case hg => rfl); (case hr => first | (go_simp; done) | (go_simp; rfl)); intro rB hrB w2 hbox hb2; have HR := Aside0.mk hbox; have HX2 := Aside0.mk (blk_below HX.out hb2); have HB2 := Aside0.mk (below_step HB1.out hb2); have HGR : Aside0 (w.heap.size ≤ rB) := ⟨by rw [hrB]; exact HB1.out.size⟩; clear hbox hb2 hrB) | (go_at_call 59; refine (HRD.out _ HB2.out).mono ?_; rintro e w3 ⟨A2, c2, rfl, hc2, hC2, hb3⟩; have HR3 := Aside0.mk (blk_below HR.out hb3); have HX3 := Aside0.mk (blk_below HX2.out hb3); have HB3 := Aside0.mk (below_step HB2.out hb3); have HT3 := Aside0.mk (HTR.out w3 A2 c2 HB3.out hc2 hC2); have x0 : w3.cell? ⟨xB, 0, none⟩ = some (.slice A0 B.length c0) := (blk_cell HX3.out 0).trans rfl; have x1 : w3.cell? ⟨xB, 1, none⟩ = some (.slice A1 P.length c1) := (blk_cell HX3.out 1).trans rfl; clear hb3 hc2 hC2) | (go_at_call 78; refine HT3.out.mono ?_; rintro e w4 ⟨rfl, hb4⟩; have HB4 := Aside0.mk (below_step HB3.out hb4); obtain ⟨⟨e1, e2⟩, ⟨e3, e4⟩, ⟨e5, e6⟩, e7⟩ := two_facts (blk_below HR3.out hb4) (.slice none 0 0) (.slice none 0 0); have E7 := Aside0.mk e7; clear hb4 e7))
 refine bodyPost_ret (results_ct rfl _ _ rB 53 #[.slice none 0 0, .slice none 0 0] (0, 0) _ rfl E7.out Tryd.underlying53 rfl (by kernel_rfl)) rfl ?_
 exact ⟨rfl, below_set (below_set HB4.out HGR.out) HGR.out⟩
set_option maxHeartbeats 8000000 in
set_option maxRecDepth 100000 in
theorem narrow_yes {G : List Nat} (hG : Gr 9 G) (Ag : Option Addr) (cg : Nat) (A0 : Option Addr) (c0 : Nat) (B : List Int) (A1 : Option Addr) (c1 : Nat) (P : List Int) (w : World) (hGL : GL w) (hrg : Kd.C (Kd.int .i64) w Ag (gi G).length (gi G)) (hcg : (gi G).length ≤ cg) (hr0 : Kd.C (Kd.int .i64) w A0 B.length B) (hc0 : B.length ≤ c0) (hr1 : Kd.C (Kd.int .i64) w A1 P.length P) (hc1 : P.length ≤ c1) (hbt : treeB G B P = true) (hT : TD G B P) (r1 r2 : List Int) (hres : narN B.length B P = (r1, r2)) :
  Calls Tryd.prog 43 #[.slice Ag (gi G).length cg, .agg #[.slice A0 B.length c0, .slice A1 P.length c1]] w fun e w' => ∃ v0_ v1_ : Value, e = .returned (.tuple #[.agg #[v0_, v1_], .int .i64 0]) ∧ Kd.R (Kd.int .i64) 3 w' w.heap.size (fun k_ => some k_ ≠ (v1_ : Value).ownBlock) v0_ r1 ∧ Kd.R (Kd.int .i64) 3 w' w.heap.size (fun k_ => some k_ ≠ (v0_ : Value).ownBlock) v1_ r2 ∧ Below w.heap.size w w' := by
 have HRD : Aside0 (∀ W, Below w.heap.size w W → Calls Tryd.prog 59 #[.slice Ag (gi G).length cg] W fun e w' => ∃ A1 c1, e = .returned (.tuple #[.slice A1 (gi G).length c1, .bool true]) ∧ (gi G).length ≤ c1 ∧ Kd.C (Kd.int .i64) w' A1 (gi G).length (gi G) ∧ Below W.heap.size W w') := ⟨fun W hW => readN_yes hG Ag cg W (Kd.C_below hrg hW) hcg⟩
 have HTR : Aside0 (∀ W A2 c2, Below w.heap.size w W → (gi G).length ≤ c2 → Kd.C (Kd.int .i64) W A2 (gi G).length (gi G) → Calls Tryd.prog 78 #[.slice A2 (gi G).length c2, .agg #[.slice A0 B.length c0, .slice A1 P.length c1]] W fun e w' => e = .returned (.bool true) ∧ Below W.heap.size W w') := ⟨fun W A2 c2 hW hc hC => width_town_tree.calls A2 c2 (gi G) A0 c0 B A1 c1 P true W (GL_below hGL hW) hC hc (Kd.C_below hr0 hW) hc0 (Kd.C_below hr1 hW) hc1 (by unfold width_town_tree.f; rw [if_pos ((chk_iff 9 (by omega) _).2 ⟨G, rfl, hG⟩), gi_toNatN, hbt])⟩
 have h30 := hT.most
 have hpl := hT.len
 have hpos := hT.pos
 have CB : Aside0 (∀ W, Below w.heap.size w W → Calls Tryd.prog 72 #[.slice A0 B.length c0] W fun e w' => ∃ g cp, e = .returned (.slice (some ⟨g, 0, none⟩) B.length cp) ∧ Kd.R (Kd.int .i64) 3 w' W.heap.size (fun k => k = g) (.slice (some ⟨g, 0, none⟩) B.length cp) B ∧ Below W.heap.size W w') := ⟨fun W hW => clone_own A0 c0 B (by omega) (by omega) W (Kd.C_below hr0 hW) hc0⟩
 have CP : Aside0 (∀ W, Below w.heap.size w W → Calls Tryd.prog 72 #[.slice A1 P.length c1] W fun e w' => ∃ g cp, e = .returned (.slice (some ⟨g, 0, none⟩) P.length cp) ∧ Kd.R (Kd.int .i64) 3 w' W.heap.size (fun k => k = g) (.slice (some ⟨g, 0, none⟩) P.length cp) P ∧ Below W.heap.size W w') := ⟨fun W hW => clone_own A1 c1 P (by omega) (by omega) W (Kd.C_below hr1 hW) hc1⟩
 have hu53 := Tryd.underlying53
 have HT0 := Aside0.mk hT
 have HRES := Aside0.mk hres
 clear hrg hcg hr0 hr1 hbt hGL hT hres hpl hpos h30
 generalize (gi G).length = n at *
 generalize gi G = g at *
 go_enter Tryd.func43, Tryd.ntmps43
 go_wp2_with (first | ((with_reducible refine gate_dst (N := 3) rfl ?_); refine box_event ?hg (N := 3) ?hd (cs := #[.slice A0 B.length c0, .slice A1 P.length c1]) (t := 53) ?hr ?_; (case hd => rfl); (case hg => rfl); (case hr => first | (go_simp; done) | (go_simp; rfl)); intro xB hxB w1 hbox hb1; have HX := Aside0.mk hbox; have HB1 := Aside0.mk hb1; clear hbox hb1 hxB) | ((with_reducible refine gate_dst (N := 4) rfl ?_); refine box_event ?hg (N := 4) ?hd (cs := #[.slice none 0 0, .slice none 0 0]) (t := 53) ?hr ?_; (case hd => rfl); (case hg => rfl); (case hr => first | (go_simp; done) | (go_simp; rfl)); intro rB hrB w2 hbox hb2; have HR := Aside0.mk hbox; have HX2 := Aside0.mk (blk_below HX.out hb2); have HB2 := Aside0.mk (below_step HB1.out hb2); have HGR : Aside0 (w.heap.size ≤ rB) := ⟨by rw [hrB]; exact HB1.out.size⟩; clear hbox hb2 hrB) | (go_at_call 59; refine (HRD.out _ HB2.out).mono ?_; rintro e w3 ⟨A2, c2, rfl, hc2, hC2, hb3⟩; have HR3 := Aside0.mk (blk_below HR.out hb3); have HX3 := Aside0.mk (blk_below HX2.out hb3); have HB3 := Aside0.mk (below_step HB2.out hb3); have HT3 := Aside0.mk (HTR.out w3 A2 c2 HB3.out hc2 hC2); have x0 : w3.cell? ⟨xB, 0, none⟩ = some (.slice A0 B.length c0) := (blk_cell HX3.out 0).trans rfl; have x1 : w3.cell? ⟨xB, 1, none⟩ = some (.slice A1 P.length c1) := (blk_cell HX3.out 1).trans rfl; clear hb3 hc2 hC2) | (go_at_call 78; refine HT3.out.mono ?_; rintro e w4 ⟨rfl, hb4⟩; have HB4 := Aside0.mk (below_step HB3.out hb4); have HR4 := Aside0.mk (blk_below HR3.out hb4); have HX4 := Aside0.mk (blk_below HX3.out hb4); clear hb4))
 clear HRD HTR HT3 HB1 HB2 HB3 HX HX2 HX3 HR HR3 x0 x1
 have f0d : w4.drew.cell? ⟨xB, 0, none⟩ = some (.slice A0 B.length c0) := (blk_cell HX4.out 0).trans rfl
 have f1d : w4.drew.cell? ⟨xB, 1, none⟩ = some (.slice A1 P.length c1) := (blk_cell HX4.out 1).trans rfl
 have fbd : Below w4.heap.size w4 w4.drew := below_drew (Below.refl _ _)
 refine start_ (n := 9) (S := fun w' => w'.cell? ⟨xB, 0, none⟩ = some (.slice A0 B.length c0) ∧ w'.cell? ⟨xB, 1, none⟩ = some (.slice A1 P.length c1) ∧ Below w4.heap.size w4 w') (ds := [8]) (Qbz 9 0) (by kernel_rfl) rfl rfl ⟨f0d, f1d, fbd⟩ (fun hHeld => ?_)
 refine pure_ (i := 0) (N := some 23) (v := ?_) (a' := ?_) (Qbz 9 1) rfl rfl (by kernel_rfl) (fun _ _ _ h => h) (Or.inl ⟨by rfl, ?_⟩) ?_ ?_
 rotate_left
 ·intro w'
  go_simp
  with_reducible rfl
 rotate_left
 ·simp only [Act.put, Qp1, Qp2, Qp3, i64_w, i32_w]
  rfl
 refine pure_ (i := 3) (N := some 26) (v := ?_) (a' := ?_) (Qbz 9 9) rfl rfl (by kernel_rfl) (fun _ _ _ h => h) (Or.inl ⟨by rfl, ?_⟩) ?_ ?_
 rotate_left
 ·intro w'
  go_simp
  with_reducible rfl
 rotate_left
 ·simp only [Act.put, Qp1, Qp2, Qp3, i64_w, i32_w]
  rfl
 refine take_ (i := 1) (N := some 24) (v := ?_) (a' := ?_) (Qbz 9 11) rfl rfl (by kernel_rfl) (fun _ _ _ h => h) (Or.inl ⟨by rfl, ?_⟩) hHeld ?_ ?_
 rotate_left
 ·rintro w' ⟨s0, s1, s2⟩
  go_simp
  with_reducible rfl
 rotate_left
 ·simp only [Act.put, Qp1, Qp2, Qp3, i64_w, i32_w]
  rfl
 refine take_ (i := 4) (N := some 27) (v := ?_) (a' := ?_) (Qbz 9 27) rfl rfl (by kernel_rfl) (fun _ _ _ h => h) (Or.inl ⟨by rfl, ?_⟩) hHeld ?_ ?_
 rotate_left
 ·rintro w' ⟨s0, s1, s2⟩
  go_simp
  with_reducible rfl
 rotate_left
 ·simp only [Act.put, Qp1, Qp2, Qp3, i64_w, i32_w]
  rfl
 refine join_ (σ := Nat × Nat × Nat × Nat × Nat) 1 (Qbz 9 255) (fun s => [(25, .slice (some ⟨s.1, 0, none⟩) B.length s.2.1), (28, .slice (some ⟨s.2.2.1, 0, none⟩) P.length s.2.2.2.1), (29, .agg #[.slice (some ⟨s.1, 0, none⟩) B.length s.2.1, .slice (some ⟨s.2.2.1, 0, none⟩) P.length s.2.2.2.1]), (8, .pointer (some ⟨s.2.2.2.2, 0, none⟩))]) (fun s w' => NS w4 w' s.1 s.2.1 s.2.2.1 s.2.2.2.1 s.2.2.2.2 B P ∧ (w'.cell? ⟨xB, 0, none⟩ = some (.slice A0 B.length c0) ∧ w'.cell? ⟨xB, 1, none⟩ = some (.slice A1 P.length c1) ∧ Below w4.heap.size w4 w')) ?_ ?_
 rotate_left
 ·intro hCont
  refine two_ (i := 2) (j := 7) (Ni := some 25) (Nj := some 8) (Qbz 9 31) (Qbz 9 155) rfl rfl rfl rfl (by kernel_rfl) (by decide) (by decide) (fun K hK => ?_) (fun K hK => ?_)
  ·skip
   refine goes_ Tryd.func72 (by kernel_rfl) rfl #[.slice A0 B.length c0] (by rfl) rfl rfl (by simp only [List.map_toArray, List.map_cons, List.map_nil]; rfl) ?_
   with_reducible refine (CB.out _ (below_step HB4.out hHeld.2.2)).mono ?_
   rintro e w5 ⟨gB, cB, rfl, hR5, hb5⟩
   refine ⟨_, rfl, ?_⟩
   refine hK.out _ _ ⟨cell_be hHeld.1 hb5, cell_be hHeld.2.1 hb5, below_step hHeld.2.2 hb5⟩ (fun hHeld => ?_)
   clear hK K
   refine norm_ (a' := ?_) ?_ ?_
   rotate_left
   ·show Act.put _ (some 25) _ = _
    simp only [Act.put, Qp1, Qp2, Qp3, i64_w, i32_w]
    rfl
   refine two_ (i := 5) (j := 7) (Ni := some 28) (Nj := some 8) (Qbz 9 63) (Qbz 9 159) rfl rfl rfl rfl (by kernel_rfl) (by decide) (by decide) (fun K hK => ?_) (fun K hK => ?_)
   ·skip
    refine goes_ Tryd.func72 (by kernel_rfl) rfl #[.slice A1 P.length c1] (by rfl) rfl rfl (by simp only [List.map_toArray, List.map_cons, List.map_nil]; rfl) ?_
    with_reducible refine (CP.out _ (below_step HB4.out hHeld.2.2)).mono ?_
    rintro e w6 ⟨gP, cP, rfl, hR6, hb6⟩
    refine ⟨_, rfl, ?_⟩
    refine hK.out _ _ ⟨cell_be hHeld.1 hb6, cell_be hHeld.2.1 hb6, below_step hHeld.2.2 hb6⟩ (fun hHeld => ?_)
    clear hK K
    refine norm_ (a' := ?_) ?_ ?_
    rotate_left
    ·show Act.put _ (some 28) _ = _
     simp only [Act.put, Qp1, Qp2, Qp3, i64_w, i32_w]
     rfl
    refine pure_ (i := 6) (N := some 29) (v := ?_) (a' := ?_) (Qbz 9 127) rfl rfl (by kernel_rfl) (fun _ _ _ h => h) (Or.inl ⟨by rfl, ?_⟩) ?_ ?_
    rotate_left
    ·intro w'
     go_simp
     with_reducible rfl
    rotate_left
    ·simp only [Act.put, Qp1, Qp2, Qp3, i64_w, i32_w]
     rfl
    refine one_ (i := 7) (N := some 8) (Qbz 9 255) rfl rfl (by kernel_rfl) (by decide) (fun K hK => ?_)
    refine value_ (w1 := ?_) (v := ?_) (by rfl) rfl ?_ ?_
    rotate_left 2
    ·go_simp
     constructor
     ·rfl
     ·rfl
    refine hK.out _ _ ⟨cell_al hHeld.1 nilO, cell_al hHeld.2.1 nilO, below_alloc hHeld.2.2 nilO⟩ (fun hHeld => ?_)
    clear hK K
    refine norm_ (a' := ?_) ?_ ?_
    rotate_left
    ·show Act.put _ (some 8) _ = _
     simp only [Act.put, Qp1, Qp2, Qp3, i64_w, i32_w]
     rfl
    exact norm_ (by simp only [putAll, Act.put, List.setIfInBounds_toArray, List.set_cons_zero, List.set_cons_succ]) (hCont (gB, cB, gP, cP, w6.heap.size) _ ⟨ns257 (W := w4.drew) fbd hR5 hb5 hR6 hb6, hHeld⟩)
   ·skip
    refine value_ (w1 := ?_) (v := ?_) (by rfl) rfl ?_ ?_
    rotate_left 2
    ·go_simp
     constructor
     ·rfl
     ·rfl
    refine hK.out _ _ ⟨cell_al hHeld.1 nilO, cell_al hHeld.2.1 nilO, below_alloc hHeld.2.2 nilO⟩ (fun hHeld => ?_)
    clear hK K
    refine norm_ (a' := ?_) ?_ ?_
    rotate_left
    ·show Act.put _ (some 8) _ = _
     simp only [Act.put, Qp1, Qp2, Qp3, i64_w, i32_w]
     rfl
    refine one_ (i := 5) (N := some 28) (Qbz 9 191) rfl rfl (by kernel_rfl) (by decide) (fun K hK => ?_)
    refine goes_ Tryd.func72 (by kernel_rfl) rfl #[.slice A1 P.length c1] (by rfl) rfl rfl (by simp only [List.map_toArray, List.map_cons, List.map_nil]; rfl) ?_
    with_reducible refine (CP.out _ (below_step HB4.out hHeld.2.2)).mono ?_
    rintro e w6 ⟨gP, cP, rfl, hR6, hb6⟩
    refine ⟨_, rfl, ?_⟩
    refine hK.out _ _ ⟨cell_be hHeld.1 hb6, cell_be hHeld.2.1 hb6, below_step hHeld.2.2 hb6⟩ (fun hHeld => ?_)
    clear hK K
    refine norm_ (a' := ?_) ?_ ?_
    rotate_left
    ·show Act.put _ (some 28) _ = _
     simp only [Act.put, Qp1, Qp2, Qp3, i64_w, i32_w]
     rfl
    refine pure_ (i := 6) (N := some 29) (v := ?_) (a' := ?_) (Qbz 9 255) rfl rfl (by kernel_rfl) (fun _ _ _ h => h) (Or.inl ⟨by rfl, ?_⟩) ?_ ?_
    rotate_left
    ·intro w'
     go_simp
     with_reducible rfl
    rotate_left
    ·simp only [Act.put, Qp1, Qp2, Qp3, i64_w, i32_w]
     rfl
    exact norm_ (by simp only [putAll, Act.put, List.setIfInBounds_toArray, List.set_cons_zero, List.set_cons_succ]) (hCont (gB, cB, gP, cP, w5.heap.size) _ ⟨ns275 (W := w4.drew) fbd hR5 hb5 hR6 hb6, hHeld⟩)
  ·skip
   refine value_ (w1 := ?_) (v := ?_) (by rfl) rfl ?_ ?_
   rotate_left 2
   ·go_simp
    constructor
    ·rfl
    ·rfl
   refine hK.out _ _ ⟨cell_al hHeld.1 nilO, cell_al hHeld.2.1 nilO, below_alloc hHeld.2.2 nilO⟩ (fun hHeld => ?_)
   clear hK K
   refine norm_ (a' := ?_) ?_ ?_
   rotate_left
   ·show Act.put _ (some 8) _ = _
    simp only [Act.put, Qp1, Qp2, Qp3, i64_w, i32_w]
    rfl
   refine one_ (i := 2) (N := some 25) (Qbz 9 159) rfl rfl (by kernel_rfl) (by decide) (fun K hK => ?_)
   refine goes_ Tryd.func72 (by kernel_rfl) rfl #[.slice A0 B.length c0] (by rfl) rfl rfl (by simp only [List.map_toArray, List.map_cons, List.map_nil]; rfl) ?_
   with_reducible refine (CB.out _ (below_step HB4.out hHeld.2.2)).mono ?_
   rintro e w5 ⟨gB, cB, rfl, hR5, hb5⟩
   refine ⟨_, rfl, ?_⟩
   refine hK.out _ _ ⟨cell_be hHeld.1 hb5, cell_be hHeld.2.1 hb5, below_step hHeld.2.2 hb5⟩ (fun hHeld => ?_)
   clear hK K
   refine norm_ (a' := ?_) ?_ ?_
   rotate_left
   ·show Act.put _ (some 25) _ = _
    simp only [Act.put, Qp1, Qp2, Qp3, i64_w, i32_w]
    rfl
   refine one_ (i := 5) (N := some 28) (Qbz 9 191) rfl rfl (by kernel_rfl) (by decide) (fun K hK => ?_)
   refine goes_ Tryd.func72 (by kernel_rfl) rfl #[.slice A1 P.length c1] (by rfl) rfl rfl (by simp only [List.map_toArray, List.map_cons, List.map_nil]; rfl) ?_
   with_reducible refine (CP.out _ (below_step HB4.out hHeld.2.2)).mono ?_
   rintro e w6 ⟨gP, cP, rfl, hR6, hb6⟩
   refine ⟨_, rfl, ?_⟩
   refine hK.out _ _ ⟨cell_be hHeld.1 hb6, cell_be hHeld.2.1 hb6, below_step hHeld.2.2 hb6⟩ (fun hHeld => ?_)
   clear hK K
   refine norm_ (a' := ?_) ?_ ?_
   rotate_left
   ·show Act.put _ (some 28) _ = _
    simp only [Act.put, Qp1, Qp2, Qp3, i64_w, i32_w]
    rfl
   refine pure_ (i := 6) (N := some 29) (v := ?_) (a' := ?_) (Qbz 9 255) rfl rfl (by kernel_rfl) (fun _ _ _ h => h) (Or.inl ⟨by rfl, ?_⟩) ?_ ?_
   rotate_left
   ·intro w'
    go_simp
    with_reducible rfl
   rotate_left
   ·simp only [Act.put, Qp1, Qp2, Qp3, i64_w, i32_w]
    rfl
   exact norm_ (by simp only [putAll, Act.put, List.setIfInBounds_toArray, List.set_cons_zero, List.set_cons_succ]) (hCont (gB, cB, gP, cP, w4.heap.size) _ ⟨ns725 (W := w4.drew) fbd hR5 hb5 hR6 hb6, hHeld⟩)
 rintro ⟨gB, cB, gP, cP, gO⟩ w7 ⟨HNS0, hHeld⟩
 have HNS := Aside0.mk HNS0
 clear HNS0
 obtain ⟨⟨e1, e2⟩, ⟨e3, e4⟩, ⟨e5, e6⟩, e7⟩ := two_facts HNS.out.blk (.slice (some ⟨gB, 0, none⟩) B.length cB) (.slice (some ⟨gP, 0, none⟩) P.length cP)
 refine norm_ (a' := ?_) ?_ ?_
 rotate_left
 ·simp only [putAll, Act.put, List.setIfInBounds_toArray, List.set_cons_zero, List.set_cons_succ]
  rfl
 refine last_ (i := 8) (N := none) (Qbz 9 511) rfl rfl (by kernel_rfl) (by decide) (fun K hK => ?_)
 refine skip_ (w1 := ?_) (by rfl) rfl ?_ ?_
 rotate_left
 ·go_simp
  rfl
 refine hK.out _ _ ?_
 clear hK K
 refine done_ (by kernel_rfl) ?_
 have HMS := Aside0.mk HNS.out.ms
 generalize ((w7.setCell ⟨gO, 0, none⟩ (.slice (some ⟨gB, 0, none⟩) B.length cB)).setCell ⟨gO, 1, none⟩ (.slice (some ⟨gP, 0, none⟩) P.length cP)) = w8 at *
 clear HNS hHeld e1 e2 e3 e4 e5 e6 e7 CB CP f0d f1d fbd
 go_wp2
 go_loopg [30] B.length (fun kq v30 w' => ∃ B' P' : List Int, B'.length = kq ∧ Aside0 (TD G B' P') ∧ Aside0 (narN kq B' P' = (r1, r2)) ∧ Aside0 (MS w4 w' gO gB cB gP cP B' P'))
 case atStart => exact ⟨B, P, rfl, HT0, HRES, HMS⟩
 case round =>
  clear HMS HT0 HRES
  obtain ⟨B', P', hk, HT, HN, HM⟩ := hrel
  have hpos := HT.out.pos
  cases gk with
  | zero => omega
  | succ gk' =>
  cases hp : pickM B' P' with
  | none =>
   have HC := Aside0.mk (merge_none hG w4 wr gO gB cB gP cP B' P' HT.out HM.out hp)
   have hn := HN.out
   rw [narN, hp] at hn
   injection hn with hn1 hn2
   subst hn1 hn2
   clear HN hp HM hk hpos
   go_wp2_with (go_at_call 79; refine HC.out.mono ?_; rintro e w9 ⟨rfl, hm⟩; have HM9 := Aside0.mk hm; have x0 := hm.xb; have x1 := hm.xp; have HR9 := Aside0.mk ((hm.below.block rB (blk_lt HR4.out)).trans HR4.out); obtain ⟨⟨e1, e2⟩, ⟨e3, e4⟩, ⟨e5, e6⟩, e7⟩ := two_facts HR9.out (.slice (some ⟨gB, 0, none⟩) B'.length cB) (.slice (some ⟨gP, 0, none⟩) P'.length cP); have E7 := Aside0.mk e7; clear hm e7)
   refine bodyPost_ret (results_ct rfl _ _ rB 53 #[.slice (some ⟨gB, 0, none⟩) B'.length cB, .slice (some ⟨gP, 0, none⟩) P'.length cP] (0, 0) _ rfl E7.out Tryd.underlying53 rfl (by kernel_rfl)) rfl ?_
   have hlt := blk_lt HR4.out
   have hB := HM9.out.gBge
   have hP := HM9.out.gPge
   have hBP := HM9.out.nBP
   have hws := HB4.out.size
   refine ⟨_, _, rfl, ?_, ?_, below_set (below_set (below_step HB4.out HM9.out.below) HGR.out) HGR.out⟩
   ·exact Kd.R_mono (Kd.R_lower (Kd.R_far (p := ⟨rB, 1, none⟩) (Kd.R_far (p := ⟨rB, 0, none⟩) HM9.out.rB (fun k e => by rw [e]; show gB ≠ rB; omega) _) (fun k e => by rw [e]; show gB ≠ rB; omega) _) hws) (fun k e => by rw [e]; simp [Value.ownBlock]; exact hBP)
   ·exact Kd.R_mono (Kd.R_lower (Kd.R_far (p := ⟨rB, 1, none⟩) (Kd.R_far (p := ⟨rB, 0, none⟩) HM9.out.rP (fun k e => by rw [e]; show gP ≠ rB; omega) _) (fun k e => by rw [e]; show gP ≠ rB; omega) _) hws) (fun k e => by rw [e]; simp [Value.ownBlock]; exact fun e2 => hBP e2.symm)
  | some i =>
   have HC := Aside0.mk (merge_some hG w4 wr gO gB cB gP cP B' P' HT.out HM.out i hp)
   obtain ⟨p, hq, hi, hpn, _⟩ := merge_bags HT.out hp
   have HT2 := Aside0.mk (merge_td hG HT.out hi hq)
   have hml := mergeB_len (B := B') (p := p) hi
   have hn := HN.out
   rw [narN, hp] at hn
   simp only [hq, Int.toNat_natCast] at hn
   have HN2 := Aside0.mk hn
   rw [hq, Int.toNat_natCast] at HC
   clear HN hp HM hn hq
   go_wp2_with (go_at_call 79; refine HC.out.mono ?_; rintro e w9 ⟨rfl, hm⟩; have HM9 := Aside0.mk hm; clear hm)
   go_roundg gk'
   case measure => omega
   case rel => exact ⟨mergeB B' i p, mergeP P' i p, by omega, HT2, HN2, HM9⟩
theorem width_Narrow.calls (Ag : Option Addr) (cg : Nat) (g : List Int) (A0 : Option Addr) (c0 : Nat) (B : List Int) (A1 : Option Addr) (c1 : Nat) (P : List Int) (r1 r2 : List Int) (r3 : Int) (w : World) (hGL : GL w) (hrg : Kd.C (Kd.int .i64) w Ag g.length g) (hcg : g.length ≤ cg) (hr0 : Kd.C (Kd.int .i64) w A0 B.length B) (hc0 : B.length ≤ c0) (hr1 : Kd.C (Kd.int .i64) w A1 P.length P) (hc1 : P.length ≤ c1) (h : width_Narrow.f g B P = some (r1, r2, r3)) :
  Calls Tryd.prog 43 #[.slice Ag g.length cg, .agg #[.slice A0 B.length c0, .slice A1 P.length c1]] w fun e w' => ∃ v0_ v1_ : Value, e = .returned (.tuple #[.agg #[v0_, v1_], .int .i64 r3]) ∧ Kd.R (Kd.int .i64) 3 w' w.heap.size (fun k_ => some k_ ≠ (v1_ : Value).ownBlock) v0_ r1 ∧ Kd.R (Kd.int .i64) 3 w' w.heap.size (fun k_ => some k_ ≠ (v0_ : Value).ownBlock) v1_ r2 ∧ Below w.heap.size w w' := by
 unfold width_Narrow.f at h
 have no : r1 = [] ∧ r2 = [] ∧ r3 = 2 → Calls Tryd.prog 43 #[.slice Ag g.length cg, .agg #[.slice A0 B.length c0, .slice A1 P.length c1]] w (fun e w' => e = .returned (.tuple #[.agg #[.slice none 0 0, .slice none 0 0], .int .i64 2]) ∧ Below w.heap.size w w') → Calls Tryd.prog 43 #[.slice Ag g.length cg, .agg #[.slice A0 B.length c0, .slice A1 P.length c1]] w fun e w' => ∃ v0_ v1_ : Value, e = .returned (.tuple #[.agg #[v0_, v1_], .int .i64 r3]) ∧ Kd.R (Kd.int .i64) 3 w' w.heap.size (fun k_ => some k_ ≠ (v1_ : Value).ownBlock) v0_ r1 ∧ Kd.R (Kd.int .i64) 3 w' w.heap.size (fun k_ => some k_ ≠ (v0_ : Value).ownBlock) v1_ r2 ∧ Below w.heap.size w w' := by
  rintro ⟨rfl, rfl, rfl⟩ hc
  refine hc.mono ?_
  rintro e w' ⟨rfl, hb⟩
  exact ⟨_, _, rfl, Kd.R_nil _ _ _ _ _, Kd.R_nil _ _ _ _ _, hb⟩
 by_cases hchk : chk 9 g = true
 ·rw [if_pos hchk] at h
  obtain ⟨G, rfl, hG⟩ := (chk_iff 9 (by omega) _).1 hchk
  rw [gi_toNatN] at h
  by_cases hbt : treeB G B P = true
  ·rw [if_pos hbt] at h
   have h1 := Option.some.inj h
   simp only [Prod.mk.injEq] at h1
   obtain ⟨h1, h2, h3⟩ := h1
   subst h3
   exact narrow_yes hG Ag cg A0 c0 B A1 c1 P w hGL hrg hcg hr0 hc0 hr1 hc1 hbt ((treeB_iff hG B P).1 hbt) r1 r2 (by rw [← h1, ← h2])
  ·rw [if_neg hbt] at h
   have h1 := Option.some.inj h
   simp only [Prod.mk.injEq] at h1
   obtain ⟨h1, h2, h3⟩ := h1
   exact no ⟨h1.symm, h2.symm, h3.symm⟩ (narrow_bad hG Ag cg A0 c0 B A1 c1 P w hGL hrg hcg hr0 hc0 hr1 hc1 (by simpa using hbt))
 ·rw [if_neg hchk] at h
  by_cases hl : g.length < 1000
  ·rw [if_pos hl] at h
   have h1 := Option.some.inj h
   simp only [Prod.mk.injEq] at h1
   obtain ⟨h1, h2, h3⟩ := h1
   exact no ⟨h1.symm, h2.symm, h3.symm⟩ (narrow_no Ag cg g A0 c0 B A1 c1 P w hrg hcg hl (by simpa using hchk))
  ·rw [if_neg hl] at h
   cases h
end Go.Proofs.YtoffehihicabcaaDoor.X
end
