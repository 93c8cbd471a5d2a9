/- Sorting a row of numbers in place: by insertion. -/
import Derived.Test.YtomlgkecckffeaaGreatS1
set_option linter.unusedVariables false
set_option linter.unusedSimpArgs false
set_option maxRecDepth 10000
namespace Go.Proofs.YtomlgkecckffeaaGreat
open Go.VW
def CmpAt (b : Nat) (w0 : World) (fv : Value) (n : Nat) (lt : Nat → Nat → Bool) : Prop :=
 ∀ (w : World) (x y : Nat) (K : Value → World → Prop), Fr [b] w0 w → x < n → y < n → (∀ (r : Int) (w' : World), Fr [] w w' → decide (r < 0) = lt x y → K (.int .i64 r) w') → nx Tryz.prog (xcall fv [.int .i64 x, .int .i64 y]) w K
theorem CmpAt.fr {b : Nat} {w0 w1 : World} {fv : Value} {n : Nat} {lt : Nat → Nat → Bool} (h : CmpAt b w0 fv n lt) (hf : Fr [b] w0 w1) : CmpAt b w1 fv n lt := fun w x y K hf' => h w x y K (hf.transM hf')
theorem row_get3 {P A Q : List Nat} {i x : Nat} (h : A[i]? = some x) : (P ++ A ++ Q)[P.length + i]? = some x := by
 have hl := (List.getElem?_eq_some_iff.1 h).1
 rw [List.append_assoc, List.getElem?_append_right (by omega), Nat.add_sub_cancel_left, List.getElem?_append_left hl]; exact h
theorem swap_adj {P Q : List Nat} {x y : Nat} {l : List Nat} (h : l = P ++ y :: x :: Q) : (l.set (P.length + 1) y).set P.length x = P ++ x :: y :: Q := by
 subst h
 apply List.ext_getElem?
 intro t
 rw [List.getElem?_set, List.getElem?_set]
 by_cases q1 : P.length = t
 ·subst q1
  rw [if_pos rfl, if_pos (by simp), List.getElem?_append_right (Nat.le_refl _), Nat.sub_self]; rfl
 rw [if_neg q1]
 by_cases q2 : P.length + 1 = t
 ·subst q2
  rw [if_pos rfl, if_pos (by simp), List.getElem?_append_right (by omega), show P.length + 1 - P.length = 1 by omega]; rfl
 rw [if_neg q2]
 by_cases q3 : t < P.length
 ·rw [List.getElem?_append_left q3, List.getElem?_append_left q3]
 ·rw [List.getElem?_append_right (by omega), List.getElem?_append_right (by omega)]
  obtain ⟨s, hs⟩ : ∃ s, t - P.length = s + 2 := ⟨t - P.length - 2, by omega⟩
  rw [hs]; rfl
set_option maxHeartbeats 8000000 in
theorem insS_spec {w : World} {b n cap : Nat} {fv : Value} {lt : Nat → Nat → Bool} (hsw : SW lt) {P A Q : List Nat} {R : List Value} {K : Value → World → Prop} (h : RowI w b (P ++ A ++ Q) R) (hc : CmpAt b w fv n lt) (hn : (P ++ A ++ Q).length = n) (hlt : ∀ x ∈ P ++ A ++ Q, x < n) (hb : n ≤ 1000000000000)
  (hK : ∀ w' C, Fr [b] w w' → C.Perm A → SortL lt C → RowI w' b (P ++ C ++ Q) R → K (.tuple #[]) w') :
  CallsN Tryz.prog 208 [rowV b n cap, .int .i64 P.length, .int .i64 (P.length + A.length : Nat), fv] w K := by
 have cw := cur w
 have hll : P.length + (A.length + Q.length) = n := by rw [← hn]; simp
 have wa : IntKind.i64.wrap ((P.length : Int) + 1) = ((P.length : Int) + 1) := wrap64 (by omega) (by omega)
 refine call208 ?_
 simp (maxSteps:=9^7)(disch:=first|assumption|(simp only[dz];first|done|assumption|omega)|omega|apply_rules[Fr.refl,Fr.alloc,Fr.drew]|rfl) only [↓gd,gp,Nat.reduceAdd,Nat.reduceEqDiff, ↓hk208, wa]
 refine loop_intro (fun e w' => ∃ (i : Nat) (C : List Nat), (i = 1 ∨ i ≤ A.length) ∧ 1 ≤ i ∧ e 0 = rowV b n cap ∧ e 1 = .int .i64 P.length ∧ e 2 = .int .i64 (P.length + A.length : Nat) ∧ e 3 = fv ∧ e 8 = .int .i64 (P.length + i : Nat) ∧ C.Perm A ∧ SortL lt (C.take i) ∧ C.drop i = A.drop i ∧ RowI w' b (P ++ C ++ Q) R ∧ Fr [b] w w')
  (fun e _ => P.length + A.length + 1 - (numOf (e 8)).toNat) ?_ ?_
 ·refine ⟨1, A, .inl rfl, Nat.le_refl _, ?_⟩
  simp (maxSteps:=9^7)(disch:=first|assumption|(simp only[dz];first|done|assumption|omega)|omega|apply_rules[Fr.refl,Fr.alloc,Fr.drew]|rfl) only [↓gsd,gs,gv,Nat.reduceAdd,Nat.reduceEqDiff]
  refine ⟨by congr 1, List.Perm.refl _, ?_, h, Fr.refl _ _⟩
  cases A with
  | nil => exact SortL.nil
  | cons x r => exact SortL.one x
 rintro e w1 kk ⟨i, C, hi, hi1, e0, e1, e2, e3, e8, hp, hs, hd, h1, hf⟩ hkk
 have cw1 := cur w1
 have hz1 := hf.size
 have hCl := hp.length_eq
 by_cases hil : i < A.length
 ·have d : decide (((P.length + i : Nat) : Int) < ((P.length + A.length : Nat) : Int)) = true := decide_eq_true (by omega)
  simp (maxSteps:=9^7)(disch:=first|assumption|(simp only[dz];first|done|assumption|omega)|omega|apply_rules[Fr.refl,Fr.alloc,Fr.drew]|rfl) only [↓gd,gp,Nat.reduceAdd,Nat.reduceEqDiff, ↓hk208, e0, e1, e2, e3, e8, d]
  obtain ⟨x, hx⟩ : ∃ x, C[i]? = some x := ⟨C[i]'(by omega), List.getElem?_eq_getElem _⟩
  have hxg := (List.getElem?_eq_some_iff.1 hx)
  obtain ⟨hxl, hxe⟩ := hxg
  have hCs : C = C.take i ++ x :: C.drop (i + 1) := by
   conv => { lhs; rw [← List.take_append_drop i C, List.drop_eq_getElem_cons hxl, hxe] }
  generalize hS : C.take i = S at hs hCs
  have hSl : S.length = i := by rw [← hS, List.length_take]; omega
  generalize hTl : C.drop (i + 1) = T at hCs
  refine loop_intro (fun e w' => ∃ (j : Nat) (C' : List Nat), j ≤ i ∧ e 0 = rowV b n cap ∧ e 1 = .int .i64 P.length ∧ e 2 = .int .i64 (P.length + A.length : Nat) ∧ e 3 = fv ∧ e 8 = .int .i64 (P.length + i : Nat) ∧ e 9 = .int .i64 (P.length + j : Nat) ∧ C' = S.take j ++ x :: S.drop j ++ T ∧ (∀ y ∈ S.drop j, lt x y = true) ∧ RowI w' b (P ++ C' ++ Q) R ∧ Fr [b] w w')
   (fun e _ => (numOf (e 9)).toNat) ?_ ?_
  ·refine ⟨i, C, Nat.le_refl _, ?_⟩
   simp (maxSteps:=9^7)(disch:=first|assumption|(simp only[dz];first|done|assumption|omega)|omega|apply_rules[Fr.refl,Fr.alloc,Fr.drew]|rfl) only [↓gsd,gs,gv,Nat.reduceAdd,Nat.reduceEqDiff, e0, e1, e2, e3, e8]
   refine ⟨?_, ?_, h1, hf⟩
   ·rw [← hSl, List.take_length, List.drop_length]; simpa using hCs
   ·rw [← hSl, List.drop_length]; simp
  have e8o := e8
  rintro e w2 kk2 ⟨j, C', hj, e0, e1, e2, e3, e8, e9, hC', hy, h2, hf2⟩ hkk2
  have cw2 := cur w2
  have hz2 := hf2.size
  have hbl2 := lt_of_get _ _ h2
  have hpC' : C'.Perm C := by
   rw [hC', hCs, List.append_assoc, List.cons_append]
   refine List.perm_middle.trans (List.Perm.trans ?_ List.perm_middle.symm)
   rw [← List.append_assoc, List.take_append_drop]
  have hCl' : C'.length = A.length := by rw [hpC'.length_eq, hCl]
  have wi : IntKind.i64.wrap (((P.length + i : Nat) : Int) + 1) = ((P.length + (i + 1) : Nat) : Int) := by rw [wrap64 (by omega) (by omega)]; omega
  have fin : (j = 0 ∨ ∃ y, S[j - 1]? = some y ∧ lt x y = false) → SortL lt (C'.take (i + 1)) ∧ C'.drop (i + 1) = A.drop (i + 1) := by
   intro hq
   have h3 : (S.take j ++ x :: S.drop j).length = i + 1 := by simp; omega
   have e1 : C'.take (i + 1) = S.take j ++ x :: S.drop j := by rw [hC', List.take_append_of_le_length (by omega), List.take_of_length_le (by omega)]
   have e2 : C'.drop (i + 1) = T := by rw [hC', List.drop_append_of_le_length (by omega), List.drop_of_length_le (by omega)]; rfl
   rw [e1, e2]
   refine ⟨SortL.ins hsw (by rw [List.take_append_drop]; exact hs) (below_all hsw hs hq) (fun y hy' => hsw.asym _ _ (hy y hy')), ?_⟩
   have := congrArg (List.drop 1) hd
   rw [List.drop_drop, List.drop_drop] at this
   rw [← hTl]; exact this
  cases j with
  | zero =>
    have d2 : decide ((P.length : Int) < ((P.length + 0 : Nat) : Int)) = false := decide_eq_false (by omega)
    obtain ⟨f1, f2⟩ := fin (.inl rfl)
    simp (maxSteps:=9^7)(disch:=first|assumption|(simp only[dz];first|done|assumption|omega)|omega|apply_rules[Fr.refl,Fr.alloc,Fr.drew]|rfl) only [↓gd,gp,Nat.reduceAdd,Nat.reduceEqDiff, ↓hk208, e0, e1, e2, e3, e8, e9, d2, wi]
    refine hkk _ _ ⟨i + 1, C', .inr (by omega), by omega, ?_⟩ ?_
    ·simp (maxSteps:=9^7)(disch:=first|assumption|(simp only[dz];first|done|assumption|omega)|omega|apply_rules[Fr.refl,Fr.alloc,Fr.drew]|rfl) only [↓gsd,gs,gv,Nat.reduceAdd,Nat.reduceEqDiff, e0, e1, e2, e3, e8, e9]
     exact ⟨hpC'.trans hp, f1, f2, h2, fr_⟩
    ·simp (maxSteps:=9^7)(disch:=first|assumption|(simp only[dz];first|done|assumption|omega)|omega|apply_rules[Fr.refl,Fr.alloc,Fr.drew]|rfl) only [↓gsd,gs,gv,Nat.reduceAdd,Nat.reduceEqDiff, e8, e8o, numOf, Int.toNat_natCast]; omega
  | succ j =>
    have d2 : decide ((P.length : Int) < ((P.length + (j + 1) : Nat) : Int)) = true := decide_eq_true (by omega)
    obtain ⟨y, hyS⟩ : ∃ y, S[j]? = some y := ⟨S[j]'(by omega), List.getElem?_eq_getElem _⟩
    have hxC : C'[j + 1]? = some x := by
     rw [hC', List.getElem?_append_left (by simp; omega), List.getElem?_append_right (by rw [List.length_take]; omega), List.length_take, show j + 1 - min (j + 1) S.length = 0 by omega]; rfl
    have hyC : C'[j]? = some y := by
     rw [hC', List.getElem?_append_left (by simp; omega), List.getElem?_append_left (by rw [List.length_take]; omega), List.getElem?_take, if_pos (by omega)]; exact hyS
    have gx := row_get3 (P := P) (Q := Q) hxC
    have gy := row_get3 (P := P) (Q := Q) hyC
    have r1 := fun orig K => rowO_ld (R := R) gx orig K
    have r2 := fun orig K => rowO_ld (R := R) gy orig K
    have wj : IntKind.i64.wrap (((P.length + (j + 1) : Nat) : Int) - 1) = ((P.length + j : Nat) : Int) := by rw [wrap64 (by omega) (by omega)]; omega
    have hrl : (P ++ C' ++ Q).length = n := by simp; omega
    have a0 : (0 : Int) ≤ ((P.length + (j + 1) : Nat) : Int) := by omega
    have a1 : ((P.length + (j + 1) : Nat) : Int) < (n : Int) := by omega
    have b0 : (0 : Int) ≤ ((P.length + j : Nat) : Int) := by omega
    have b1 : ((P.length + j : Nat) : Int) < (n : Int) := by omega
    simp (maxSteps:=9^7)(disch:=first|assumption|(simp only[dz];first|done|assumption|omega)|omega|apply_rules[Fr.refl,Fr.alloc,Fr.drew]|rfl) only [↓gd,gp,Nat.reduceAdd,Nat.reduceEqDiff, ↓hk208, e0, e1, e2, e3, e8, e9, d2, wj, a0, a1, b0, b1, Int.toNat_natCast, Nat.mul_one, Nat.zero_add, h2, r1, r2]
    have hxn : x < n := hlt x ((List.Perm.append_right Q (List.Perm.append_left P (hpC'.trans hp))).mem_iff.1 (List.mem_of_getElem? gx))
    have hyn : y < n := hlt y ((List.Perm.append_right Q (List.Perm.append_left P (hpC'.trans hp))).mem_iff.1 (List.mem_of_getElem? gy))
    refine hc _ x y _ fr_ hxn hyn fun r w3 hf3 hr => ?_
    have cw3 := cur w3
    have h3 : RowI w3 b (P ++ C' ++ Q) R := hf3.getN h2
    have hbl3 := lt_of_get _ _ h3
    have hf23 : Fr [b] w w3 := hf2.trans' (Fr.trans' (Fr.refl _ _).drew hf3)
    cases hl : lt x y with
    | false =>
      obtain ⟨f1, f2⟩ := fin (.inr ⟨y, by simpa using hyS, hl⟩)
      rw [hl] at hr
      simp (maxSteps:=9^7)(disch:=first|assumption|(simp only[dz];first|done|assumption|omega)|omega|apply_rules[Fr.refl,Fr.alloc,Fr.drew]|rfl) only [↓gd,gp,Nat.reduceAdd,Nat.reduceEqDiff, ↓hk208, e0, e1, e2, e3, e8, e9, hr, wi]
      refine hkk _ _ ⟨i + 1, C', .inr (by omega), by omega, ?_⟩ ?_
      ·simp (maxSteps:=9^7)(disch:=first|assumption|(simp only[dz];first|done|assumption|omega)|omega|apply_rules[Fr.refl,Fr.alloc,Fr.drew]|rfl) only [↓gsd,gs,gv,Nat.reduceAdd,Nat.reduceEqDiff, e0, e1, e2, e3, e8, e9]
       exact ⟨hpC'.trans hp, f1, f2, h3, hf23⟩
      ·simp (maxSteps:=9^7)(disch:=first|assumption|(simp only[dz];first|done|assumption|omega)|omega|apply_rules[Fr.refl,Fr.alloc,Fr.drew]|rfl) only [↓gsd,gs,gv,Nat.reduceAdd,Nat.reduceEqDiff, e8, e8o, numOf, Int.toNat_natCast]; omega
    | true =>
      rw [hl] at hr
      have s1 := fun orig K => rowO_st (R := R) (i := P.length + (j + 1)) (L := P ++ C' ++ Q) y (by omega) orig K
      have s2 := fun orig K => rowO_st (R := R) (i := P.length + j) (L := (P ++ C' ++ Q).set (P.length + (j + 1)) y) x (by rw [List.length_set]; omega) orig K
      simp (maxSteps:=9^7)(disch:=first|assumption|(simp only[dz];first|done|assumption|omega)|omega|apply_rules[Fr.refl,Fr.alloc,Fr.drew]|rfl) only [↓gd,gp,Nat.reduceAdd,Nat.reduceEqDiff, ↓hk208, e0, e1, e2, e3, e8, e9, hr, wj, a0, a1, b0, b1, Int.toNat_natCast, Nat.mul_one, Nat.zero_add, h3, r1, r2, s1, s2]
      have et : S.take (j + 1) = S.take j ++ [y] := by rw [List.take_add_one, hyS]; rfl
      have ed : S.drop j = y :: S.drop (j + 1) := by
       obtain ⟨q1, q2⟩ := List.getElem?_eq_some_iff.1 hyS
       rw [List.drop_eq_getElem_cons q1, q2]
      have hrow : P ++ C' ++ Q = (P ++ S.take j) ++ y :: x :: (S.drop (j + 1) ++ T ++ Q) := by rw [hC', et]; simp
      have hpl : (P ++ S.take j).length = P.length + j := by simp; omega
      have hadj := swap_adj hrow
      rw [hpl, Nat.add_assoc] at hadj
      rw [hadj]
      refine hkk2 _ _ ⟨j, S.take j ++ x :: S.drop j ++ T, by omega, ?_⟩ ?_
      ·simp (maxSteps:=9^7)(disch:=first|assumption|(simp only[dz];first|done|assumption|omega)|omega|apply_rules[Fr.refl,Fr.alloc,Fr.drew]|rfl) only [↓gsd,gs,gv,Nat.reduceAdd,Nat.reduceEqDiff, e0, e1, e2, e3, e8, e9]
       refine ⟨fun z hz => ?_, ?_, fr_⟩
       ·rw [ed] at hz
        rcases List.mem_cons.1 hz with rfl | hz
        ·exact hl
        ·exact hy z hz
       ·unfold RowI
        rw [get_setB_same _ _ _ (by simp only [gz]; omega), ed]
        simp
      ·simp (maxSteps:=9^7)(disch:=first|assumption|(simp only[dz];first|done|assumption|omega)|omega|apply_rules[Fr.refl,Fr.alloc,Fr.drew]|rfl) only [↓gsd,gs,gv,Nat.reduceAdd,Nat.reduceEqDiff, e9, numOf, Int.toNat_natCast]; omega
 ·have d : decide (((P.length + i : Nat) : Int) < ((P.length + A.length : Nat) : Int)) = false := decide_eq_false (by omega)
  simp (maxSteps:=9^7)(disch:=first|assumption|(simp only[dz];first|done|assumption|omega)|omega|apply_rules[Fr.refl,Fr.alloc,Fr.drew]|rfl) only [↓gd,gp,Nat.reduceAdd,Nat.reduceEqDiff, ↓hk208, e0, e1, e2, e3, e8, d]
  rw [List.take_of_length_le (by omega)] at hs
  exact hK _ C hf hp hs h1
end Go.Proofs.YtomlgkecckffeaaGreat
