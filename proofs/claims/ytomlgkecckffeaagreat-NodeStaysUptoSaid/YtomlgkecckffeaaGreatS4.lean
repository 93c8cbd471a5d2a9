/- Sorting a row of numbers in place: the symmetric merge. Sorting a row of numbers in place: the symmetric merge, the right run of one. -/
import Derived.Test.YtomlgkecckffeaaGreatS2
set_option linter.unusedVariables false
set_option linter.unusedSimpArgs false
set_option maxRecDepth 10000
namespace Go.Proofs.YtomlgkecckffeaaGreat
open Go.VW
theorem swap_adj2 {P Q : List Nat} {x y : Nat} {l : List Nat} (h : l = P ++ x :: y :: Q) : (l.set P.length y).set (P.length + 1) x = P ++ y :: x :: Q := by
 subst h
 apply List.ext_getElem?
 intro t
 rw [List.getElem?_set, List.getElem?_set]
 by_cases q2 : P.length + 1 = t
 ·subst q2
  rw [if_pos rfl, if_pos (by simp), List.getElem?_append_right (by omega), show P.length + 1 - P.length = 1 by omega]; rfl
 rw [if_neg q2]
 by_cases q1 : P.length = t
 ·subst q1
  rw [if_pos rfl, if_pos (by simp), List.getElem?_append_right (Nat.le_refl _), Nat.sub_self]; rfl
 rw [if_neg q1]
 by_cases q3 : t < P.length
 ·rw [List.getElem?_append_left q3, List.getElem?_append_left q3]
 ·rw [List.getElem?_append_right (by omega), List.getElem?_append_right (by omega)]
  obtain ⟨s, hs⟩ : ∃ s, t - P.length = s + 2 := ⟨t - P.length - 2, by omega⟩
  rw [hs]; rfl
theorem row_get4 {P A B Q : List Nat} {i x : Nat} (h : B[i]? = some x) : (P ++ A ++ B ++ Q)[P.length + A.length + i]? = some x := by
 have := row_get3 (P := P ++ A) (A := B) (Q := Q) h
 rwa [List.length_append] at this
theorem row_get3' {P A B Q : List Nat} {i x : Nat} (h : A[i]? = some x) : (P ++ A ++ B ++ Q)[P.length + i]? = some x := by
 have := row_get3 (P := P) (A := A) (Q := B ++ Q) h
 rwa [← List.append_assoc] at this
theorem half64 {i j h : Nat} (hh : h = (i + j) / 2) (hb : i + j ≤ 9223372036854775807) : IntKind.i64.wrap (((i : Int) + (j : Int)).fdiv 2) = (h : Int) := by
 rw [Int.fdiv_eq_ediv_of_nonneg _ (by decide), wrap64 (by omega) (by omega)]; omega
set_option maxHeartbeats 8000000 in
theorem sym_left {w : World} {b n cap : Nat} {fv : Value} {lt : Nat → Nat → Bool} (hsw : SW lt) {P B Q : List Nat} {x : Nat} {R : List Value} {K : Value → World → Prop} (h : RowI w b (P ++ [x] ++ B ++ Q) R) (hc : CmpAt b w fv n lt) (hn : (P ++ [x] ++ B ++ Q).length = n) (hlt : ∀ y ∈ P ++ [x] ++ B ++ Q, y < n) (hb : n ≤ 1000000000000)
  (hB : SortL lt B) (hK : ∀ w' C, Fr [b] w w' → C.Perm ([x] ++ B) → SortL lt C → RowI w' b (P ++ C ++ Q) R → K (.tuple #[]) w') :
  CallsN Tryz.prog 209 [rowV b n cap, .int .i64 P.length, .int .i64 (P.length + 1 : Nat), .int .i64 (P.length + 1 + B.length : Nat), fv] w K := by
 have cw := cur w
 have hll : P.length + (1 + (B.length + Q.length)) = n := by rw [← hn]; simp; omega
 have d : decide (((P.length + 1 : Nat) : Int) - (P.length : Int) = 1) = true := decide_eq_true (by omega)
 obtain ⟨m, hm⟩ : ∃ m, m = P.length + 1 := ⟨_, rfl⟩
 have hxn : x < n := hlt x (by simp)
 have gx := row_get3' (P := P) (A := [x]) (B := B) (Q := Q) (i := 0) (x := x) rfl
 rw [Nat.add_zero] at gx
 have r2 := fun orig K => rowO_ld (R := R) gx orig K
 rw [← hm] at d ⊢
 refine call209 ?_
 simp (maxSteps:=9^7)(disch:=first|assumption|(simp only[dz];first|done|assumption|omega)|omega|apply_rules[Fr.refl,Fr.alloc,Fr.drew]|rfl) only [↓gd,gp,Nat.reduceAdd,Nat.reduceEqDiff, ↓hk209, d]
 refine loop_intro (fun e w' => ∃ i j : Nat, i ≤ j ∧ j ≤ B.length ∧ e 0 = rowV b n cap ∧ e 1 = .int .i64 P.length ∧ e 2 = .int .i64 m ∧ e 4 = fv ∧ e 10 = .int .i64 (m + i : Nat) ∧ e 11 = .int .i64 (m + j : Nat) ∧ (i = 0 ∨ ∃ y, B[i - 1]? = some y ∧ lt y x = true) ∧ (j = B.length ∨ ∃ y, B[j]? = some y ∧ lt y x = false) ∧ RowI w' b (P ++ [x] ++ B ++ Q) R ∧ Fr [b] w w')
  (fun e _ => (numOf (e 11)).toNat - (numOf (e 10)).toNat) ?_ ?_
 ·refine ⟨0, B.length, Nat.zero_le _, Nat.le_refl _, ?_⟩
  simp (maxSteps:=9^7)(disch:=first|assumption|(simp only[dz];first|done|assumption|omega)|omega|apply_rules[Fr.refl,Fr.alloc,Fr.drew]|rfl) only [↓gsd,gs,gv,Nat.reduceAdd,Nat.reduceEqDiff, Nat.add_zero]
  exact ⟨.inl trivial, .inl trivial, h, Fr.refl _ _⟩
 rintro e w1 kk ⟨i, j, hij, hj, e0, e1, e2, e4, e10, e11, hi', hj', h1, hf⟩ hkk
 have cw1 := cur w1
 have hz1 := hf.size
 have hbl := lt_of_get _ _ h1
 by_cases hlt' : i < j
 ·have d1 : decide (((m + i : Nat) : Int) < ((m + j : Nat) : Int)) = true := decide_eq_true (by omega)
  obtain ⟨t, ht⟩ : ∃ t, t = (m + i + (m + j)) / 2 - m := ⟨_, rfl⟩
  have ht1 : i ≤ t := by omega
  have ht2 : t < j := by omega
  have hw := half64 (i := m + i) (j := m + j) (h := m + t) (by omega) (by omega)
  obtain ⟨y, hy⟩ : ∃ y, B[t]? = some y := ⟨B[t]'(by omega), List.getElem?_eq_getElem _⟩
  have gy := row_get4 (P := P) (A := [x]) (B := B) (Q := Q) hy
  rw [List.length_singleton, ← hm] at gy
  have r1 := fun orig K => rowO_ld (R := R) gy orig K
  have a0 : (0 : Int) ≤ ((m + t : Nat) : Int) := by omega
  have a1 : ((m + t : Nat) : Int) < (n : Int) := by omega
  have b0 : (0 : Int) ≤ (P.length : Int) := by omega
  have b1 : (P.length : Int) < (n : Int) := by omega
  simp (maxSteps:=9^7)(disch:=first|assumption|(simp only[dz];first|done|assumption|omega)|omega|apply_rules[Fr.refl,Fr.alloc,Fr.drew]|rfl) only [↓gd,gp,Nat.reduceAdd,Nat.reduceEqDiff, ↓hk209, e0, e1, e2, e4, e10, e11, d1, hw, a0, a1, b0, b1, Int.toNat_natCast, Nat.mul_one, Nat.zero_add, h1, r1, r2]
  refine hc _ y x _ fr_ (hlt y (List.mem_of_getElem? gy)) hxn fun r w2 hf2 hr => ?_
  have cw2 := cur w2
  have h2 : RowI w2 b (P ++ [x] ++ B ++ Q) R := hf2.getN h1
  have hF2 : Fr [b] w w2 := hf.trans' (Fr.trans' (Fr.refl _ _).drew hf2)
  have wt : IntKind.i64.wrap (((m + t : Nat) : Int) + 1) = ((m + (t + 1) : Nat) : Int) := by rw [wrap64 (by omega) (by omega)]; omega
  cases hl : lt y x with
  | true =>
    rw [hl] at hr
    simp (maxSteps:=9^7)(disch:=first|assumption|(simp only[dz];first|done|assumption|omega)|omega|apply_rules[Fr.refl,Fr.alloc,Fr.drew]|rfl) only [↓gd,gp,Nat.reduceAdd,Nat.reduceEqDiff, ↓hk209, e0, e1, e2, e4, e10, e11, hr, wt]
    refine hkk _ _ ⟨t + 1, j, by omega, hj, ?_⟩ ?_
    ·simp (maxSteps:=9^7)(disch:=first|assumption|(simp only[dz];first|done|assumption|omega)|omega|apply_rules[Fr.refl,Fr.alloc,Fr.drew]|rfl) only [↓gsd,gs,gv,Nat.reduceAdd,Nat.reduceEqDiff, e0, e1, e2, e4, e10, e11]
     exact ⟨.inr ⟨y, by simpa using hy, hl⟩, hj', h2, hF2⟩
    ·simp (maxSteps:=9^7)(disch:=first|assumption|(simp only[dz];first|done|assumption|omega)|omega|apply_rules[Fr.refl,Fr.alloc,Fr.drew]|rfl) only [↓gsd,gs,gv,Nat.reduceAdd,Nat.reduceEqDiff, e10, e11, numOf, Int.toNat_natCast]; omega
  | false =>
    rw [hl] at hr
    simp (maxSteps:=9^7)(disch:=first|assumption|(simp only[dz];first|done|assumption|omega)|omega|apply_rules[Fr.refl,Fr.alloc,Fr.drew]|rfl) only [↓gd,gp,Nat.reduceAdd,Nat.reduceEqDiff, ↓hk209, e0, e1, e2, e4, e10, e11, hr]
    refine hkk _ _ ⟨i, t, ht1, by omega, ?_⟩ ?_
    ·simp (maxSteps:=9^7)(disch:=first|assumption|(simp only[dz];first|done|assumption|omega)|omega|apply_rules[Fr.refl,Fr.alloc,Fr.drew]|rfl) only [↓gsd,gs,gv,Nat.reduceAdd,Nat.reduceEqDiff, e0, e1, e2, e4, e10, e11]
     exact ⟨hi', .inr ⟨y, hy, hl⟩, h2, hF2⟩
    ·simp (maxSteps:=9^7)(disch:=first|assumption|(simp only[dz];first|done|assumption|omega)|omega|apply_rules[Fr.refl,Fr.alloc,Fr.drew]|rfl) only [↓gsd,gs,gv,Nat.reduceAdd,Nat.reduceEqDiff, e10, e11, numOf, Int.toNat_natCast]; omega
 ·have d1 : decide (((m + i : Nat) : Int) < ((m + j : Nat) : Int)) = false := decide_eq_false (by omega)
  obtain rfl : i = j := by omega
  obtain ⟨hs, hp⟩ := merge_left hsw hB hi' hj'
  simp (maxSteps:=9^7)(disch:=first|assumption|(simp only[dz];first|done|assumption|omega)|omega|apply_rules[Fr.refl,Fr.alloc,Fr.drew]|rfl) only [↓gd,gp,Nat.reduceAdd,Nat.reduceEqDiff, ↓hk209, e0, e1, e2, e4, e10, e11, d1]
  have wi : IntKind.i64.wrap (((m + i : Nat) : Int) - 1) = ((P.length + i : Nat) : Int) := by rw [wrap64 (by omega) (by omega)]; omega
  refine loop_intro (fun e w' => ∃ t : Nat, t ≤ i ∧ e 0 = rowV b n cap ∧ e 10 = .int .i64 (m + i : Nat) ∧ e 13 = .int .i64 (P.length + t : Nat) ∧ RowI w' b (P ++ (B.take t ++ x :: B.drop t) ++ Q) R ∧ Fr [b] w w')
   (fun e _ => P.length + i - (numOf (e 13)).toNat) ?_ ?_
  ·refine ⟨0, Nat.zero_le _, ?_⟩
   simp (maxSteps:=9^7)(disch:=first|assumption|(simp only[dz];first|done|assumption|omega)|omega|apply_rules[Fr.refl,Fr.alloc,Fr.drew]|rfl) only [↓gsd,gs,gv,Nat.reduceAdd,Nat.reduceEqDiff, e0, e1, e2, e4, e10, e11]
   refine ⟨rfl, ?_, hf⟩
   simpa using h1
  rintro e w2 kk2 ⟨t, hti, e0, e10, e13, h2, hf2⟩ hkk2
  have cw2 := cur w2
  have hbl2 := lt_of_get _ _ h2
  by_cases hlt2 : t < i
  ·have d2 : decide (((P.length + t : Nat) : Int) < ((P.length + i : Nat) : Int)) = true := decide_eq_true (by omega)
   obtain ⟨y, hy⟩ : ∃ y, B[t]? = some y := ⟨B[t]'(by omega), List.getElem?_eq_getElem _⟩
   have ed : B.drop t = y :: B.drop (t + 1) := by
    obtain ⟨q1, q2⟩ := List.getElem?_eq_some_iff.1 hy
    rw [List.drop_eq_getElem_cons q1, q2]
   have et : B.take (t + 1) = B.take t ++ [y] := by rw [List.take_add_one, hy]; rfl
   have hrow : P ++ (B.take t ++ x :: B.drop t) ++ Q = (P ++ B.take t) ++ x :: y :: (B.drop (t + 1) ++ Q) := by rw [ed]; simp
   have hpl : (P ++ B.take t).length = P.length + t := by simp; omega
   have hadj := swap_adj2 hrow
   rw [hpl] at hadj
   have hL : (P ++ (B.take t ++ x :: B.drop t) ++ Q).length = n := by rw [← hll]; simp; omega
   have g1 : (P ++ (B.take t ++ x :: B.drop t) ++ Q)[P.length + t]? = some x := by rw [hrow, List.getElem?_append_right (by omega), hpl, Nat.sub_self]; rfl
   have g2 : (P ++ (B.take t ++ x :: B.drop t) ++ Q)[P.length + t + 1]? = some y := by rw [hrow, List.getElem?_append_right (by omega), hpl, Nat.add_sub_cancel_left]; rfl
   have wt : IntKind.i64.wrap (((P.length + t : Nat) : Int) + 1) = ((P.length + t + 1 : Nat) : Int) := by rw [wrap64 (by omega) (by omega)]; omega
   have r1 := fun orig K => rowO_ld (R := R) g1 orig K
   have r2 := fun orig K => rowO_ld (R := R) g2 orig K
   have s1 := fun orig K => rowO_st (R := R) (i := P.length + t) (L := P ++ (B.take t ++ x :: B.drop t) ++ Q) y (by omega) orig K
   have s2 := fun orig K => rowO_st (R := R) (i := P.length + t + 1) (L := (P ++ (B.take t ++ x :: B.drop t) ++ Q).set (P.length + t) y) x (by rw [List.length_set]; omega) orig K
   have a0 : (0 : Int) ≤ ((P.length + t : Nat) : Int) := by omega
   have a1 : ((P.length + t : Nat) : Int) < (n : Int) := by omega
   have b0 : (0 : Int) ≤ ((P.length + t + 1 : Nat) : Int) := by omega
   have b1 : ((P.length + t + 1 : Nat) : Int) < (n : Int) := by omega
   simp (maxSteps:=9^7)(disch:=first|assumption|(simp only[dz];first|done|assumption|omega)|omega|apply_rules[Fr.refl,Fr.alloc,Fr.drew]|rfl) only [↓gd,gp,Nat.reduceAdd,Nat.reduceEqDiff, ↓hk209, e0, e10, e13, wi, d2, wt, a0, a1, b0, b1, Int.toNat_natCast, Nat.mul_one, Nat.zero_add, h2, r1, r2, s1, s2]
   rw [hadj]
   refine hkk2 _ _ ⟨t + 1, hlt2, ?_⟩ ?_
   ·simp (maxSteps:=9^7)(disch:=first|assumption|(simp only[dz];first|done|assumption|omega)|omega|apply_rules[Fr.refl,Fr.alloc,Fr.drew]|rfl) only [↓gsd,gs,gv,Nat.reduceAdd,Nat.reduceEqDiff, e0, e10, e13]
    refine ⟨rfl, ?_, fr_⟩
    unfold RowI
    rw [get_setB_same _ _ _ (by simp only [gz]; omega), et]
    simp
   ·simp (maxSteps:=9^7)(disch:=first|assumption|(simp only[dz];first|done|assumption|omega)|omega|apply_rules[Fr.refl,Fr.alloc,Fr.drew]|rfl) only [↓gsd,gs,gv,Nat.reduceAdd,Nat.reduceEqDiff, e13, numOf, Int.toNat_natCast]; omega
  ·have d2 : decide (((P.length + t : Nat) : Int) < ((P.length + i : Nat) : Int)) = false := decide_eq_false (by omega)
   obtain rfl : t = i := by omega
   simp (maxSteps:=9^7)(disch:=first|assumption|(simp only[dz];first|done|assumption|omega)|omega|apply_rules[Fr.refl,Fr.alloc,Fr.drew]|rfl) only [↓gd,gp,Nat.reduceAdd,Nat.reduceEqDiff, ↓hk209, e0, e10, e13, wi, d2]
   exact hK _ _ hf2 hp hs h2
set_option maxHeartbeats 8000000 in
theorem sym_right {w : World} {b n cap : Nat} {fv : Value} {lt : Nat → Nat → Bool} (hsw : SW lt) {P A Q : List Nat} {y : Nat} {R : List Value} {K : Value → World → Prop} (h : RowI w b (P ++ A ++ [y] ++ Q) R) (hc : CmpAt b w fv n lt) (hn : (P ++ A ++ [y] ++ Q).length = n) (hlt : ∀ x ∈ P ++ A ++ [y] ++ Q, x < n) (hb : n ≤ 1000000000000)
  (hA1 : A.length ≠ 1) (hA : SortL lt A) (hK : ∀ w' C, Fr [b] w w' → C.Perm (A ++ [y]) → SortL lt C → RowI w' b (P ++ C ++ Q) R → K (.tuple #[]) w') :
  CallsN Tryz.prog 209 [rowV b n cap, .int .i64 P.length, .int .i64 (P.length + A.length : Nat), .int .i64 (P.length + A.length + 1 : Nat), fv] w K := by
 have cw := cur w
 have hll : P.length + (A.length + (1 + Q.length)) = n := by rw [← hn]; simp; omega
 obtain ⟨m, hm⟩ : ∃ m, m = P.length + A.length := ⟨_, rfl⟩
 have d : decide (((P.length + A.length : Nat) : Int) - (P.length : Int) = 1) = false := decide_eq_false (by omega)
 have d' : decide (((m + 1 : Nat) : Int) - (m : Int) = 1) = true := decide_eq_true (by omega)
 have gy := row_get4 (P := P) (A := A) (B := [y]) (Q := Q) (i := 0) (x := y) rfl
 rw [Nat.add_zero, ← hm] at gy
 have hyn : y < n := hlt y (by simp)
 have r1 := fun orig K => rowO_ld (R := R) gy orig K
 rw [← hm] at d ⊢
 refine call209 ?_
 simp (maxSteps:=9^7)(disch:=first|assumption|(simp only[dz];first|done|assumption|omega)|omega|apply_rules[Fr.refl,Fr.alloc,Fr.drew]|rfl) only [↓gd,gp,Nat.reduceAdd,Nat.reduceEqDiff, ↓hk209, d, d']
 refine loop_intro (fun e w' => ∃ i j : Nat, i ≤ j ∧ j ≤ A.length ∧ e 0 = rowV b n cap ∧ e 1 = .int .i64 P.length ∧ e 2 = .int .i64 m ∧ e 4 = fv ∧ e 14 = .int .i64 (P.length + i : Nat) ∧ e 15 = .int .i64 (P.length + j : Nat) ∧ (i = 0 ∨ ∃ x, A[i - 1]? = some x ∧ lt y x = false) ∧ (j = A.length ∨ ∃ x, A[j]? = some x ∧ lt y x = true) ∧ RowI w' b (P ++ A ++ [y] ++ Q) R ∧ Fr [b] w w')
  (fun e _ => (numOf (e 15)).toNat - (numOf (e 14)).toNat) ?_ ?_
 ·refine ⟨0, A.length, Nat.zero_le _, Nat.le_refl _, ?_⟩
  simp (maxSteps:=9^7)(disch:=first|assumption|(simp only[dz];first|done|assumption|omega)|omega|apply_rules[Fr.refl,Fr.alloc,Fr.drew]|rfl) only [↓gsd,gs,gv,Nat.reduceAdd,Nat.reduceEqDiff, Nat.add_zero, hm]
  exact ⟨.inl trivial, .inl trivial, h, Fr.refl _ _⟩
 rintro e w1 kk ⟨i, j, hij, hj, e0, e1, e2, e4, e14, e15, hi', hj', h1, hf⟩ hkk
 have cw1 := cur w1
 have hz1 := hf.size
 have hbl := lt_of_get _ _ h1
 by_cases hlt' : i < j
 ·have d1 : decide (((P.length + i : Nat) : Int) < ((P.length + j : Nat) : Int)) = true := decide_eq_true (by omega)
  obtain ⟨t, ht⟩ : ∃ t, t = (P.length + i + (P.length + j)) / 2 - P.length := ⟨_, rfl⟩
  have ht1 : i ≤ t := by omega
  have ht2 : t < j := by omega
  have hw := half64 (i := P.length + i) (j := P.length + j) (h := P.length + t) (by omega) (by omega)
  obtain ⟨x, hx⟩ : ∃ x, A[t]? = some x := ⟨A[t]'(by omega), List.getElem?_eq_getElem _⟩
  have gx := row_get3' (P := P) (A := A) (B := [y]) (Q := Q) hx
  have r2 := fun orig K => rowO_ld (R := R) gx orig K
  have a0 : (0 : Int) ≤ ((P.length + t : Nat) : Int) := by omega
  have a1 : ((P.length + t : Nat) : Int) < (n : Int) := by omega
  have b0 : (0 : Int) ≤ (m : Int) := by omega
  have b1 : (m : Int) < (n : Int) := by omega
  simp (maxSteps:=9^7)(disch:=first|assumption|(simp only[dz];first|done|assumption|omega)|omega|apply_rules[Fr.refl,Fr.alloc,Fr.drew]|rfl) only [↓gd,gp,Nat.reduceAdd,Nat.reduceEqDiff, ↓hk209, e0, e1, e2, e4, e14, e15, d1, hw, a0, a1, b0, b1, Int.toNat_natCast, Nat.mul_one, Nat.zero_add, h1, r1, r2]
  refine hc _ y x _ fr_ hyn (hlt x (List.mem_of_getElem? gx)) fun r w2 hf2 hr => ?_
  have cw2 := cur w2
  have h2 : RowI w2 b (P ++ A ++ [y] ++ Q) R := hf2.getN h1
  have hF2 : Fr [b] w w2 := hf.trans' (Fr.trans' (Fr.refl _ _).drew hf2)
  have wt : IntKind.i64.wrap (((P.length + t : Nat) : Int) + 1) = ((P.length + (t + 1) : Nat) : Int) := by rw [wrap64 (by omega) (by omega)]; omega
  cases hl : lt y x with
  | false =>
    rw [hl] at hr
    simp (maxSteps:=9^7)(disch:=first|assumption|(simp only[dz];first|done|assumption|omega)|omega|apply_rules[Fr.refl,Fr.alloc,Fr.drew]|rfl) only [↓gd,gp,Nat.reduceAdd,Nat.reduceEqDiff, ↓hk209, e0, e1, e2, e4, e14, e15, hr, wt]
    refine hkk _ _ ⟨t + 1, j, by omega, hj, ?_⟩ ?_
    ·simp (maxSteps:=9^7)(disch:=first|assumption|(simp only[dz];first|done|assumption|omega)|omega|apply_rules[Fr.refl,Fr.alloc,Fr.drew]|rfl) only [↓gsd,gs,gv,Nat.reduceAdd,Nat.reduceEqDiff, e0, e1, e2, e4, e14, e15]
     exact ⟨.inr ⟨x, by simpa using hx, hl⟩, hj', h2, hF2⟩
    ·simp (maxSteps:=9^7)(disch:=first|assumption|(simp only[dz];first|done|assumption|omega)|omega|apply_rules[Fr.refl,Fr.alloc,Fr.drew]|rfl) only [↓gsd,gs,gv,Nat.reduceAdd,Nat.reduceEqDiff, e14, e15, numOf, Int.toNat_natCast]; omega
  | true =>
    rw [hl] at hr
    simp (maxSteps:=9^7)(disch:=first|assumption|(simp only[dz];first|done|assumption|omega)|omega|apply_rules[Fr.refl,Fr.alloc,Fr.drew]|rfl) only [↓gd,gp,Nat.reduceAdd,Nat.reduceEqDiff, ↓hk209, e0, e1, e2, e4, e14, e15, hr]
    refine hkk _ _ ⟨i, t, ht1, by omega, ?_⟩ ?_
    ·simp (maxSteps:=9^7)(disch:=first|assumption|(simp only[dz];first|done|assumption|omega)|omega|apply_rules[Fr.refl,Fr.alloc,Fr.drew]|rfl) only [↓gsd,gs,gv,Nat.reduceAdd,Nat.reduceEqDiff, e0, e1, e2, e4, e14, e15]
     exact ⟨hi', .inr ⟨x, hx, hl⟩, h2, hF2⟩
    ·simp (maxSteps:=9^7)(disch:=first|assumption|(simp only[dz];first|done|assumption|omega)|omega|apply_rules[Fr.refl,Fr.alloc,Fr.drew]|rfl) only [↓gsd,gs,gv,Nat.reduceAdd,Nat.reduceEqDiff, e14, e15, numOf, Int.toNat_natCast]; omega
 ·have d1 : decide (((P.length + i : Nat) : Int) < ((P.length + j : Nat) : Int)) = false := decide_eq_false (by omega)
  obtain rfl : i = j := by omega
  obtain ⟨hs, hp⟩ := merge_right hsw hA hi' hj'
  simp (maxSteps:=9^7)(disch:=first|assumption|(simp only[dz];first|done|assumption|omega)|omega|apply_rules[Fr.refl,Fr.alloc,Fr.drew]|rfl) only [↓gd,gp,Nat.reduceAdd,Nat.reduceEqDiff, ↓hk209, e0, e1, e2, e4, e14, e15, d1]
  refine loop_intro (fun e w' => ∃ t : Nat, i ≤ t ∧ t ≤ A.length ∧ e 0 = rowV b n cap ∧ e 14 = .int .i64 (P.length + i : Nat) ∧ e 17 = .int .i64 (P.length + t : Nat) ∧ RowI w' b (P ++ (A.take t ++ y :: A.drop t) ++ Q) R ∧ Fr [b] w w')
   (fun e _ => (numOf (e 17)).toNat) ?_ ?_
  ·refine ⟨A.length, by omega, Nat.le_refl _, ?_⟩
   simp (maxSteps:=9^7)(disch:=first|assumption|(simp only[dz];first|done|assumption|omega)|omega|apply_rules[Fr.refl,Fr.alloc,Fr.drew]|rfl) only [↓gsd,gs,gv,Nat.reduceAdd,Nat.reduceEqDiff, e0, e1, e2, e4, e14, e15, hm]
   refine ⟨?_, hf⟩
   simpa using h1
  rintro e w2 kk2 ⟨t, hti, hta, e0, e14, e17, h2, hf2⟩ hkk2
  have cw2 := cur w2
  have hbl2 := lt_of_get _ _ h2
  by_cases hlt2 : i < t
  ·obtain ⟨t, rfl⟩ : ∃ t', t = t' + 1 := ⟨t - 1, by omega⟩
   have d2 : decide (((P.length + i : Nat) : Int) < ((P.length + (t + 1) : Nat) : Int)) = true := decide_eq_true (by omega)
   obtain ⟨x, hx⟩ : ∃ x, A[t]? = some x := ⟨A[t]'(by omega), List.getElem?_eq_getElem _⟩
   have ed : A.drop t = x :: A.drop (t + 1) := by
    obtain ⟨q1, q2⟩ := List.getElem?_eq_some_iff.1 hx
    rw [List.drop_eq_getElem_cons q1, q2]
   have et : A.take (t + 1) = A.take t ++ [x] := by rw [List.take_add_one, hx]; rfl
   have hrow : P ++ (A.take (t + 1) ++ y :: A.drop (t + 1)) ++ Q = (P ++ A.take t) ++ x :: y :: (A.drop (t + 1) ++ Q) := by rw [et]; simp
   have hpl : (P ++ A.take t).length = P.length + t := by simp; omega
   have hadj := swap_adj hrow
   rw [hpl] at hadj
   have hL : (P ++ (A.take (t + 1) ++ y :: A.drop (t + 1)) ++ Q).length = n := by rw [← hll]; simp; omega
   have g1 : (P ++ (A.take (t + 1) ++ y :: A.drop (t + 1)) ++ Q)[P.length + t]? = some x := by rw [hrow, List.getElem?_append_right (by omega), hpl, Nat.sub_self]; rfl
   have g2 : (P ++ (A.take (t + 1) ++ y :: A.drop (t + 1)) ++ Q)[P.length + t + 1]? = some y := by rw [hrow, List.getElem?_append_right (by omega), hpl, Nat.add_sub_cancel_left]; rfl
   have wt : IntKind.i64.wrap (((P.length + (t + 1) : Nat) : Int) - 1) = ((P.length + t : Nat) : Int) := by rw [wrap64 (by omega) (by omega)]; omega
   rw [← Nat.add_assoc] at d2 e17 wt
   have r1 := fun orig K => rowO_ld (R := R) g1 orig K
   have r2 := fun orig K => rowO_ld (R := R) g2 orig K
   have s1 := fun orig K => rowO_st (R := R) (i := P.length + t + 1) (L := P ++ (A.take (t + 1) ++ y :: A.drop (t + 1)) ++ Q) x (by omega) orig K
   have s2 := fun orig K => rowO_st (R := R) (i := P.length + t) (L := (P ++ (A.take (t + 1) ++ y :: A.drop (t + 1)) ++ Q).set (P.length + t + 1) x) y (by rw [List.length_set]; omega) orig K
   have a0 : (0 : Int) ≤ ((P.length + t : Nat) : Int) := by omega
   have a1 : ((P.length + t : Nat) : Int) < (n : Int) := by omega
   have b0 : (0 : Int) ≤ ((P.length + t + 1 : Nat) : Int) := by omega
   have b1 : ((P.length + t + 1 : Nat) : Int) < (n : Int) := by omega
   simp (maxSteps:=9^7)(disch:=first|assumption|(simp only[dz];first|done|assumption|omega)|omega|apply_rules[Fr.refl,Fr.alloc,Fr.drew]|rfl) only [↓gd,gp,Nat.reduceAdd,Nat.reduceEqDiff, ↓hk209, e0, e14, e17, d2, wt, a0, a1, b0, b1, Int.toNat_natCast, Nat.mul_one, Nat.zero_add, h2, r1, r2, s1, s2]
   rw [hadj]
   refine hkk2 _ _ ⟨t, by omega, by omega, ?_⟩ ?_
   ·simp (maxSteps:=9^7)(disch:=first|assumption|(simp only[dz];first|done|assumption|omega)|omega|apply_rules[Fr.refl,Fr.alloc,Fr.drew]|rfl) only [↓gsd,gs,gv,Nat.reduceAdd,Nat.reduceEqDiff, e0, e14, e17]
    refine ⟨?_, fr_⟩
    unfold RowI
    rw [get_setB_same _ _ _ (by simp only [gz]; omega), ed]
    simp
   ·simp (maxSteps:=9^7)(disch:=first|assumption|(simp only[dz];first|done|assumption|omega)|omega|apply_rules[Fr.refl,Fr.alloc,Fr.drew]|rfl) only [↓gsd,gs,gv,Nat.reduceAdd,Nat.reduceEqDiff, e17, numOf, Int.toNat_natCast]; omega
  ·have d2 : decide (((P.length + i : Nat) : Int) < ((P.length + t : Nat) : Int)) = false := decide_eq_false (by omega)
   obtain rfl : t = i := by omega
   simp (maxSteps:=9^7)(disch:=first|assumption|(simp only[dz];first|done|assumption|omega)|omega|apply_rules[Fr.refl,Fr.alloc,Fr.drew]|rfl) only [↓gd,gp,Nat.reduceAdd,Nat.reduceEqDiff, ↓hk209, e0, e14, e17, d2]
   exact hK _ _ hf2 hp hs h2
end Go.Proofs.YtomlgkecckffeaaGreat
