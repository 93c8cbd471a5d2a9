/- Sorting a row of numbers in place: the symmetric merge, whole. -/
import Derived.Test.YtomlgkecckffeaaGreatS4
set_option linter.unusedVariables false
set_option linter.unusedSimpArgs false
set_option maxRecDepth 10000
namespace Go.Proofs.YtomlgkecckffeaaGreat
open Go.VW
def SymOK (b n cap : Nat) (fv : Value) (lt : Nat → Nat → Bool) (R : List Value) (N : Nat) : Prop :=
 ∀ (P A B Q : List Nat) (w : World) (K : Value → World → Prop), A.length + B.length ≤ N → 0 < A.length → 0 < B.length → RowI w b (P ++ A ++ B ++ Q) R → CmpAt b w fv n lt → (P ++ A ++ B ++ Q).length = n → (∀ x ∈ P ++ A ++ B ++ Q, x < n) → SortL lt A → SortL lt B →
   (∀ w' C, Fr [b] w w' → C.Perm (A ++ B) → SortL lt C → RowI w' b (P ++ C ++ Q) R → K (.tuple #[]) w') →
   CallsN Tryz.prog 209 [rowV b n cap, .int .i64 P.length, .int .i64 (P.length + A.length : Nat), .int .i64 (P.length + A.length + B.length : Nat), fv] w K
section
variable {b n cap : Nat} {fv : Value} {lt : Nat → Nat → Bool} {R : List Value} {N : Nat}
theorem mem_perm3 {P C D Q : List Nat} (h : D.Perm C) (hlt : ∀ x ∈ P ++ C ++ Q, x < n) : ∀ x ∈ P ++ D ++ Q, x < n := fun x hx => hlt x ((List.Perm.append_right Q (List.Perm.append_left P h)).mem_iff.1 hx)
set_option maxHeartbeats 4000000 in
theorem sym_r (IH : SymOK b n cap fv lt R N) {P A B Q : List Nat} {w : World} {e : Env} {K : Value → World → Prop} (hN : A.length + B.length ≤ N) (h : RowI w b (P ++ A ++ B ++ Q) R) (hc : CmpAt b w fv n lt) (hn : (P ++ A ++ B ++ Q).length = n) (hlt : ∀ x ∈ P ++ A ++ B ++ Q, x < n) (hb : n ≤ 1000000000000) (hA : SortL lt A) (hB : SortL lt B)
  (e0 : e 0 = rowV b n cap) (e3 : e 3 = .int .i64 (P.length + A.length + B.length : Nat)) (e4 : e 4 = fv) (e18 : e 18 = .int .i64 P.length) (e24 : e 24 = .int .i64 (P.length + A.length : Nat))
  (hK : ∀ w' C, Fr [b] w w' → C.Perm (A ++ B) → SortL lt C → RowI w' b (P ++ C ++ Q) R → K (.tuple #[]) w') : W3 Tryz.prog 220 V209 c209_11 (retQ Tryz.prog [] K) e w := by
 have cw := cur w
 by_cases hA0 : 0 < A.length
 ·have d1 : decide ((P.length : Int) < ((P.length + A.length : Nat) : Int)) = true := decide_eq_true (by omega)
  by_cases hB0 : 0 < B.length
  ·have d2 : decide (((P.length + A.length : Nat) : Int) < ((P.length + A.length + B.length : Nat) : Int)) = true := decide_eq_true (by omega)
   simp (maxSteps:=9^7)(disch:=first|assumption|(simp only[dz];first|done|assumption|omega)|omega|apply_rules[Fr.refl,Fr.alloc,Fr.drew]|rfl) only [↓gd,gp,Nat.reduceAdd,Nat.reduceEqDiff, ↓hk209, e0, e3, e4, e18, e24, d1, d2]
   exact IH P A B Q w _ hN hA0 hB0 h hc hn hlt hA hB fun w' C hf hp hs h' => hK w' C hf hp hs h'
  ·have d2 : decide (((P.length + A.length : Nat) : Int) < ((P.length + A.length + B.length : Nat) : Int)) = false := decide_eq_false (by omega)
   have hB' : B = [] := List.eq_nil_of_length_eq_zero (by omega)
   simp (maxSteps:=9^7)(disch:=first|assumption|(simp only[dz];first|done|assumption|omega)|omega|apply_rules[Fr.refl,Fr.alloc,Fr.drew]|rfl) only [↓gd,gp,Nat.reduceAdd,Nat.reduceEqDiff, ↓hk209, e0, e3, e4, e18, e24, d1, d2]
   subst hB'
   exact hK _ A (Fr.refl _ _) (by simp) hA (by simpa using h)
 ·have d1 : decide ((P.length : Int) < ((P.length + A.length : Nat) : Int)) = false := decide_eq_false (by omega)
  have hA' : A = [] := List.eq_nil_of_length_eq_zero (by omega)
  simp (maxSteps:=9^7)(disch:=first|assumption|(simp only[dz];first|done|assumption|omega)|omega|apply_rules[Fr.refl,Fr.alloc,Fr.drew]|rfl) only [↓gd,gp,Nat.reduceAdd,Nat.reduceEqDiff, ↓hk209, e0, e3, e4, e18, e24, d1]
  subst hA'
  exact hK _ B (Fr.refl _ _) (by simp) hB (by simpa using h)
set_option maxHeartbeats 4000000 in
theorem sym_m (IH : SymOK b n cap fv lt R N) {P A1 B1 A2 B2 Q : List Nat} {w : World} {e : Env} {K : Value → World → Prop} (hN1 : A1.length + B1.length ≤ N) (hN2 : A2.length + B2.length ≤ N) (h : RowI w b (P ++ A1 ++ B1 ++ (A2 ++ B2 ++ Q)) R) (hc : CmpAt b w fv n lt) (hn : (P ++ A1 ++ B1 ++ (A2 ++ B2 ++ Q)).length = n) (hlt : ∀ x ∈ P ++ A1 ++ B1 ++ (A2 ++ B2 ++ Q), x < n) (hb : n ≤ 1000000000000)
  (hA1 : SortL lt A1) (hB1 : SortL lt B1) (hA2 : SortL lt A2) (hB2 : SortL lt B2)
  (e0 : e 0 = rowV b n cap) (e1 : e 1 = .int .i64 P.length) (e3 : e 3 = .int .i64 (P.length + A1.length + B1.length + A2.length + B2.length : Nat)) (e4 : e 4 = fv) (e18 : e 18 = .int .i64 (P.length + A1.length + B1.length : Nat)) (e20 : e 20 = .int .i64 (P.length + A1.length : Nat)) (e24 : e 24 = .int .i64 (P.length + A1.length + B1.length + A2.length : Nat))
  (hK : ∀ w' C1 C2, Fr [b] w w' → C1.Perm (A1 ++ B1) → SortL lt C1 → C2.Perm (A2 ++ B2) → SortL lt C2 → RowI w' b (P ++ (C1 ++ C2) ++ Q) R → K (.tuple #[]) w') : W3 Tryz.prog 220 V209 c209_10 (retQ Tryz.prog [] K) e w := by
 have cw := cur w
 have tail : ∀ (w' : World) (e' : Env) (C1 : List Nat), Fr [b] w w' → C1.Perm (A1 ++ B1) → SortL lt C1 → RowI w' b (P ++ C1 ++ (A2 ++ B2 ++ Q)) R → e' 0 = rowV b n cap → e' 3 = .int .i64 (P.length + A1.length + B1.length + A2.length + B2.length : Nat) → e' 4 = fv → e' 18 = .int .i64 (P.length + A1.length + B1.length : Nat) → e' 24 = .int .i64 (P.length + A1.length + B1.length + A2.length : Nat) →
   W3 Tryz.prog 220 V209 c209_11 (retQ Tryz.prog [] K) e' w' := by
  intro w' e' C1 hf hp hs h' q0 q3 q4 q18 q24
  have hl : C1.length = A1.length + B1.length := by rw [hp.length_eq, List.length_append]
  have hpl : (P ++ C1).length = P.length + A1.length + B1.length := by rw [List.length_append, hl]; omega
  have hrow : (P ++ C1) ++ A2 ++ B2 ++ Q = P ++ C1 ++ (A2 ++ B2 ++ Q) := by simp
  refine sym_r IH (P := P ++ C1) (A := A2) (B := B2) (Q := Q) hN2 (by rw [hrow]; exact h') (hc.fr hf) (by rw [← hn]; simp; omega) ?_ hb hA2 hB2 q0 (by rw [hpl]; exact q3) q4 (by rw [hpl]; exact q18) (by rw [hpl]; exact q24) fun w2 C2 hf2 hp2 hs2 h2 => hK w2 C1 C2 (hf.transM hf2) hp hs hp2 hs2 (by simpa using h2)
  rw [hrow]
  exact mem_perm3 hp (by rw [← List.append_assoc P]; exact hlt)
 by_cases hA0 : 0 < A1.length
 ·have d1 : decide ((P.length : Int) < ((P.length + A1.length : Nat) : Int)) = true := decide_eq_true (by omega)
  by_cases hB0 : 0 < B1.length
  ·have d2 : decide (((P.length + A1.length : Nat) : Int) < ((P.length + A1.length + B1.length : Nat) : Int)) = true := decide_eq_true (by omega)
   simp (maxSteps:=9^7)(disch:=first|assumption|(simp only[dz];first|done|assumption|omega)|omega|apply_rules[Fr.refl,Fr.alloc,Fr.drew]|rfl) only [↓gd,gp,Nat.reduceAdd,Nat.reduceEqDiff, ↓c209_13_s, ↓c209_12_s, ↓c209_16_s, ↓c209_15_s, ↓c209_14_s, ↓c209_10_s, ↓c209_19_s, ↓c209_18_s, ↓c209_17_s, ↓c209_9_s, ↓c209_8_s, ↓c209_27_s, ↓c209_28_s, ↓c209_26_s, ↓c209_25_s, ↓c209_24_s, ↓c209_23_s, ↓c209_30_s, ↓c209_29_s, ↓c209_22_s, ↓c209_21_s, ↓c209_20_s, ↓c209_7_s, ↓c209_6_s, ↓c209_34_s, ↓c209_33_s, ↓c209_36_s, ↓c209_35_s, ↓c209_32_s, ↓c209_31_s, ↓c209_5_s, ↓c209_4_s, ↓c209_3_s, ↓c209_2_s, ↓c209_48_s, ↓c209_50_s, ↓c209_49_s, ↓c209_47_s, ↓c209_52_s, ↓c209_51_s, ↓c209_46_s, ↓c209_45_s, ↓c209_44_s, ↓c209_43_s, ↓c209_42_s, ↓c209_60_s, ↓c209_61_s, ↓c209_59_s, ↓c209_58_s, ↓c209_57_s, ↓c209_56_s, ↓c209_63_s, ↓c209_62_s, ↓c209_55_s, ↓c209_54_s, ↓c209_53_s, ↓c209_41_s, ↓c209_40_s, ↓c209_39_s, ↓c209_38_s, ↓c209_37_s, ↓c209_1_s, ↓c209_75_s, ↓c209_77_s, ↓c209_76_s, ↓c209_74_s, ↓c209_79_s, ↓c209_78_s, ↓c209_73_s, ↓c209_72_s, ↓c209_71_s, ↓c209_70_s, ↓c209_69_s, ↓c209_87_s, ↓c209_88_s, ↓c209_86_s, ↓c209_85_s, ↓c209_84_s, ↓c209_83_s, ↓c209_90_s, ↓c209_89_s, ↓c209_82_s, ↓c209_81_s, ↓c209_80_s, ↓c209_68_s, ↓c209_67_s, ↓c209_66_s, ↓c209_65_s, ↓c209_64_s, ↓c209_s, ↓w3t_209, e0, e1, e3, e4, e18, e20, e24, d1, d2]
   refine IH P A1 B1 (A2 ++ B2 ++ Q) w _ hN1 hA0 hB0 h hc hn hlt hA1 hB1 fun w' C hf hp hs h' => ?_
   refine tail w' _ C hf hp hs h' ?_ ?_ ?_ ?_ ?_ <;> simp (maxSteps:=9^7)(disch:=first|assumption|(simp only[dz];first|done|assumption|omega)|omega|apply_rules[Fr.refl,Fr.alloc,Fr.drew]|rfl) only [↓gsd,gs,gv,Nat.reduceAdd,Nat.reduceEqDiff, e0, e1, e3, e4, e18, e20, e24]
  ·have d2 : decide (((P.length + A1.length : Nat) : Int) < ((P.length + A1.length + B1.length : Nat) : Int)) = false := decide_eq_false (by omega)
   have hB' : B1 = [] := List.eq_nil_of_length_eq_zero (by omega)
   simp (maxSteps:=9^7)(disch:=first|assumption|(simp only[dz];first|done|assumption|omega)|omega|apply_rules[Fr.refl,Fr.alloc,Fr.drew]|rfl) only [↓gd,gp,Nat.reduceAdd,Nat.reduceEqDiff, ↓c209_13_s, ↓c209_12_s, ↓c209_16_s, ↓c209_15_s, ↓c209_14_s, ↓c209_10_s, ↓c209_19_s, ↓c209_18_s, ↓c209_17_s, ↓c209_9_s, ↓c209_8_s, ↓c209_27_s, ↓c209_28_s, ↓c209_26_s, ↓c209_25_s, ↓c209_24_s, ↓c209_23_s, ↓c209_30_s, ↓c209_29_s, ↓c209_22_s, ↓c209_21_s, ↓c209_20_s, ↓c209_7_s, ↓c209_6_s, ↓c209_34_s, ↓c209_33_s, ↓c209_36_s, ↓c209_35_s, ↓c209_32_s, ↓c209_31_s, ↓c209_5_s, ↓c209_4_s, ↓c209_3_s, ↓c209_2_s, ↓c209_48_s, ↓c209_50_s, ↓c209_49_s, ↓c209_47_s, ↓c209_52_s, ↓c209_51_s, ↓c209_46_s, ↓c209_45_s, ↓c209_44_s, ↓c209_43_s, ↓c209_42_s, ↓c209_60_s, ↓c209_61_s, ↓c209_59_s, ↓c209_58_s, ↓c209_57_s, ↓c209_56_s, ↓c209_63_s, ↓c209_62_s, ↓c209_55_s, ↓c209_54_s, ↓c209_53_s, ↓c209_41_s, ↓c209_40_s, ↓c209_39_s, ↓c209_38_s, ↓c209_37_s, ↓c209_1_s, ↓c209_75_s, ↓c209_77_s, ↓c209_76_s, ↓c209_74_s, ↓c209_79_s, ↓c209_78_s, ↓c209_73_s, ↓c209_72_s, ↓c209_71_s, ↓c209_70_s, ↓c209_69_s, ↓c209_87_s, ↓c209_88_s, ↓c209_86_s, ↓c209_85_s, ↓c209_84_s, ↓c209_83_s, ↓c209_90_s, ↓c209_89_s, ↓c209_82_s, ↓c209_81_s, ↓c209_80_s, ↓c209_68_s, ↓c209_67_s, ↓c209_66_s, ↓c209_65_s, ↓c209_64_s, ↓c209_s, ↓w3t_209, e0, e1, e3, e4, e18, e20, e24, d1, d2]
   refine tail w _ A1 (Fr.refl _ _) (by simp [hB']) hA1 (by simpa [hB'] using h) ?_ ?_ ?_ ?_ ?_ <;> simp (maxSteps:=9^7)(disch:=first|assumption|(simp only[dz];first|done|assumption|omega)|omega|apply_rules[Fr.refl,Fr.alloc,Fr.drew]|rfl) only [↓gsd,gs,gv,Nat.reduceAdd,Nat.reduceEqDiff, e0, e1, e3, e4, e18, e20, e24]
 ·have d1 : decide ((P.length : Int) < ((P.length + A1.length : Nat) : Int)) = false := decide_eq_false (by omega)
  have hA' : A1 = [] := List.eq_nil_of_length_eq_zero (by omega)
  simp (maxSteps:=9^7)(disch:=first|assumption|(simp only[dz];first|done|assumption|omega)|omega|apply_rules[Fr.refl,Fr.alloc,Fr.drew]|rfl) only [↓gd,gp,Nat.reduceAdd,Nat.reduceEqDiff, ↓c209_13_s, ↓c209_12_s, ↓c209_16_s, ↓c209_15_s, ↓c209_14_s, ↓c209_10_s, ↓c209_19_s, ↓c209_18_s, ↓c209_17_s, ↓c209_9_s, ↓c209_8_s, ↓c209_27_s, ↓c209_28_s, ↓c209_26_s, ↓c209_25_s, ↓c209_24_s, ↓c209_23_s, ↓c209_30_s, ↓c209_29_s, ↓c209_22_s, ↓c209_21_s, ↓c209_20_s, ↓c209_7_s, ↓c209_6_s, ↓c209_34_s, ↓c209_33_s, ↓c209_36_s, ↓c209_35_s, ↓c209_32_s, ↓c209_31_s, ↓c209_5_s, ↓c209_4_s, ↓c209_3_s, ↓c209_2_s, ↓c209_48_s, ↓c209_50_s, ↓c209_49_s, ↓c209_47_s, ↓c209_52_s, ↓c209_51_s, ↓c209_46_s, ↓c209_45_s, ↓c209_44_s, ↓c209_43_s, ↓c209_42_s, ↓c209_60_s, ↓c209_61_s, ↓c209_59_s, ↓c209_58_s, ↓c209_57_s, ↓c209_56_s, ↓c209_63_s, ↓c209_62_s, ↓c209_55_s, ↓c209_54_s, ↓c209_53_s, ↓c209_41_s, ↓c209_40_s, ↓c209_39_s, ↓c209_38_s, ↓c209_37_s, ↓c209_1_s, ↓c209_75_s, ↓c209_77_s, ↓c209_76_s, ↓c209_74_s, ↓c209_79_s, ↓c209_78_s, ↓c209_73_s, ↓c209_72_s, ↓c209_71_s, ↓c209_70_s, ↓c209_69_s, ↓c209_87_s, ↓c209_88_s, ↓c209_86_s, ↓c209_85_s, ↓c209_84_s, ↓c209_83_s, ↓c209_90_s, ↓c209_89_s, ↓c209_82_s, ↓c209_81_s, ↓c209_80_s, ↓c209_68_s, ↓c209_67_s, ↓c209_66_s, ↓c209_65_s, ↓c209_64_s, ↓c209_s, ↓w3t_209, e0, e1, e3, e4, e18, e20, e24, d1]
  refine tail w _ B1 (Fr.refl _ _) (by simp [hA']) hB1 (by simpa [hA'] using h) ?_ ?_ ?_ ?_ ?_ <;> simp (maxSteps:=9^7)(disch:=first|assumption|(simp only[dz];first|done|assumption|omega)|omega|apply_rules[Fr.refl,Fr.alloc,Fr.drew]|rfl) only [↓gsd,gs,gv,Nat.reduceAdd,Nat.reduceEqDiff, e0, e1, e3, e4, e18, e20, e24]
set_option maxHeartbeats 4000000 in
theorem sym_rot (hsw : SW lt) (IH : SymOK b n cap fv lt R N) {P A B Q : List Nat} {s u : Nat} {w : World} {e : Env} {K : Value → World → Prop} (hs : s ≤ A.length) (hu : u ≤ B.length) (hN1 : s + u ≤ N) (hN2 : (A.length - s) + (B.length - u) ≤ N) (h : RowI w b (P ++ A ++ B ++ Q) R) (hc : CmpAt b w fv n lt) (hn : (P ++ A ++ B ++ Q).length = n) (hlt : ∀ x ∈ P ++ A ++ B ++ Q, x < n) (hb : n ≤ 1000000000000)
  (hA : SortL lt A) (hB : SortL lt B) (hl : s = 0 ∨ u = B.length ∨ ∃ x y, A[s - 1]? = some x ∧ B[u]? = some y ∧ lt y x = false) (hr : s = A.length ∨ u = 0 ∨ ∃ x y, B[u - 1]? = some x ∧ A[s]? = some y ∧ lt x y = true)
  (e0 : e 0 = rowV b n cap) (e1 : e 1 = .int .i64 P.length) (e2 : e 2 = .int .i64 (P.length + A.length : Nat)) (e3 : e 3 = .int .i64 (P.length + A.length + B.length : Nat)) (e4 : e 4 = fv) (e18 : e 18 = .int .i64 (P.length + s + u : Nat)) (e20 : e 20 = .int .i64 (P.length + s : Nat)) (e24 : e 24 = .int .i64 (P.length + A.length + u : Nat))
  (hK : ∀ w' C, Fr [b] w w' → C.Perm (A ++ B) → SortL lt C → RowI w' b (P ++ C ++ Q) R → K (.tuple #[]) w') : W3 Tryz.prog 220 V209 c209_9 (retQ Tryz.prog [] K) e w := by
 have cw := cur w
 have hA12 : A = A.take s ++ A.drop s := (List.take_append_drop s A).symm
 have hB12 : B = B.take u ++ B.drop u := (List.take_append_drop u B).symm
 have q1 : P ++ A ++ B ++ Q = P ++ (A.take s ++ A.drop s) ++ (B.take u ++ B.drop u) ++ Q := by rw [List.take_append_drop, List.take_append_drop]
 obtain ⟨c1, c2⟩ := sym_cross hsw hA hB hl hr
 have l1 : (A.take s).length = s := by rw [List.length_take]; omega
 have l2 : (A.drop s).length = A.length - s := by rw [List.length_drop]
 have l3 : (B.take u).length = u := by rw [List.length_take]; omega
 have l4 : (B.drop u).length = B.length - u := by rw [List.length_drop]
 have hAs := hA
 have hBs := hB
 rw [hA12] at hAs
 rw [hB12] at hBs
 have hall : (P ++ A ++ B ++ Q).Perm (P ++ A.take s ++ B.take u ++ (A.drop s ++ B.drop u ++ Q)) := by
  have e1 : P ++ A ++ B ++ Q = P ++ (A ++ B) ++ Q := by simp
  have e2 : P ++ A.take s ++ B.take u ++ (A.drop s ++ B.drop u ++ Q) = P ++ ((A.take s ++ B.take u) ++ (A.drop s ++ B.drop u)) ++ Q := by simp
  rw [e1, e2]
  refine List.Perm.append_right Q (List.Perm.append_left P ?_)
  conv => { lhs; rw [hA12, hB12] }
  rw [List.append_assoc, List.append_assoc]
  refine List.Perm.append_left _ ?_
  rw [← List.append_assoc, ← List.append_assoc]
  exact List.Perm.append_right _ List.perm_append_comm
 have tail : ∀ (w' : World) (e' : Env), Fr [b] w w' → RowI w' b (P ++ A.take s ++ B.take u ++ (A.drop s ++ B.drop u ++ Q)) R → e' 0 = rowV b n cap → e' 1 = .int .i64 P.length → e' 3 = .int .i64 (P.length + A.length + B.length : Nat) → e' 4 = fv → e' 18 = .int .i64 (P.length + s + u : Nat) → e' 20 = .int .i64 (P.length + s : Nat) → e' 24 = .int .i64 (P.length + A.length + u : Nat) →
   W3 Tryz.prog 220 V209 c209_10 (retQ Tryz.prog [] K) e' w' := by
  intro w' e' hf h' q0 q1 q3 q4 q18 q20 q24
  refine sym_m IH (P := P) (A1 := A.take s) (B1 := B.take u) (A2 := A.drop s) (B2 := B.drop u) (Q := Q) (by omega) (by omega) h' (hc.fr hf) (by rw [← hall.length_eq]; exact hn) (fun x hx => hlt x (hall.mem_iff.2 hx)) hb hAs.left hBs.left hAs.right hBs.right q0 q1 ?_ q4 ?_ ?_ ?_ fun w2 C1 C2 hf2 p1 s1 p2 s2 h2 => ?_
  ·rw [l1, l2, l3, l4, q3]; congr 2; omega
  ·rw [l1, l3]; exact q18
  ·rw [l1]; exact q20
  ·rw [l1, l2, l3, q24]; congr 2; omega
  ·obtain ⟨j1, j2⟩ := sym_join hAs hBs c1 c2 s1 s2 p1 p2
   rw [← hA12, ← hB12] at j2
   exact hK w2 _ (hf.transM hf2) j2 j1 h2
 by_cases hs0 : s < A.length
 ·have d1 : decide (((P.length + s : Nat) : Int) < ((P.length + A.length : Nat) : Int)) = true := decide_eq_true (by omega)
  by_cases hu0 : 0 < u
  ·have d2 : decide (((P.length + A.length : Nat) : Int) < ((P.length + A.length + u : Nat) : Int)) = true := decide_eq_true (by omega)
   simp (maxSteps:=9^7)(disch:=first|assumption|(simp only[dz];first|done|assumption|omega)|omega|apply_rules[Fr.refl,Fr.alloc,Fr.drew]|rfl) only [↓gd,gp,Nat.reduceAdd,Nat.reduceEqDiff, ↓c209_13_s, ↓c209_12_s, ↓c209_11_s, ↓c209_16_s, ↓c209_15_s, ↓c209_14_s, ↓c209_19_s, ↓c209_18_s, ↓c209_17_s, ↓c209_9_s, ↓c209_8_s, ↓c209_27_s, ↓c209_28_s, ↓c209_26_s, ↓c209_25_s, ↓c209_24_s, ↓c209_23_s, ↓c209_30_s, ↓c209_29_s, ↓c209_22_s, ↓c209_21_s, ↓c209_20_s, ↓c209_7_s, ↓c209_6_s, ↓c209_34_s, ↓c209_33_s, ↓c209_36_s, ↓c209_35_s, ↓c209_32_s, ↓c209_31_s, ↓c209_5_s, ↓c209_4_s, ↓c209_3_s, ↓c209_2_s, ↓c209_48_s, ↓c209_50_s, ↓c209_49_s, ↓c209_47_s, ↓c209_52_s, ↓c209_51_s, ↓c209_46_s, ↓c209_45_s, ↓c209_44_s, ↓c209_43_s, ↓c209_42_s, ↓c209_60_s, ↓c209_61_s, ↓c209_59_s, ↓c209_58_s, ↓c209_57_s, ↓c209_56_s, ↓c209_63_s, ↓c209_62_s, ↓c209_55_s, ↓c209_54_s, ↓c209_53_s, ↓c209_41_s, ↓c209_40_s, ↓c209_39_s, ↓c209_38_s, ↓c209_37_s, ↓c209_1_s, ↓c209_75_s, ↓c209_77_s, ↓c209_76_s, ↓c209_74_s, ↓c209_79_s, ↓c209_78_s, ↓c209_73_s, ↓c209_72_s, ↓c209_71_s, ↓c209_70_s, ↓c209_69_s, ↓c209_87_s, ↓c209_88_s, ↓c209_86_s, ↓c209_85_s, ↓c209_84_s, ↓c209_83_s, ↓c209_90_s, ↓c209_89_s, ↓c209_82_s, ↓c209_81_s, ↓c209_80_s, ↓c209_68_s, ↓c209_67_s, ↓c209_66_s, ↓c209_65_s, ↓c209_64_s, ↓c209_s, ↓w3t_209, e0, e1, e2, e3, e4, e18, e20, e24, d1, d2]
   have hr := fun K' => rot_spec (w := w) (b := b) (n := n) (cap := cap) (fv := fv) (R := R) (P := P ++ A.take s) (A := A.drop s) (B := B.take u) (Q := B.drop u ++ Q) (K := K') (by
    have e1 : (P ++ A.take s) ++ A.drop s ++ B.take u ++ (B.drop u ++ Q) = P ++ A ++ B ++ Q := by
     rw [q1]; simp only [List.append_assoc]
    rw [e1]; exact h) (by omega) (by omega) (by rw [← hn, q1]; simp only [List.append_assoc]) hb
   rw [List.length_append, l1, l2, l3, show P.length + s + (A.length - s) = P.length + A.length by omega] at hr
   refine hr _ fun w' hf h' => ?_
   refine tail w' _ hf (by simpa using h') ?_ ?_ ?_ ?_ ?_ ?_ ?_ <;> simp (maxSteps:=9^7)(disch:=first|assumption|(simp only[dz];first|done|assumption|omega)|omega|apply_rules[Fr.refl,Fr.alloc,Fr.drew]|rfl) only [↓gsd,gs,gv,Nat.reduceAdd,Nat.reduceEqDiff, e0, e1, e2, e3, e4, e18, e20, e24]
  ·have d2 : decide (((P.length + A.length : Nat) : Int) < ((P.length + A.length + u : Nat) : Int)) = false := decide_eq_false (by omega)
   have hu' : u = 0 := by omega
   simp (maxSteps:=9^7)(disch:=first|assumption|(simp only[dz];first|done|assumption|omega)|omega|apply_rules[Fr.refl,Fr.alloc,Fr.drew]|rfl) only [↓gd,gp,Nat.reduceAdd,Nat.reduceEqDiff, ↓c209_13_s, ↓c209_12_s, ↓c209_11_s, ↓c209_16_s, ↓c209_15_s, ↓c209_14_s, ↓c209_19_s, ↓c209_18_s, ↓c209_17_s, ↓c209_9_s, ↓c209_8_s, ↓c209_27_s, ↓c209_28_s, ↓c209_26_s, ↓c209_25_s, ↓c209_24_s, ↓c209_23_s, ↓c209_30_s, ↓c209_29_s, ↓c209_22_s, ↓c209_21_s, ↓c209_20_s, ↓c209_7_s, ↓c209_6_s, ↓c209_34_s, ↓c209_33_s, ↓c209_36_s, ↓c209_35_s, ↓c209_32_s, ↓c209_31_s, ↓c209_5_s, ↓c209_4_s, ↓c209_3_s, ↓c209_2_s, ↓c209_48_s, ↓c209_50_s, ↓c209_49_s, ↓c209_47_s, ↓c209_52_s, ↓c209_51_s, ↓c209_46_s, ↓c209_45_s, ↓c209_44_s, ↓c209_43_s, ↓c209_42_s, ↓c209_60_s, ↓c209_61_s, ↓c209_59_s, ↓c209_58_s, ↓c209_57_s, ↓c209_56_s, ↓c209_63_s, ↓c209_62_s, ↓c209_55_s, ↓c209_54_s, ↓c209_53_s, ↓c209_41_s, ↓c209_40_s, ↓c209_39_s, ↓c209_38_s, ↓c209_37_s, ↓c209_1_s, ↓c209_75_s, ↓c209_77_s, ↓c209_76_s, ↓c209_74_s, ↓c209_79_s, ↓c209_78_s, ↓c209_73_s, ↓c209_72_s, ↓c209_71_s, ↓c209_70_s, ↓c209_69_s, ↓c209_87_s, ↓c209_88_s, ↓c209_86_s, ↓c209_85_s, ↓c209_84_s, ↓c209_83_s, ↓c209_90_s, ↓c209_89_s, ↓c209_82_s, ↓c209_81_s, ↓c209_80_s, ↓c209_68_s, ↓c209_67_s, ↓c209_66_s, ↓c209_65_s, ↓c209_64_s, ↓c209_s, ↓w3t_209, e0, e1, e2, e3, e4, e18, e20, e24, d1, d2]
   refine tail w _ (Fr.refl _ _) (by
    have e1 : P ++ A.take s ++ B.take u ++ (A.drop s ++ B.drop u ++ Q) = P ++ A ++ B ++ Q := by
     rw [q1, hu', List.take_zero]; simp only [List.append_assoc, List.nil_append]
    rw [e1]; exact h) ?_ ?_ ?_ ?_ ?_ ?_ ?_ <;> simp (maxSteps:=9^7)(disch:=first|assumption|(simp only[dz];first|done|assumption|omega)|omega|apply_rules[Fr.refl,Fr.alloc,Fr.drew]|rfl) only [↓gsd,gs,gv,Nat.reduceAdd,Nat.reduceEqDiff, e0, e1, e2, e3, e4, e18, e20, e24]
 ·have d1 : decide (((P.length + s : Nat) : Int) < ((P.length + A.length : Nat) : Int)) = false := decide_eq_false (by omega)
  have hs' : s = A.length := by omega
  simp (maxSteps:=9^7)(disch:=first|assumption|(simp only[dz];first|done|assumption|omega)|omega|apply_rules[Fr.refl,Fr.alloc,Fr.drew]|rfl) only [↓gd,gp,Nat.reduceAdd,Nat.reduceEqDiff, ↓c209_13_s, ↓c209_12_s, ↓c209_11_s, ↓c209_16_s, ↓c209_15_s, ↓c209_14_s, ↓c209_19_s, ↓c209_18_s, ↓c209_17_s, ↓c209_9_s, ↓c209_8_s, ↓c209_27_s, ↓c209_28_s, ↓c209_26_s, ↓c209_25_s, ↓c209_24_s, ↓c209_23_s, ↓c209_30_s, ↓c209_29_s, ↓c209_22_s, ↓c209_21_s, ↓c209_20_s, ↓c209_7_s, ↓c209_6_s, ↓c209_34_s, ↓c209_33_s, ↓c209_36_s, ↓c209_35_s, ↓c209_32_s, ↓c209_31_s, ↓c209_5_s, ↓c209_4_s, ↓c209_3_s, ↓c209_2_s, ↓c209_48_s, ↓c209_50_s, ↓c209_49_s, ↓c209_47_s, ↓c209_52_s, ↓c209_51_s, ↓c209_46_s, ↓c209_45_s, ↓c209_44_s, ↓c209_43_s, ↓c209_42_s, ↓c209_60_s, ↓c209_61_s, ↓c209_59_s, ↓c209_58_s, ↓c209_57_s, ↓c209_56_s, ↓c209_63_s, ↓c209_62_s, ↓c209_55_s, ↓c209_54_s, ↓c209_53_s, ↓c209_41_s, ↓c209_40_s, ↓c209_39_s, ↓c209_38_s, ↓c209_37_s, ↓c209_1_s, ↓c209_75_s, ↓c209_77_s, ↓c209_76_s, ↓c209_74_s, ↓c209_79_s, ↓c209_78_s, ↓c209_73_s, ↓c209_72_s, ↓c209_71_s, ↓c209_70_s, ↓c209_69_s, ↓c209_87_s, ↓c209_88_s, ↓c209_86_s, ↓c209_85_s, ↓c209_84_s, ↓c209_83_s, ↓c209_90_s, ↓c209_89_s, ↓c209_82_s, ↓c209_81_s, ↓c209_80_s, ↓c209_68_s, ↓c209_67_s, ↓c209_66_s, ↓c209_65_s, ↓c209_64_s, ↓c209_s, ↓w3t_209, e0, e1, e2, e3, e4, e18, e20, e24, d1]
  refine tail w _ (Fr.refl _ _) (by
   have e1 : P ++ A.take s ++ B.take u ++ (A.drop s ++ B.drop u ++ Q) = P ++ A ++ B ++ Q := by
    rw [q1, hs', List.drop_length]; simp only [List.append_assoc, List.nil_append]
   rw [e1]; exact h) ?_ ?_ ?_ ?_ ?_ ?_ ?_ <;> simp (maxSteps:=9^7)(disch:=first|assumption|(simp only[dz];first|done|assumption|omega)|omega|apply_rules[Fr.refl,Fr.alloc,Fr.drew]|rfl) only [↓gsd,gs,gv,Nat.reduceAdd,Nat.reduceEqDiff, e0, e1, e2, e3, e4, e18, e20, e24]
end
end Go.Proofs.YtomlgkecckffeaaGreat
