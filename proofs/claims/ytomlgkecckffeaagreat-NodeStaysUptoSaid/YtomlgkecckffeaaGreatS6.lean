/- Sorting a row of numbers in place: the symmetric merge's search; the merge proved; the stable sort. -/
import Derived.Test.YtomlgkecckffeaaGreatS5
set_option linter.unusedVariables false
set_option linter.unusedSimpArgs false
set_option maxRecDepth 10000
namespace Go.Proofs.YtomlgkecckffeaaGreat
open Go.VW
section
variable {b n cap : Nat} {fv : Value} {lt : Nat → Nat → Bool} {R : List Value} {N : Nat}
set_option maxHeartbeats 8000000 in
theorem sym_gen (hsw : SW lt) (IH : SymOK b n cap fv lt R N) {P A B Q : List Nat} {w : World} {K : Value → World → Prop} (hN : A.length + B.length ≤ N + 1) (hA2 : 2 ≤ A.length) (hB2 : 2 ≤ B.length) (h : RowI w b (P ++ A ++ B ++ Q) R) (hc : CmpAt b w fv n lt) (hn : (P ++ A ++ B ++ Q).length = n) (hlt : ∀ x ∈ P ++ A ++ B ++ Q, x < n) (hb : n ≤ 1000000000000)
  (hA : SortL lt A) (hB : SortL lt B)
  (hK : ∀ w' C, Fr [b] w w' → C.Perm (A ++ B) → SortL lt C → RowI w' b (P ++ C ++ Q) R → K (.tuple #[]) w') :
  CallsN Tryz.prog 209 [rowV b n cap, .int .i64 P.length, .int .i64 (P.length + A.length : Nat), .int .i64 (P.length + A.length + B.length : Nat), fv] w K := by
 have cw := cur w
 have hll : P.length + (A.length + (B.length + Q.length)) = n := by rw [← hn]; simp
 obtain ⟨m, hm⟩ : ∃ m, m = P.length + A.length := ⟨_, rfl⟩
 obtain ⟨bb, hbb⟩ : ∃ bb, bb = m + B.length := ⟨_, rfl⟩
 obtain ⟨hh, hhh⟩ : ∃ hh, hh = (A.length + B.length) / 2 := ⟨_, rfl⟩
 have d1 : decide ((m : Int) - (P.length : Int) = 1) = false := decide_eq_false (by omega)
 have d2 : decide ((bb : Int) - (m : Int) = 1) = false := decide_eq_false (by omega)
 have hmid := half64 (i := P.length) (j := bb) (h := P.length + hh) (by omega) (by omega)
 obtain ⟨n0, hn0⟩ : ∃ n0, n0 = P.length + hh + m := ⟨_, rfl⟩
 have w19 : IntKind.i64.wrap (((P.length + hh : Nat) : Int) + (m : Int)) = (n0 : Int) := by rw [wrap64 (by omega) (by omega)]; omega
 have w22 : IntKind.i64.wrap ((n0 : Int) - 1) = ((n0 - 1 : Nat) : Int) := by rw [wrap64 (by omega) (by omega)]; omega
 rw [← hm, ← hbb]
 -- the search, from its bounds on
 have search : ∀ (s0 r0 : Nat) (e : Env) (k : Env → World → Prop) (Q' : Exit → Env → World → Prop), s0 ≤ r0 → r0 ≤ A.length → r0 ≤ hh → hh ≤ s0 + B.length → (s0 = 0 ∨ hh = s0 + B.length) → (r0 = A.length ∨ r0 = hh) →
   e 0 = rowV b n cap → e 1 = .int .i64 P.length → e 2 = .int .i64 m → e 3 = .int .i64 bb → e 4 = fv → e 18 = .int .i64 (P.length + hh : Nat) → e 19 = .int .i64 n0 → e 20 = .int .i64 (P.length + s0 : Nat) → e 21 = .int .i64 (P.length + r0 : Nat) →
   W3 Tryz.prog 220 V209 c209_6 (retQ Tryz.prog [] K) e w := by
  intro s0 r0 e k Q' h1 h2 h3 h4 h5 h6 e0 e1 e2 e3 e4 e18 e19 e20 e21
  simp (maxSteps:=9^7)(disch:=first|assumption|(simp only[dz];first|done|assumption|omega)|omega|apply_rules[Fr.refl,Fr.alloc,Fr.drew]|rfl) only [↓gd,gp,Nat.reduceAdd,Nat.reduceEqDiff, ↓c209_13_s, ↓c209_12_s, ↓c209_11_s, ↓c209_16_s, ↓c209_15_s, ↓c209_14_s, ↓c209_10_s, ↓c209_19_s, ↓c209_18_s, ↓c209_17_s, ↓c209_8_s, ↓c209_27_s, ↓c209_28_s, ↓c209_26_s, ↓c209_25_s, ↓c209_24_s, ↓c209_23_s, ↓c209_30_s, ↓c209_29_s, ↓c209_22_s, ↓c209_21_s, ↓c209_20_s, ↓c209_7_s, ↓c209_6_s, ↓c209_34_s, ↓c209_33_s, ↓c209_36_s, ↓c209_35_s, ↓c209_32_s, ↓c209_31_s, ↓c209_5_s, ↓c209_4_s, ↓c209_3_s, ↓c209_2_s, ↓c209_48_s, ↓c209_50_s, ↓c209_49_s, ↓c209_47_s, ↓c209_52_s, ↓c209_51_s, ↓c209_46_s, ↓c209_45_s, ↓c209_44_s, ↓c209_43_s, ↓c209_42_s, ↓c209_60_s, ↓c209_61_s, ↓c209_59_s, ↓c209_58_s, ↓c209_57_s, ↓c209_56_s, ↓c209_63_s, ↓c209_62_s, ↓c209_55_s, ↓c209_54_s, ↓c209_53_s, ↓c209_41_s, ↓c209_40_s, ↓c209_39_s, ↓c209_38_s, ↓c209_37_s, ↓c209_1_s, ↓c209_75_s, ↓c209_77_s, ↓c209_76_s, ↓c209_74_s, ↓c209_79_s, ↓c209_78_s, ↓c209_73_s, ↓c209_72_s, ↓c209_71_s, ↓c209_70_s, ↓c209_69_s, ↓c209_87_s, ↓c209_88_s, ↓c209_86_s, ↓c209_85_s, ↓c209_84_s, ↓c209_83_s, ↓c209_90_s, ↓c209_89_s, ↓c209_82_s, ↓c209_81_s, ↓c209_80_s, ↓c209_68_s, ↓c209_67_s, ↓c209_66_s, ↓c209_65_s, ↓c209_64_s, ↓c209_s, ↓w3t_209, e0, e1, e2, e3, e4, e18, e19, e20, e21, w22]
  refine loop_intro (fun e w' => ∃ s r : Nat, s0 ≤ s ∧ s ≤ r ∧ r ≤ r0 ∧ e 0 = rowV b n cap ∧ e 1 = .int .i64 P.length ∧ e 2 = .int .i64 m ∧ e 3 = .int .i64 bb ∧ e 4 = fv ∧ e 18 = .int .i64 (P.length + hh : Nat) ∧ e 19 = .int .i64 n0 ∧ e 20 = .int .i64 (P.length + s : Nat) ∧ e 21 = .int .i64 (P.length + r : Nat) ∧ e 22 = .int .i64 (n0 - 1 : Nat) ∧
    (s = s0 ∨ ∃ x y, A[s - 1]? = some x ∧ B[hh - s]? = some y ∧ lt y x = false) ∧ (r = r0 ∨ ∃ x y, B[hh - r - 1]? = some x ∧ A[r]? = some y ∧ lt x y = true) ∧ RowI w' b (P ++ A ++ B ++ Q) R ∧ Fr [b] w w')
   (fun e _ => (numOf (e 21)).toNat - (numOf (e 20)).toNat) ?_ ?_
  ·refine ⟨s0, r0, Nat.le_refl _, h1, Nat.le_refl _, ?_⟩
   simp (maxSteps:=9^7)(disch:=first|assumption|(simp only[dz];first|done|assumption|omega)|omega|apply_rules[Fr.refl,Fr.alloc,Fr.drew]|rfl) only [↓gsd,gs,gv,Nat.reduceAdd,Nat.reduceEqDiff, e0, e1, e2, e3, e4, e18, e19, e20, e21]
   exact ⟨.inl trivial, .inl trivial, h, Fr.refl _ _⟩
  rintro e w1 kk ⟨s, r, hs0, hsr, hr0, e0, e1, e2, e3, e4, e18, e19, e20, e21, e22, hs', hr', h1', hf⟩ hkk
  have cw1 := cur w1
  have hz1 := hf.size
  by_cases hlt' : s < r
  ·have d1 : decide (((P.length + s : Nat) : Int) < ((P.length + r : Nat) : Int)) = true := decide_eq_true (by omega)
   obtain ⟨t, ht⟩ : ∃ t, t = (P.length + s + (P.length + r)) / 2 - P.length := ⟨_, rfl⟩
   have ht1 : s ≤ t := by omega
   have ht2 : t < r := by omega
   have hw := half64 (i := P.length + s) (j := P.length + r) (h := P.length + t) (by omega) (by omega)
   have hw2 : IntKind.i64.wrap (((n0 - 1 : Nat) : Int) - ((P.length + t : Nat) : Int)) = ((m + (hh - t - 1) : Nat) : Int) := by rw [wrap64 (by omega) (by omega)]; omega
   obtain ⟨x, hx⟩ : ∃ x, A[t]? = some x := ⟨A[t]'(by omega), List.getElem?_eq_getElem _⟩
   obtain ⟨y, hy⟩ : ∃ y, B[hh - t - 1]? = some y := ⟨B[hh - t - 1]'(by omega), List.getElem?_eq_getElem _⟩
   have gx := row_get3' (P := P) (A := A) (B := B) (Q := Q) hx
   have gy := row_get4 (P := P) (A := A) (B := B) (Q := Q) hy
   rw [← hm] at gy
   have r1 := fun orig K => rowO_ld (R := R) gy orig K
   have r2 := fun orig K => rowO_ld (R := R) gx orig K
   have a0 : (0 : Int) ≤ ((P.length + t : Nat) : Int) := by omega
   have a1 : ((P.length + t : Nat) : Int) < (n : Int) := by omega
   have b0 : (0 : Int) ≤ ((m + (hh - t - 1) : Nat) : Int) := by omega
   have b1 : ((m + (hh - t - 1) : Nat) : Int) < (n : Int) := by omega
   simp (maxSteps:=9^7)(disch:=first|assumption|(simp only[dz];first|done|assumption|omega)|omega|apply_rules[Fr.refl,Fr.alloc,Fr.drew]|rfl) only [↓gd,gp,Nat.reduceAdd,Nat.reduceEqDiff, ↓c209_13_s, ↓c209_12_s, ↓c209_11_s, ↓c209_16_s, ↓c209_15_s, ↓c209_14_s, ↓c209_10_s, ↓c209_19_s, ↓c209_18_s, ↓c209_17_s, ↓c209_8_s, ↓c209_27_s, ↓c209_28_s, ↓c209_26_s, ↓c209_25_s, ↓c209_24_s, ↓c209_23_s, ↓c209_30_s, ↓c209_29_s, ↓c209_22_s, ↓c209_21_s, ↓c209_20_s, ↓c209_7_s, ↓c209_6_s, ↓c209_34_s, ↓c209_33_s, ↓c209_36_s, ↓c209_35_s, ↓c209_32_s, ↓c209_31_s, ↓c209_5_s, ↓c209_4_s, ↓c209_3_s, ↓c209_2_s, ↓c209_48_s, ↓c209_50_s, ↓c209_49_s, ↓c209_47_s, ↓c209_52_s, ↓c209_51_s, ↓c209_46_s, ↓c209_45_s, ↓c209_44_s, ↓c209_43_s, ↓c209_42_s, ↓c209_60_s, ↓c209_61_s, ↓c209_59_s, ↓c209_58_s, ↓c209_57_s, ↓c209_56_s, ↓c209_63_s, ↓c209_62_s, ↓c209_55_s, ↓c209_54_s, ↓c209_53_s, ↓c209_41_s, ↓c209_40_s, ↓c209_39_s, ↓c209_38_s, ↓c209_37_s, ↓c209_1_s, ↓c209_75_s, ↓c209_77_s, ↓c209_76_s, ↓c209_74_s, ↓c209_79_s, ↓c209_78_s, ↓c209_73_s, ↓c209_72_s, ↓c209_71_s, ↓c209_70_s, ↓c209_69_s, ↓c209_87_s, ↓c209_88_s, ↓c209_86_s, ↓c209_85_s, ↓c209_84_s, ↓c209_83_s, ↓c209_90_s, ↓c209_89_s, ↓c209_82_s, ↓c209_81_s, ↓c209_80_s, ↓c209_68_s, ↓c209_67_s, ↓c209_66_s, ↓c209_65_s, ↓c209_64_s, ↓c209_s, ↓w3t_209, e0, e1, e2, e3, e4, e18, e19, e20, e21, e22, d1, hw, hw2, a0, a1, b0, b1, Int.toNat_natCast, Nat.mul_one, Nat.zero_add, h1', r1, r2]
   refine hc _ y x _ fr_ (hlt y (List.mem_of_getElem? gy)) (hlt x (List.mem_of_getElem? gx)) fun q w2 hf2 hq => ?_
   have cw2 := cur w2
   have h2' : RowI w2 b (P ++ A ++ B ++ Q) R := hf2.getN h1'
   have hF2 : Fr [b] w w2 := hf.trans' (Fr.trans' (Fr.refl _ _).drew hf2)
   have wt : IntKind.i64.wrap (((P.length + t : Nat) : Int) + 1) = ((P.length + (t + 1) : Nat) : Int) := by rw [wrap64 (by omega) (by omega)]; omega
   cases hl : lt y x with
   | false =>
     rw [hl] at hq
     simp (maxSteps:=9^7)(disch:=first|assumption|(simp only[dz];first|done|assumption|omega)|omega|apply_rules[Fr.refl,Fr.alloc,Fr.drew]|rfl) only [↓gd,gp,Nat.reduceAdd,Nat.reduceEqDiff, ↓c209_13_s, ↓c209_12_s, ↓c209_11_s, ↓c209_16_s, ↓c209_15_s, ↓c209_14_s, ↓c209_10_s, ↓c209_19_s, ↓c209_18_s, ↓c209_17_s, ↓c209_8_s, ↓c209_27_s, ↓c209_28_s, ↓c209_26_s, ↓c209_25_s, ↓c209_24_s, ↓c209_23_s, ↓c209_30_s, ↓c209_29_s, ↓c209_22_s, ↓c209_21_s, ↓c209_20_s, ↓c209_7_s, ↓c209_6_s, ↓c209_34_s, ↓c209_33_s, ↓c209_36_s, ↓c209_35_s, ↓c209_32_s, ↓c209_31_s, ↓c209_5_s, ↓c209_4_s, ↓c209_3_s, ↓c209_2_s, ↓c209_48_s, ↓c209_50_s, ↓c209_49_s, ↓c209_47_s, ↓c209_52_s, ↓c209_51_s, ↓c209_46_s, ↓c209_45_s, ↓c209_44_s, ↓c209_43_s, ↓c209_42_s, ↓c209_60_s, ↓c209_61_s, ↓c209_59_s, ↓c209_58_s, ↓c209_57_s, ↓c209_56_s, ↓c209_63_s, ↓c209_62_s, ↓c209_55_s, ↓c209_54_s, ↓c209_53_s, ↓c209_41_s, ↓c209_40_s, ↓c209_39_s, ↓c209_38_s, ↓c209_37_s, ↓c209_1_s, ↓c209_75_s, ↓c209_77_s, ↓c209_76_s, ↓c209_74_s, ↓c209_79_s, ↓c209_78_s, ↓c209_73_s, ↓c209_72_s, ↓c209_71_s, ↓c209_70_s, ↓c209_69_s, ↓c209_87_s, ↓c209_88_s, ↓c209_86_s, ↓c209_85_s, ↓c209_84_s, ↓c209_83_s, ↓c209_90_s, ↓c209_89_s, ↓c209_82_s, ↓c209_81_s, ↓c209_80_s, ↓c209_68_s, ↓c209_67_s, ↓c209_66_s, ↓c209_65_s, ↓c209_64_s, ↓c209_s, ↓w3t_209, e0, e1, e2, e3, e4, e18, e19, e20, e21, e22, hq, wt]
     refine hkk _ _ ⟨t + 1, r, by omega, by omega, hr0, ?_⟩ ?_
     ·simp (maxSteps:=9^7)(disch:=first|assumption|(simp only[dz];first|done|assumption|omega)|omega|apply_rules[Fr.refl,Fr.alloc,Fr.drew]|rfl) only [↓gsd,gs,gv,Nat.reduceAdd,Nat.reduceEqDiff, e0, e1, e2, e3, e4, e18, e19, e20, e21, e22]
      exact ⟨.inr ⟨x, y, by simpa using hx, by rw [show hh - (t + 1) = hh - t - 1 by omega]; exact hy, hl⟩, hr', h2', hF2⟩
     ·simp (maxSteps:=9^7)(disch:=first|assumption|(simp only[dz];first|done|assumption|omega)|omega|apply_rules[Fr.refl,Fr.alloc,Fr.drew]|rfl) only [↓gsd,gs,gv,Nat.reduceAdd,Nat.reduceEqDiff, e20, e21, numOf, Int.toNat_natCast]; omega
   | true =>
     rw [hl] at hq
     simp (maxSteps:=9^7)(disch:=first|assumption|(simp only[dz];first|done|assumption|omega)|omega|apply_rules[Fr.refl,Fr.alloc,Fr.drew]|rfl) only [↓gd,gp,Nat.reduceAdd,Nat.reduceEqDiff, ↓c209_13_s, ↓c209_12_s, ↓c209_11_s, ↓c209_16_s, ↓c209_15_s, ↓c209_14_s, ↓c209_10_s, ↓c209_19_s, ↓c209_18_s, ↓c209_17_s, ↓c209_8_s, ↓c209_27_s, ↓c209_28_s, ↓c209_26_s, ↓c209_25_s, ↓c209_24_s, ↓c209_23_s, ↓c209_30_s, ↓c209_29_s, ↓c209_22_s, ↓c209_21_s, ↓c209_20_s, ↓c209_7_s, ↓c209_6_s, ↓c209_34_s, ↓c209_33_s, ↓c209_36_s, ↓c209_35_s, ↓c209_32_s, ↓c209_31_s, ↓c209_5_s, ↓c209_4_s, ↓c209_3_s, ↓c209_2_s, ↓c209_48_s, ↓c209_50_s, ↓c209_49_s, ↓c209_47_s, ↓c209_52_s, ↓c209_51_s, ↓c209_46_s, ↓c209_45_s, ↓c209_44_s, ↓c209_43_s, ↓c209_42_s, ↓c209_60_s, ↓c209_61_s, ↓c209_59_s, ↓c209_58_s, ↓c209_57_s, ↓c209_56_s, ↓c209_63_s, ↓c209_62_s, ↓c209_55_s, ↓c209_54_s, ↓c209_53_s, ↓c209_41_s, ↓c209_40_s, ↓c209_39_s, ↓c209_38_s, ↓c209_37_s, ↓c209_1_s, ↓c209_75_s, ↓c209_77_s, ↓c209_76_s, ↓c209_74_s, ↓c209_79_s, ↓c209_78_s, ↓c209_73_s, ↓c209_72_s, ↓c209_71_s, ↓c209_70_s, ↓c209_69_s, ↓c209_87_s, ↓c209_88_s, ↓c209_86_s, ↓c209_85_s, ↓c209_84_s, ↓c209_83_s, ↓c209_90_s, ↓c209_89_s, ↓c209_82_s, ↓c209_81_s, ↓c209_80_s, ↓c209_68_s, ↓c209_67_s, ↓c209_66_s, ↓c209_65_s, ↓c209_64_s, ↓c209_s, ↓w3t_209, e0, e1, e2, e3, e4, e18, e19, e20, e21, e22, hq]
     refine hkk _ _ ⟨s, t, hs0, ht1, by omega, ?_⟩ ?_
     ·simp (maxSteps:=9^7)(disch:=first|assumption|(simp only[dz];first|done|assumption|omega)|omega|apply_rules[Fr.refl,Fr.alloc,Fr.drew]|rfl) only [↓gsd,gs,gv,Nat.reduceAdd,Nat.reduceEqDiff, e0, e1, e2, e3, e4, e18, e19, e20, e21, e22]
      exact ⟨hs', .inr ⟨y, x, hy, hx, hl⟩, h2', hF2⟩
     ·simp (maxSteps:=9^7)(disch:=first|assumption|(simp only[dz];first|done|assumption|omega)|omega|apply_rules[Fr.refl,Fr.alloc,Fr.drew]|rfl) only [↓gsd,gs,gv,Nat.reduceAdd,Nat.reduceEqDiff, e20, e21, numOf, Int.toNat_natCast]; omega
  ·have d1 : decide (((P.length + s : Nat) : Int) < ((P.length + r : Nat) : Int)) = false := decide_eq_false (by omega)
   obtain rfl : s = r := by omega
   have w24 : IntKind.i64.wrap ((n0 : Int) - ((P.length + s : Nat) : Int)) = ((m + (hh - s) : Nat) : Int) := by rw [wrap64 (by omega) (by omega)]; omega
   simp (maxSteps:=9^7)(disch:=first|assumption|(simp only[dz];first|done|assumption|omega)|omega|apply_rules[Fr.refl,Fr.alloc,Fr.drew]|rfl) only [↓gd,gp,Nat.reduceAdd,Nat.reduceEqDiff, ↓c209_13_s, ↓c209_12_s, ↓c209_11_s, ↓c209_16_s, ↓c209_15_s, ↓c209_14_s, ↓c209_10_s, ↓c209_19_s, ↓c209_18_s, ↓c209_17_s, ↓c209_8_s, ↓c209_27_s, ↓c209_28_s, ↓c209_26_s, ↓c209_25_s, ↓c209_24_s, ↓c209_23_s, ↓c209_30_s, ↓c209_29_s, ↓c209_22_s, ↓c209_21_s, ↓c209_20_s, ↓c209_7_s, ↓c209_6_s, ↓c209_34_s, ↓c209_33_s, ↓c209_36_s, ↓c209_35_s, ↓c209_32_s, ↓c209_31_s, ↓c209_5_s, ↓c209_4_s, ↓c209_3_s, ↓c209_2_s, ↓c209_48_s, ↓c209_50_s, ↓c209_49_s, ↓c209_47_s, ↓c209_52_s, ↓c209_51_s, ↓c209_46_s, ↓c209_45_s, ↓c209_44_s, ↓c209_43_s, ↓c209_42_s, ↓c209_60_s, ↓c209_61_s, ↓c209_59_s, ↓c209_58_s, ↓c209_57_s, ↓c209_56_s, ↓c209_63_s, ↓c209_62_s, ↓c209_55_s, ↓c209_54_s, ↓c209_53_s, ↓c209_41_s, ↓c209_40_s, ↓c209_39_s, ↓c209_38_s, ↓c209_37_s, ↓c209_1_s, ↓c209_75_s, ↓c209_77_s, ↓c209_76_s, ↓c209_74_s, ↓c209_79_s, ↓c209_78_s, ↓c209_73_s, ↓c209_72_s, ↓c209_71_s, ↓c209_70_s, ↓c209_69_s, ↓c209_87_s, ↓c209_88_s, ↓c209_86_s, ↓c209_85_s, ↓c209_84_s, ↓c209_83_s, ↓c209_90_s, ↓c209_89_s, ↓c209_82_s, ↓c209_81_s, ↓c209_80_s, ↓c209_68_s, ↓c209_67_s, ↓c209_66_s, ↓c209_65_s, ↓c209_64_s, ↓c209_s, ↓w3t_209, e0, e1, e2, e3, e4, e18, e19, e20, e21, e22, d1, w24]
   refine sym_rot hsw IH (s := s) (u := hh - s) (by omega) (by omega) (by omega) (by omega) h1' (hc.fr hf) hn hlt hb hA hB ?_ ?_ ?_ ?_ ?_ ?_ ?_ ?_ ?_ ?_ fun w' C hf' hp hs h' => hK w' C (hf.transM hf') hp hs h'
   ·rcases hs' with q | q
    ·rcases h5 with q5 | q5
     ·left; omega
     ·right; left; omega
    ·exact .inr (.inr q)
   ·rcases hr' with q | q
    ·rcases h6 with q6 | q6
     ·left; omega
     ·right; left; omega
    ·exact .inr (.inr q)
   ·simp (maxSteps:=9^7)(disch:=first|assumption|(simp only[dz];first|done|assumption|omega)|omega|apply_rules[Fr.refl,Fr.alloc,Fr.drew]|rfl) only [↓gsd,gs,gv,Nat.reduceAdd,Nat.reduceEqDiff, e0]
   ·simp (maxSteps:=9^7)(disch:=first|assumption|(simp only[dz];first|done|assumption|omega)|omega|apply_rules[Fr.refl,Fr.alloc,Fr.drew]|rfl) only [↓gsd,gs,gv,Nat.reduceAdd,Nat.reduceEqDiff, e1]
   ·simp (maxSteps:=9^7)(disch:=first|assumption|(simp only[dz];first|done|assumption|omega)|omega|apply_rules[Fr.refl,Fr.alloc,Fr.drew]|rfl) only [↓gsd,gs,gv,Nat.reduceAdd,Nat.reduceEqDiff, e2, hm]
   ·simp (maxSteps:=9^7)(disch:=first|assumption|(simp only[dz];first|done|assumption|omega)|omega|apply_rules[Fr.refl,Fr.alloc,Fr.drew]|rfl) only [↓gsd,gs,gv,Nat.reduceAdd,Nat.reduceEqDiff, e3, hbb, hm]
   ·simp (maxSteps:=9^7)(disch:=first|assumption|(simp only[dz];first|done|assumption|omega)|omega|apply_rules[Fr.refl,Fr.alloc,Fr.drew]|rfl) only [↓gsd,gs,gv,Nat.reduceAdd,Nat.reduceEqDiff, e4]
   ·simp (maxSteps:=9^7)(disch:=first|assumption|(simp only[dz];first|done|assumption|omega)|omega|apply_rules[Fr.refl,Fr.alloc,Fr.drew]|rfl) only [↓gsd,gs,gv,Nat.reduceAdd,Nat.reduceEqDiff, e18]; congr 2; omega
   ·simp (maxSteps:=9^7)(disch:=first|assumption|(simp only[dz];first|done|assumption|omega)|omega|apply_rules[Fr.refl,Fr.alloc,Fr.drew]|rfl) only [↓gsd,gs,gv,Nat.reduceAdd,Nat.reduceEqDiff, e20]
   ·simp (maxSteps:=9^7)(disch:=first|assumption|(simp only[dz];first|done|assumption|omega)|omega|apply_rules[Fr.refl,Fr.alloc,Fr.drew]|rfl) only [↓gsd,gs,gv,Nat.reduceAdd,Nat.reduceEqDiff, hm]
 refine call209 ?_
 by_cases hgt : hh < A.length
 ·have d3 : decide (((P.length + hh : Nat) : Int) < (m : Int)) = true := decide_eq_true (by omega)
  have w20 : IntKind.i64.wrap ((n0 : Int) - (bb : Int)) = ((P.length + (hh - B.length) : Nat) : Int) := by rw [wrap64 (by omega) (by omega)]; omega
  simp (maxSteps:=9^7)(disch:=first|assumption|(simp only[dz];first|done|assumption|omega)|omega|apply_rules[Fr.refl,Fr.alloc,Fr.drew]|rfl) only [↓gd,gp,Nat.reduceAdd,Nat.reduceEqDiff, ↓c209_13_s, ↓c209_12_s, ↓c209_11_s, ↓c209_16_s, ↓c209_15_s, ↓c209_14_s, ↓c209_10_s, ↓c209_19_s, ↓c209_18_s, ↓c209_17_s, ↓c209_9_s, ↓c209_8_s, ↓c209_27_s, ↓c209_28_s, ↓c209_26_s, ↓c209_25_s, ↓c209_24_s, ↓c209_23_s, ↓c209_30_s, ↓c209_29_s, ↓c209_22_s, ↓c209_21_s, ↓c209_20_s, ↓c209_7_s, ↓c209_34_s, ↓c209_33_s, ↓c209_36_s, ↓c209_35_s, ↓c209_32_s, ↓c209_31_s, ↓c209_5_s, ↓c209_4_s, ↓c209_3_s, ↓c209_2_s, ↓c209_48_s, ↓c209_50_s, ↓c209_49_s, ↓c209_47_s, ↓c209_52_s, ↓c209_51_s, ↓c209_46_s, ↓c209_45_s, ↓c209_44_s, ↓c209_43_s, ↓c209_42_s, ↓c209_60_s, ↓c209_61_s, ↓c209_59_s, ↓c209_58_s, ↓c209_57_s, ↓c209_56_s, ↓c209_63_s, ↓c209_62_s, ↓c209_55_s, ↓c209_54_s, ↓c209_53_s, ↓c209_41_s, ↓c209_40_s, ↓c209_39_s, ↓c209_38_s, ↓c209_37_s, ↓c209_1_s, ↓c209_75_s, ↓c209_77_s, ↓c209_76_s, ↓c209_74_s, ↓c209_79_s, ↓c209_78_s, ↓c209_73_s, ↓c209_72_s, ↓c209_71_s, ↓c209_70_s, ↓c209_69_s, ↓c209_87_s, ↓c209_88_s, ↓c209_86_s, ↓c209_85_s, ↓c209_84_s, ↓c209_83_s, ↓c209_90_s, ↓c209_89_s, ↓c209_82_s, ↓c209_81_s, ↓c209_80_s, ↓c209_68_s, ↓c209_67_s, ↓c209_66_s, ↓c209_65_s, ↓c209_64_s, ↓c209_s, ↓w3t_209, d1, d2, hmid, w19, d3, w20]
  refine search (hh - B.length) hh _ (fun _ _ => True) (fun _ _ _ => True) (by omega) (by omega) (by omega) (by omega) (by omega) (by omega) ?_ ?_ ?_ ?_ ?_ ?_ ?_ ?_ ?_ <;> simp (maxSteps:=9^7)(disch:=first|assumption|(simp only[dz];first|done|assumption|omega)|omega|apply_rules[Fr.refl,Fr.alloc,Fr.drew]|rfl) only [↓gsd,gs,gv,Nat.reduceAdd,Nat.reduceEqDiff]
 ·have d3 : decide (((P.length + hh : Nat) : Int) < (m : Int)) = false := decide_eq_false (by omega)
  simp (maxSteps:=9^7)(disch:=first|assumption|(simp only[dz];first|done|assumption|omega)|omega|apply_rules[Fr.refl,Fr.alloc,Fr.drew]|rfl) only [↓gd,gp,Nat.reduceAdd,Nat.reduceEqDiff, ↓c209_13_s, ↓c209_12_s, ↓c209_11_s, ↓c209_16_s, ↓c209_15_s, ↓c209_14_s, ↓c209_10_s, ↓c209_19_s, ↓c209_18_s, ↓c209_17_s, ↓c209_9_s, ↓c209_8_s, ↓c209_27_s, ↓c209_28_s, ↓c209_26_s, ↓c209_25_s, ↓c209_24_s, ↓c209_23_s, ↓c209_30_s, ↓c209_29_s, ↓c209_22_s, ↓c209_21_s, ↓c209_20_s, ↓c209_7_s, ↓c209_34_s, ↓c209_33_s, ↓c209_36_s, ↓c209_35_s, ↓c209_32_s, ↓c209_31_s, ↓c209_5_s, ↓c209_4_s, ↓c209_3_s, ↓c209_2_s, ↓c209_48_s, ↓c209_50_s, ↓c209_49_s, ↓c209_47_s, ↓c209_52_s, ↓c209_51_s, ↓c209_46_s, ↓c209_45_s, ↓c209_44_s, ↓c209_43_s, ↓c209_42_s, ↓c209_60_s, ↓c209_61_s, ↓c209_59_s, ↓c209_58_s, ↓c209_57_s, ↓c209_56_s, ↓c209_63_s, ↓c209_62_s, ↓c209_55_s, ↓c209_54_s, ↓c209_53_s, ↓c209_41_s, ↓c209_40_s, ↓c209_39_s, ↓c209_38_s, ↓c209_37_s, ↓c209_1_s, ↓c209_75_s, ↓c209_77_s, ↓c209_76_s, ↓c209_74_s, ↓c209_79_s, ↓c209_78_s, ↓c209_73_s, ↓c209_72_s, ↓c209_71_s, ↓c209_70_s, ↓c209_69_s, ↓c209_87_s, ↓c209_88_s, ↓c209_86_s, ↓c209_85_s, ↓c209_84_s, ↓c209_83_s, ↓c209_90_s, ↓c209_89_s, ↓c209_82_s, ↓c209_81_s, ↓c209_80_s, ↓c209_68_s, ↓c209_67_s, ↓c209_66_s, ↓c209_65_s, ↓c209_64_s, ↓c209_s, ↓w3t_209, d1, d2, hmid, w19, d3]
  refine search 0 A.length _ (fun _ _ => True) (fun _ _ _ => True) (by omega) (by omega) (by omega) (by omega) (by omega) (by omega) ?_ ?_ ?_ ?_ ?_ ?_ ?_ ?_ ?_ <;> simp (maxSteps:=9^7)(disch:=first|assumption|(simp only[dz];first|done|assumption|omega)|omega|apply_rules[Fr.refl,Fr.alloc,Fr.drew]|rfl) only [↓gsd,gs,gv,Nat.reduceAdd,Nat.reduceEqDiff, hm, Nat.add_zero]
end
end Go.Proofs.YtomlgkecckffeaaGreat
