/- Sorting a row of numbers in place: the merge proved; the stable sort. -/
import Derived.Test.YtomlgkecckffeaaGreatS6
set_option linter.unusedVariables false
set_option linter.unusedSimpArgs false
set_option maxRecDepth 10000
namespace Go.Proofs.YtomlgkecckffeaaGreat
open Go.VW
section
variable {b n cap : Nat} {fv : Value} {lt : Nat → Nat → Bool} {R : List Value}
theorem sym_ok (hsw : SW lt) (hb : n ≤ 1000000000000) : ∀ N, SymOK b n cap fv lt R N
 | 0 => fun P A B Q w K hN hA0 => by omega
 | N + 1 => fun P A B Q w K hN hA0 hB0 h hc hn hlt hA hB hK => by
   by_cases hA1 : A.length = 1
   ·obtain ⟨x, rfl⟩ := List.length_eq_one_iff.1 hA1
    exact sym_left hsw h hc hn hlt hb hB hK
   ·by_cases hB1 : B.length = 1
    ·obtain ⟨y, rfl⟩ := List.length_eq_one_iff.1 hB1
     exact sym_right hsw h hc hn hlt hb hA1 hA hK
    ·exact sym_gen hsw (sym_ok hsw hb N) hN (by omega) (by omega) h hc hn hlt hb hA hB hK
def segL (L : List Nat) (a k : Nat) : List Nat := (L.drop a).take k
theorem seg_len {L : List Nat} {a k : Nat} (h : a + k ≤ L.length) : (segL L a k).length = k := by unfold segL; rw [List.length_take, List.length_drop]; omega
theorem seg_cut {L : List Nat} {a k : Nat} (h : a + k ≤ L.length) : L = L.take a ++ segL L a k ++ L.drop (a + k) := by
 have := (cut3 (l := L) (a := a) (b := a + k) (by omega) h).1
 rw [show a + k - a = k by omega] at this
 exact this
theorem seg_cut2 {L : List Nat} {a k j : Nat} (h : a + k + j ≤ L.length) : L = L.take a ++ segL L a k ++ segL L (a + k) j ++ L.drop (a + k + j) := by
 have h1 := seg_cut (L := L) (a := a) (k := k + j) (by omega)
 have h2 : segL L a (k + j) = segL L a k ++ segL L (a + k) j := by
  unfold segL
  rw [← List.drop_drop, List.take_add]
 rw [h2, ← List.append_assoc, ← Nat.add_assoc] at h1
 exact h1
theorem seg_keep {L C : List Nat} {a k x y : Nat} (h : a + k ≤ L.length) (hC : C.length = k) (hxy : x + y ≤ a ∨ a + k ≤ x) : segL (L.take a ++ C ++ L.drop (a + k)) x y = segL L x y := by
 have e : L = L.take a ++ segL L a k ++ L.drop (a + k) := seg_cut h
 have ht : (L.take a).length = a := by rw [List.length_take]; omega
 have := seg_out (P := L.take a) (C := segL L a k) (C' := C) (Q := L.drop (a + k)) (by rw [hC, seg_len h]) (a := x) (n := y) (by rw [ht, seg_len h]; exact hxy)
 rw [← e] at this
 exact this
theorem seg_new {L C : List Nat} {a k : Nat} (h : a + k ≤ L.length) (hC : C.length = k) : segL (L.take a ++ C ++ L.drop (a + k)) a k = C := by
 have ht : (L.take a).length = a := by rw [List.length_take]; omega
 have := seg_in (P := L.take a) (C := C) (Q := L.drop (a + k))
 rwa [ht, hC] at this
theorem seg_all {L : List Nat} {a k : Nat} (h : L.length ≤ a + k) : segL L a k = L.drop a := by unfold segL; rw [List.take_of_length_le (by rw [List.length_drop]; omega)]
theorem seg_none {L : List Nat} {a k : Nat} (h : L.length ≤ a) : segL L a k = [] := by unfold segL; rw [List.drop_of_length_le h]; simp
set_option maxHeartbeats 8000000 in
theorem stable_spec (hsw : SW lt) {L : List Nat} {w : World} {K : Value → World → Prop} (h : RowI w b L R) (hc : CmpAt b w fv n lt) (hn : L.length = n) (hlt : ∀ x ∈ L, x < n) (hb : n ≤ 100000000000)
  (hK : ∀ w' L', Fr [b] w w' → L'.Perm L → SortL lt L' → RowI w' b L' R → K (.tuple #[]) w') : CallsN Tryz.prog 185 [rowV b n cap, .int .i64 n, fv] w K := by
 have cw := cur w
 -- the merges, from runs of 20 on
 have merges : ∀ (w1 : World) (e : Env) (L1 : List Nat), Fr [b] w w1 → L1.Perm L → (∀ t, SortL lt (segL L1 (t * 20) 20)) → RowI w1 b L1 R → e 0 = rowV b n cap → e 1 = .int .i64 n → e 2 = fv → e 6 = .int .i64 20 → W3 Tryz.prog 63 V185 c185_4 (retQ Tryz.prog [] K) e w1 := by
  intro w1 e L1 hf1 hp1 hr1 h1 e0 e1 e2 e6
  have cw1 := cur w1
  simp (maxSteps:=9^7)(disch:=first|assumption|(simp only[dz];first|done|assumption|omega)|omega|apply_rules[Fr.refl,Fr.alloc,Fr.drew]|rfl) only [↓gd,gp,Nat.reduceAdd,Nat.reduceEqDiff, ↓hk185, run_mul, e0, e1, e2, e6]
  refine loop_intro (fun e w' => ∃ (bs : Nat) (L' : List Nat), 20 ≤ bs ∧ (bs = 20 ∨ bs ≤ 2 * n) ∧ e 0 = rowV b n cap ∧ e 1 = .int .i64 n ∧ e 2 = fv ∧ e 6 = .int .i64 bs ∧ L'.Perm L ∧ (∀ t, SortL lt (segL L' (t * bs) bs)) ∧ RowI w' b L' R ∧ Fr [b] w w')
   (fun e _ => n - (numOf (e 6)).toNat) ?_ ?_
  ·refine ⟨20, L1, Nat.le_refl _, .inl rfl, ?_⟩
   simp (maxSteps:=9^7)(disch:=first|assumption|(simp only[dz];first|done|assumption|omega)|omega|apply_rules[Fr.refl,Fr.alloc,Fr.drew]|rfl) only [↓gsd,gs,gv,Nat.reduceAdd,Nat.reduceEqDiff, e0, e1, e2, e6]
   exact ⟨rfl, hp1, hr1, h1, hf1⟩
  rintro e w2 kk ⟨bs, L2, hb20, hbs, e0, e1, e2, e6, hp2, hr2, h2, hf2⟩ hkk
  have cw2 := cur w2
  have hl2 : L2.length = n := by rw [hp2.length_eq, hn]
  by_cases hbn : bs < n
  ·have d1 : decide ((bs : Int) < (n : Int)) = true := decide_eq_true (by omega)
   have e6o := e6
   have w8 : IntKind.i64.wrap (2 * (bs : Int)) = ((2 * bs : Nat) : Int) := by rw [wrap64 (by omega) (by omega)]; omega
   have w6 : IntKind.i64.wrap ((bs : Int) * 2) = ((2 * bs : Nat) : Int) := by rw [wrap64 (by omega) (by omega)]; omega
   have hkk' : ∀ (e' : Env) (w' : World) (L' : List Nat), e' 0 = rowV b n cap → e' 1 = .int .i64 n → e' 2 = fv → e' 6 = .int .i64 (2 * bs : Nat) → L'.Perm L → (∀ t, SortL lt (segL L' (t * (2 * bs)) (2 * bs))) → RowI w' b L' R → Fr [b] w w' → kk e' w' := by
    intro e' w' L' q0 q1 q2 q6 hp hr h' hf
    refine hkk _ _ ⟨2 * bs, L', by omega, .inr (by omega), q0, q1, q2, q6, hp, hr, h', hf⟩ ?_
    simp only [q6, e6o, numOf, Int.toNat_natCast]; omega
   simp (maxSteps:=9^7)(disch:=first|assumption|(simp only[dz];first|done|assumption|omega)|omega|apply_rules[Fr.refl,Fr.alloc,Fr.drew]|rfl) only [↓gd,gp,Nat.reduceAdd,Nat.reduceEqDiff, ↓hk185, run_mul, e0, e1, e2, e6, d1, w8]
   refine loop_intro (fun e w' => ∃ (j a : Nat) (L' : List Nat), a = j * (2 * bs) ∧ (a = 0 ∨ a ≤ n) ∧ e 0 = rowV b n cap ∧ e 1 = .int .i64 n ∧ e 2 = fv ∧ e 6 = .int .i64 bs ∧ e 7 = .int .i64 a ∧ e 8 = .int .i64 (a + 2 * bs : Nat) ∧ L'.Perm L ∧ (∀ t, t < j → SortL lt (segL L' (t * (2 * bs)) (2 * bs))) ∧ (∀ t, 2 * j ≤ t → SortL lt (segL L' (t * bs) bs)) ∧ RowI w' b L' R ∧ Fr [b] w w')
    (fun e _ => n - (numOf (e 7)).toNat) ?_ ?_
   ·refine ⟨0, 0, L2, by simp, .inl rfl, ?_⟩
    simp (maxSteps:=9^7)(disch:=first|assumption|(simp only[dz];first|done|assumption|omega)|omega|apply_rules[Fr.refl,Fr.alloc,Fr.drew]|rfl) only [↓gsd,gs,gv,Nat.reduceAdd,Nat.reduceEqDiff, e0, e1, e2, e6, Nat.zero_add]
    exact ⟨rfl, hp2, fun t ht => by omega, fun t _ => hr2 t, h2, hf2⟩
   rintro e w3 kk2 ⟨j, a, L3, ha, han, e0, e1, e2, e6, e7, e8, hp3, hr3, hs3, h3, hf3⟩ hkk2
   have cw3 := cur w3
   have hl3 : L3.length = n := by rw [hp3.length_eq, hn]
   have m1 : (j + 1) * (2 * bs) = a + 2 * bs := by rw [Nat.succ_mul, ha]
   have m2 : (2 * j) * bs = a := by rw [ha, Nat.mul_comm 2 j, Nat.mul_assoc]
   have m3 : (2 * j + 1) * bs = a + bs := by rw [Nat.succ_mul, m2]
   have m4 : (2 * j + 2) * bs = a + 2 * bs := by rw [show 2 * j + 2 = (2 * j + 1) + 1 by omega, Nat.succ_mul, m3]; omega
   have below : ∀ t, t < j → t * (2 * bs) + 2 * bs ≤ a := fun t ht => by
    have := Nat.mul_le_mul_right (2 * bs) (show t + 1 ≤ j by omega)
    rw [Nat.succ_mul] at this; omega
   have above : ∀ t, 2 * j + 2 ≤ t → a + 2 * bs ≤ t * bs := fun t ht => by
    have := Nat.mul_le_mul_right bs ht
    omega
   have sA := hs3 (2 * j) (Nat.le_refl _)
   rw [m2] at sA
   have sB := hs3 (2 * j + 1) (by omega)
   rw [m3] at sB
   have wab : IntKind.i64.wrap ((a : Int) + (bs : Int)) = ((a + bs : Nat) : Int) := by rw [wrap64 (by omega) (by omega)]; omega
   by_cases hle : a + 2 * bs ≤ n
   ·have d2 : decide (((a + 2 * bs : Nat) : Int) ≤ (n : Int)) = true := decide_eq_true (by omega)
    have w9 : IntKind.i64.wrap (((a + 2 * bs : Nat) : Int) + ((2 * bs : Nat) : Int)) = ((a + 2 * bs + 2 * bs : Nat) : Int) := by rw [wrap64 (by omega) (by omega)]; omega
    have hcut := seg_cut2 (L := L3) (a := a) (k := bs) (j := bs) (by omega)
    have lA := seg_len (L := L3) (a := a) (k := bs) (by omega)
    have lB := seg_len (L := L3) (a := a + bs) (k := bs) (by omega)
    have lP : (L3.take a).length = a := by rw [List.length_take]; omega
    have hs := fun K' => sym_ok (b := b) (cap := cap) (fv := fv) (R := R) hsw (n := n) (by omega) (bs + bs) (L3.take a) (segL L3 a bs) (segL L3 (a + bs) bs) (L3.drop (a + bs + bs)) w3 K' (by omega) (by omega) (by omega) (by rw [← hcut]; exact h3) (hc.fr hf3) (by rw [← hcut]; exact hl3) (by rw [← hcut]; exact fun x hx => hlt x (hp3.mem_iff.1 hx)) sA sB
    rw [lP, lA, lB, show a + bs + bs = a + 2 * bs by omega] at hs
    simp (maxSteps:=9^7)(disch:=first|assumption|(simp only[dz];first|done|assumption|omega)|omega|apply_rules[Fr.refl,Fr.alloc,Fr.drew]|rfl) only [↓gd,gp,Nat.reduceAdd,Nat.reduceEqDiff, ↓hk185, run_mul, e0, e1, e2, e6, e7, e8, d2, wab]
    refine hs _ fun w4 C hf4 hpC hsC h4 => ?_
    have cw4 := cur w4
    have lC : C.length = 2 * bs := by rw [hpC.length_eq, List.length_append, lA, lB]; omega
    simp (maxSteps:=9^7)(disch:=first|assumption|(simp only[dz];first|done|assumption|omega)|omega|apply_rules[Fr.refl,Fr.alloc,Fr.drew]|rfl) only [↓gd,gp,Nat.reduceAdd,Nat.reduceEqDiff, ↓hk185, run_mul, e0, e1, e2, e6, e7, e8, w8, w9]
    refine hkk2 _ _ ⟨j + 1, a + 2 * bs, L3.take a ++ C ++ L3.drop (a + 2 * bs), m1.symm, .inr hle, ?_⟩ ?_
    ·simp (maxSteps:=9^7)(disch:=first|assumption|(simp only[dz];first|done|assumption|omega)|omega|apply_rules[Fr.refl,Fr.alloc,Fr.drew]|rfl) only [↓gsd,gs,gv,Nat.reduceAdd,Nat.reduceEqDiff, e0, e1, e2, e6, e7, e8]
     refine ⟨?_, fun t ht => ?_, fun t ht => ?_, h4, hf3.transM hf4⟩
     ·refine List.Perm.trans ?_ hp3
      conv => { rhs; rw [hcut] }
      rw [show a + bs + bs = a + 2 * bs by omega, List.append_assoc (L3.take a) (segL L3 a bs)]
      exact List.Perm.append_right _ (List.Perm.append_left _ hpC)
     ·by_cases htj : t < j
      ·rw [seg_keep (by omega) lC (.inl (below t htj))]; exact hr3 t htj
      ·obtain rfl : t = j := by omega
       rw [← ha, seg_new (by omega) lC]; exact hsC
     ·rw [seg_keep (by omega) lC (.inr (above t (by omega)))]; exact hs3 t (by omega)
    ·simp (maxSteps:=9^7)(disch:=first|assumption|(simp only[dz];first|done|assumption|omega)|omega|apply_rules[Fr.refl,Fr.alloc,Fr.drew]|rfl) only [↓gsd,gs,gv,Nat.reduceAdd,Nat.reduceEqDiff, e7, e8, numOf, Int.toNat_natCast]; omega
   ·have d2 : decide (((a + 2 * bs : Nat) : Int) ≤ (n : Int)) = false := decide_eq_false (by omega)
    have fin : ∀ L', (∀ t, t < j → SortL lt (segL L' (t * (2 * bs)) (2 * bs))) → SortL lt (segL L' a (2 * bs)) → L'.length = n → ∀ t, SortL lt (segL L' (t * (2 * bs)) (2 * bs)) := by
     intro L' q1 q2 q3 t
     by_cases htj : t < j
     ·exact q1 t htj
     ·by_cases htj2 : t = j
      ·subst htj2; rw [← ha]; exact q2
      ·have := Nat.mul_le_mul_right (2 * bs) (show j + 1 ≤ t by omega)
       rw [m1] at this
       rw [seg_none (by omega)]; exact SortL.nil
    by_cases hmn : a + bs < n
    ·have d3 : decide (((a + bs : Nat) : Int) < (n : Int)) = true := decide_eq_true (by omega)
     obtain ⟨q, hq⟩ : ∃ q, q = n - (a + bs) := ⟨_, rfl⟩
     have sB' : SortL lt (segL L3 (a + bs) q) := by
      rw [seg_all (by omega)] at sB
      rw [seg_all (by omega)]; exact sB
     have hcut := seg_cut2 (L := L3) (a := a) (k := bs) (j := q) (by omega)
     have lA := seg_len (L := L3) (a := a) (k := bs) (by omega)
     have lB := seg_len (L := L3) (a := a + bs) (k := q) (by omega)
     have lP : (L3.take a).length = a := by rw [List.length_take]; omega
     have hs := fun K' => sym_ok (b := b) (cap := cap) (fv := fv) (R := R) hsw (n := n) (by omega) (bs + q) (L3.take a) (segL L3 a bs) (segL L3 (a + bs) q) (L3.drop (a + bs + q)) w3 K' (by omega) (by omega) (by omega) (by rw [← hcut]; exact h3) (hc.fr hf3) (by rw [← hcut]; exact hl3) (by rw [← hcut]; exact fun x hx => hlt x (hp3.mem_iff.1 hx)) sA sB'
     rw [lP, lA, lB, show a + bs + q = n by omega] at hs
     simp (maxSteps:=9^7)(disch:=first|assumption|(simp only[dz];first|done|assumption|omega)|omega|apply_rules[Fr.refl,Fr.alloc,Fr.drew]|rfl) only [↓gd,gp,Nat.reduceAdd,Nat.reduceEqDiff, ↓hk185, run_mul, e0, e1, e2, e6, e7, e8, d2, wab, d3]
     refine hs _ fun w4 C hf4 hpC hsC h4 => ?_
     have cw4 := cur w4
     have lC : C.length = bs + q := by rw [hpC.length_eq, List.length_append, lA, lB]
     have hcq : a + (bs + q) = n := by omega
     simp (maxSteps:=9^7)(disch:=first|assumption|(simp only[dz];first|done|assumption|omega)|omega|apply_rules[Fr.refl,Fr.alloc,Fr.drew]|rfl) only [↓gd,gp,Nat.reduceAdd,Nat.reduceEqDiff, ↓hk185, run_mul, e0, e1, e2, e6, e7, e8, w6]
     have hp4 : (L3.take a ++ C ++ L3.drop n).Perm L := by
      refine List.Perm.trans ?_ hp3
      conv => { rhs; rw [hcut] }
      rw [show a + bs + q = n by omega, List.append_assoc (L3.take a) (segL L3 a bs)]
      exact List.Perm.append_right _ (List.Perm.append_left _ hpC)
     refine hkk' _ _ (L3.take a ++ C ++ L3.drop n) ?_ ?_ ?_ ?_ hp4 (fin _ (fun t ht => ?_) ?_ (by rw [hp4.length_eq, hn])) h4 (hf3.transM hf4)
     ·simp (maxSteps:=9^7)(disch:=first|assumption|(simp only[dz];first|done|assumption|omega)|omega|apply_rules[Fr.refl,Fr.alloc,Fr.drew]|rfl) only [↓gsd,gs,gv,Nat.reduceAdd,Nat.reduceEqDiff, e0]
     ·simp (maxSteps:=9^7)(disch:=first|assumption|(simp only[dz];first|done|assumption|omega)|omega|apply_rules[Fr.refl,Fr.alloc,Fr.drew]|rfl) only [↓gsd,gs,gv,Nat.reduceAdd,Nat.reduceEqDiff, e1]
     ·simp (maxSteps:=9^7)(disch:=first|assumption|(simp only[dz];first|done|assumption|omega)|omega|apply_rules[Fr.refl,Fr.alloc,Fr.drew]|rfl) only [↓gsd,gs,gv,Nat.reduceAdd,Nat.reduceEqDiff, e2]
     ·simp (maxSteps:=9^7)(disch:=first|assumption|(simp only[dz];first|done|assumption|omega)|omega|apply_rules[Fr.refl,Fr.alloc,Fr.drew]|rfl) only [↓gsd,gs,gv,Nat.reduceAdd,Nat.reduceEqDiff, e6]
     ·rw [← hcq, seg_keep (by omega) lC (.inl (below t ht))]; exact hr3 t ht
     ·have := seg_new (L := L3) (a := a) (k := bs + q) (by omega) lC
      rw [hcq, seg_all (by rw [hp4.length_eq, hn]; omega)] at this
      rw [seg_all (by rw [hp4.length_eq, hn]; omega), this]; exact hsC
    ·have d3 : decide (((a + bs : Nat) : Int) < (n : Int)) = false := decide_eq_false (by omega)
     simp (maxSteps:=9^7)(disch:=first|assumption|(simp only[dz];first|done|assumption|omega)|omega|apply_rules[Fr.refl,Fr.alloc,Fr.drew]|rfl) only [↓gd,gp,Nat.reduceAdd,Nat.reduceEqDiff, ↓hk185, run_mul, e0, e1, e2, e6, e7, e8, d2, wab, d3, w6]
     refine hkk' _ _ L3 ?_ ?_ ?_ ?_ hp3 (fin _ hr3 ?_ hl3) h3 hf3
     ·simp (maxSteps:=9^7)(disch:=first|assumption|(simp only[dz];first|done|assumption|omega)|omega|apply_rules[Fr.refl,Fr.alloc,Fr.drew]|rfl) only [↓gsd,gs,gv,Nat.reduceAdd,Nat.reduceEqDiff, e0]
     ·simp (maxSteps:=9^7)(disch:=first|assumption|(simp only[dz];first|done|assumption|omega)|omega|apply_rules[Fr.refl,Fr.alloc,Fr.drew]|rfl) only [↓gsd,gs,gv,Nat.reduceAdd,Nat.reduceEqDiff, e1]
     ·simp (maxSteps:=9^7)(disch:=first|assumption|(simp only[dz];first|done|assumption|omega)|omega|apply_rules[Fr.refl,Fr.alloc,Fr.drew]|rfl) only [↓gsd,gs,gv,Nat.reduceAdd,Nat.reduceEqDiff, e2]
     ·simp (maxSteps:=9^7)(disch:=first|assumption|(simp only[dz];first|done|assumption|omega)|omega|apply_rules[Fr.refl,Fr.alloc,Fr.drew]|rfl) only [↓gsd,gs,gv,Nat.reduceAdd,Nat.reduceEqDiff, e6]
     ·rw [seg_all (by omega)] at sA
      rw [seg_all (by omega)]; exact sA
  ·have d1 : decide ((bs : Int) < (n : Int)) = false := decide_eq_false (by omega)
   simp (maxSteps:=9^7)(disch:=first|assumption|(simp only[dz];first|done|assumption|omega)|omega|apply_rules[Fr.refl,Fr.alloc,Fr.drew]|rfl) only [↓gd,gp,Nat.reduceAdd,Nat.reduceEqDiff, ↓hk185, run_mul, e0, e1, e2, e6, d1]
   have := hr2 0
   rw [Nat.zero_mul, seg_all (by omega), List.drop_zero] at this
   exact hK _ L2 hf2 hp2 this h2
 refine call185 ?_
 simp (maxSteps:=9^7)(disch:=first|assumption|(simp only[dz];first|done|assumption|omega)|omega|apply_rules[Fr.refl,Fr.alloc,Fr.drew]|rfl) only [↓gd,gp,Nat.reduceAdd,Nat.reduceEqDiff, ↓c185_11_s, ↓c185_15_s, ↓c185_14_s, ↓c185_13_s, ↓c185_12_s, ↓c185_10_s, ↓c185_22_s, ↓c185_21_s, ↓c185_20_s, ↓c185_19_s, ↓c185_24_s, ↓c185_23_s, ↓c185_18_s, ↓c185_17_s, ↓c185_16_s, ↓c185_9_s, ↓c185_8_s, ↓c185_7_s, ↓c185_26_s, ↓c185_25_s, ↓c185_6_s, ↓c185_5_s, ↓c185_3_s, ↓c185_33_s, ↓c185_32_s, ↓c185_31_s, ↓c185_30_s, ↓c185_35_s, ↓c185_34_s, ↓c185_29_s, ↓c185_28_s, ↓c185_27_s, ↓c185_2_s, ↓c185_1_s, ↓c185_s, ↓w3t_185]
 refine loop_intro (fun e w' => ∃ (k : Nat) (L' : List Nat), k * 20 ≤ n ∧ e 0 = rowV b n cap ∧ e 1 = .int .i64 n ∧ e 2 = fv ∧ e 6 = .int .i64 20 ∧ e 7 = .int .i64 (k * 20 : Nat) ∧ e 8 = .int .i64 (k * 20 + 20 : Nat) ∧ L'.Perm L ∧ (∀ t, t < k → SortL lt (segL L' (t * 20) 20)) ∧ RowI w' b L' R ∧ Fr [b] w w')
  (fun e _ => n - (numOf (e 7)).toNat) ?_ ?_
 ·refine ⟨0, L, Nat.zero_le _, ?_⟩
  simp (maxSteps:=9^7)(disch:=first|assumption|(simp only[dz];first|done|assumption|omega)|omega|apply_rules[Fr.refl,Fr.alloc,Fr.drew]|rfl) only [↓gsd,gs,gv,Nat.reduceAdd,Nat.reduceEqDiff, Nat.zero_mul]
  exact ⟨rfl, rfl, List.Perm.refl _, fun t ht => by omega, h, Fr.refl _ _⟩
 rintro e w1 kk ⟨k, L1, hk, e0, e1, e2, e6, e7, e8, hp1, hr1, h1, hf1⟩ hkk
 have cw1 := cur w1
 have hl1 : L1.length = n := by rw [hp1.length_eq, hn]
 have lP : (L1.take (k * 20)).length = k * 20 := by rw [List.length_take]; omega
 by_cases hle : k * 20 + 20 ≤ n
 ·have d1 : decide (((k * 20 + 20 : Nat) : Int) ≤ (n : Int)) = true := decide_eq_true (by omega)
  have hcut := seg_cut (L := L1) (a := k * 20) (k := 20) (by omega)
  have lA := seg_len (L := L1) (a := k * 20) (k := 20) (by omega)
  have w8 : IntKind.i64.wrap (((k * 20 + 20 : Nat) : Int) + 20) = (((k + 1) * 20 + 20 : Nat) : Int) := by rw [wrap64 (by omega) (by omega)]; omega
  have hs := fun K' => insS_spec (b := b) (n := n) (cap := cap) (fv := fv) hsw (P := L1.take (k * 20)) (A := segL L1 (k * 20) 20) (Q := L1.drop (k * 20 + 20)) (K := K') (by rw [← hcut]; exact h1) (hc.fr hf1) (by rw [← hcut]; exact hl1) (by rw [← hcut]; exact fun x hx => hlt x (hp1.mem_iff.1 hx)) (by omega)
  rw [lP, lA] at hs
  simp (maxSteps:=9^7)(disch:=first|assumption|(simp only[dz];first|done|assumption|omega)|omega|apply_rules[Fr.refl,Fr.alloc,Fr.drew]|rfl) only [↓gd,gp,Nat.reduceAdd,Nat.reduceEqDiff, ↓c185_11_s, ↓c185_15_s, ↓c185_14_s, ↓c185_13_s, ↓c185_12_s, ↓c185_10_s, ↓c185_22_s, ↓c185_21_s, ↓c185_20_s, ↓c185_19_s, ↓c185_24_s, ↓c185_23_s, ↓c185_18_s, ↓c185_17_s, ↓c185_16_s, ↓c185_9_s, ↓c185_8_s, ↓c185_7_s, ↓c185_26_s, ↓c185_25_s, ↓c185_6_s, ↓c185_5_s, ↓c185_3_s, ↓c185_33_s, ↓c185_32_s, ↓c185_31_s, ↓c185_30_s, ↓c185_35_s, ↓c185_34_s, ↓c185_29_s, ↓c185_28_s, ↓c185_27_s, ↓c185_2_s, ↓c185_1_s, ↓c185_s, ↓w3t_185, e0, e1, e2, e6, e7, e8, d1]
  refine hs _ fun w2 C hf2 hpC hsC h2 => ?_
  have cw2 := cur w2
  have lC : C.length = 20 := by rw [hpC.length_eq, lA]
  simp (maxSteps:=9^7)(disch:=first|assumption|(simp only[dz];first|done|assumption|omega)|omega|apply_rules[Fr.refl,Fr.alloc,Fr.drew]|rfl) only [↓gd,gp,Nat.reduceAdd,Nat.reduceEqDiff, ↓c185_11_s, ↓c185_15_s, ↓c185_14_s, ↓c185_13_s, ↓c185_12_s, ↓c185_10_s, ↓c185_22_s, ↓c185_21_s, ↓c185_20_s, ↓c185_19_s, ↓c185_24_s, ↓c185_23_s, ↓c185_18_s, ↓c185_17_s, ↓c185_16_s, ↓c185_9_s, ↓c185_8_s, ↓c185_7_s, ↓c185_26_s, ↓c185_25_s, ↓c185_6_s, ↓c185_5_s, ↓c185_3_s, ↓c185_33_s, ↓c185_32_s, ↓c185_31_s, ↓c185_30_s, ↓c185_35_s, ↓c185_34_s, ↓c185_29_s, ↓c185_28_s, ↓c185_27_s, ↓c185_2_s, ↓c185_1_s, ↓c185_s, ↓w3t_185, e0, e1, e2, e6, e7, e8, w8]
  refine hkk _ _ ⟨k + 1, L1.take (k * 20) ++ C ++ L1.drop (k * 20 + 20), by omega, ?_⟩ ?_
  ·simp (maxSteps:=9^7)(disch:=first|assumption|(simp only[dz];first|done|assumption|omega)|omega|apply_rules[Fr.refl,Fr.alloc,Fr.drew]|rfl) only [↓gsd,gs,gv,Nat.reduceAdd,Nat.reduceEqDiff, e0, e1, e2, e6, e7, e8]
   refine ⟨by congr 2; omega, ?_, fun t ht => ?_, h2, hf1.transM hf2⟩
   ·refine List.Perm.trans ?_ hp1
    conv => { rhs; rw [hcut] }
    exact List.Perm.append_right _ (List.Perm.append_left _ hpC)
   ·by_cases htk : t < k
    ·rw [seg_keep (by omega) lC (.inl (by omega))]; exact hr1 t htk
    ·obtain rfl : t = k := by omega
     rw [seg_new (by omega) lC]; exact hsC
  ·simp (maxSteps:=9^7)(disch:=first|assumption|(simp only[dz];first|done|assumption|omega)|omega|apply_rules[Fr.refl,Fr.alloc,Fr.drew]|rfl) only [↓gsd,gs,gv,Nat.reduceAdd,Nat.reduceEqDiff, e7, e8, numOf, Int.toNat_natCast]; omega
 ·have d1 : decide (((k * 20 + 20 : Nat) : Int) ≤ (n : Int)) = false := decide_eq_false (by omega)
  obtain ⟨q, hq⟩ : ∃ q, q = n - k * 20 := ⟨_, rfl⟩
  have hcut := seg_cut (L := L1) (a := k * 20) (k := q) (by omega)
  have lA := seg_len (L := L1) (a := k * 20) (k := q) (by omega)
  have hqn : k * 20 + q = n := by omega
  have hs := fun K' => insS_spec (b := b) (n := n) (cap := cap) (fv := fv) hsw (P := L1.take (k * 20)) (A := segL L1 (k * 20) q) (Q := L1.drop (k * 20 + q)) (K := K') (by rw [← hcut]; exact h1) (hc.fr hf1) (by rw [← hcut]; exact hl1) (by rw [← hcut]; exact fun x hx => hlt x (hp1.mem_iff.1 hx)) (by omega)
  rw [lP, lA, hqn] at hs
  simp (maxSteps:=9^7)(disch:=first|assumption|(simp only[dz];first|done|assumption|omega)|omega|apply_rules[Fr.refl,Fr.alloc,Fr.drew]|rfl) only [↓gd,gp,Nat.reduceAdd,Nat.reduceEqDiff, ↓c185_11_s, ↓c185_15_s, ↓c185_14_s, ↓c185_13_s, ↓c185_12_s, ↓c185_10_s, ↓c185_22_s, ↓c185_21_s, ↓c185_20_s, ↓c185_19_s, ↓c185_24_s, ↓c185_23_s, ↓c185_18_s, ↓c185_17_s, ↓c185_16_s, ↓c185_9_s, ↓c185_8_s, ↓c185_7_s, ↓c185_26_s, ↓c185_25_s, ↓c185_6_s, ↓c185_5_s, ↓c185_3_s, ↓c185_33_s, ↓c185_32_s, ↓c185_31_s, ↓c185_30_s, ↓c185_35_s, ↓c185_34_s, ↓c185_29_s, ↓c185_28_s, ↓c185_27_s, ↓c185_2_s, ↓c185_1_s, ↓c185_s, ↓w3t_185, e0, e1, e2, e6, e7, e8, d1]
  refine hs _ fun w2 C hf2 hpC hsC h2 => ?_
  have lC : C.length = q := by rw [hpC.length_eq, lA]
  have hp2 : (L1.take (k * 20) ++ C ++ L1.drop n).Perm L := by
   refine List.Perm.trans ?_ hp1
   conv => { rhs; rw [hcut] }
   rw [hqn]
   exact List.Perm.append_right _ (List.Perm.append_left _ hpC)
  have l2 : (L1.take (k * 20) ++ C ++ L1.drop n).length = n := by rw [hp2.length_eq, hn]
  refine merges w2 _ _ (hf1.transM hf2) hp2 (fun t => ?_) h2 ?_ ?_ ?_ ?_
  ·by_cases htk : t < k
   ·rw [← hqn, seg_keep (by omega) lC (.inl (by omega))]; exact hr1 t htk
   ·by_cases htk2 : t = k
    ·subst htk2
     have := seg_new (L := L1) (a := t * 20) (k := q) (by omega) lC
     rw [hqn, seg_all (by omega)] at this
     rw [seg_all (by omega), this]; exact hsC
    ·rw [seg_none (by omega)]; exact SortL.nil
  ·simp (maxSteps:=9^7)(disch:=first|assumption|(simp only[dz];first|done|assumption|omega)|omega|apply_rules[Fr.refl,Fr.alloc,Fr.drew]|rfl) only [↓gsd,gs,gv,Nat.reduceAdd,Nat.reduceEqDiff, e0]
  ·simp (maxSteps:=9^7)(disch:=first|assumption|(simp only[dz];first|done|assumption|omega)|omega|apply_rules[Fr.refl,Fr.alloc,Fr.drew]|rfl) only [↓gsd,gs,gv,Nat.reduceAdd,Nat.reduceEqDiff, e1]
  ·simp (maxSteps:=9^7)(disch:=first|assumption|(simp only[dz];first|done|assumption|omega)|omega|apply_rules[Fr.refl,Fr.alloc,Fr.drew]|rfl) only [↓gsd,gs,gv,Nat.reduceAdd,Nat.reduceEqDiff, e2]
  ·simp (maxSteps:=9^7)(disch:=first|assumption|(simp only[dz];first|done|assumption|omega)|omega|apply_rules[Fr.refl,Fr.alloc,Fr.drew]|rfl) only [↓gsd,gs,gv,Nat.reduceAdd,Nat.reduceEqDiff, e6]
theorem sort_spec (hsw : SW lt) {L : List Nat} {w : World} {K : Value → World → Prop} (h : RowI w b L R) (hc : CmpAt b w fv n lt) (hn : L.length = n) (hlt : ∀ x ∈ L, x < n) (hb : n ≤ 100000000000)
  (hK : ∀ w' L', Fr [b] w w' → L'.Perm L → SortL lt L' → RowI w' b L' R → K (.tuple #[]) w') : CallsN Tryz.prog 145 [rowV b n cap, fv] w K := by
 have cw := cur w
 refine call145 ?_
 simp (maxSteps:=9^7)(disch:=first|assumption|(simp only[dz];first|done|assumption|omega)|omega|apply_rules[Fr.refl,Fr.alloc,Fr.drew]|rfl) only [↓gd,gp,Nat.reduceAdd,Nat.reduceEqDiff, ↓hk145]
 exact stable_spec hsw h hc hn hlt hb hK
end
end Go.Proofs.YtomlgkecckffeaaGreat
