/- The reference's log, within the reference's origin: Check, Append, From; Same, SameAll. -/
import Derived.Test.YtgloomahpjpiiaaGreatD5
import Derived.Test.YtgloomahpjpiiaaGreatPA
set_option linter.unusedVariables false
set_option linter.unusedSimpArgs false
set_option maxRecDepth 10000
namespace Go.Proofs.YtgloomahpjpiiaaGreat.Sm
open Go.VW
/-- What stands ahead of the log, and behind it, in its block. -/
structure P11 where
 a0 : Value
 a1 : Value
 a2 : Value
 a3 : Value
 a4 : Value
 a5 : Value
 a6 : Value
 a7 : Value
 a8 : Value
 a9 : Value
 a10 : Value
 qs : List Value
abbrev P11.cells (x : P11) (v : Value) : List Value := x.a0 :: x.a1 :: x.a2 :: x.a3 :: x.a4 :: x.a5 :: x.a6 :: x.a7 :: x.a8 :: x.a9 :: x.a10 :: v :: x.qs
theorem size0 {x : ByteArray} (h : x.size = 0) : x = ⟨#[]⟩ := by
 cases x with
 | mk d =>
   have : d.size = 0 := h
   rw [Array.eq_empty_of_size_eq_zero this]
theorem badK_iff (x : ByteArray) : badK x = true ↔ x.size < 1 ∨ 32 < x.size := by
 unfold badK
 simp only [Bool.or_eq_true, decide_eq_true_eq]
 constructor
 ·rintro (h | h)
  ·left; rw [h]; decide
  ·exact .inr h
 ·rintro (h | h)
  ·exact .inl (size0 (by omega))
  ·exact .inr h
theorem chkK_bad {ks : Ks} (h0 : ¬ (ks.length = 0 ∨ 8 < ks.length)) {x : ByteArray} (hx : x ∈ ks) (hb : badK x = true) : chkK ks = 1 := by
 unfold chkK
 rw [if_neg h0, if_pos (List.any_eq_true.2 ⟨x, hx, hb⟩)]
theorem chkK_end {ks : Ks} (h0 : ¬ (ks.length = 0 ∨ 8 < ks.length)) (hb : ∀ j y, j < ks.length → ks[j]? = some y → badK y = false) : chkK ks = if ks.Nodup then 0 else 22 := by
 unfold chkK
 have : ks.any badK = false := by
  rw [List.any_eq_false]
  intro x hx
  obtain ⟨j, hj⟩ := List.getElem?_of_mem hx
  rw [hb j x (List.getElem?_eq_some_iff.1 hj).1 hj]; simp
 rw [if_neg h0, if_neg (by simp [this])]
theorem nodup_of {ks : Ks} (h : ∀ j k y z, k < j → j < ks.length → ks[j]? = some y → ks[k]? = some z → z ≠ y) : ks.Nodup := by
 rw [List.Nodup, List.pairwise_iff_getElem]
 intro i j hi hj hij
 exact h j i _ _ hij hj (List.getElem?_eq_getElem hj) (List.getElem?_eq_getElem hi)
theorem not_nodup {ks : Ks} {j k : Nat} {y : ByteArray} (hkj : k < j) (hj : ks[j]? = some y) (hk : ks[k]? = some y) : ¬ ks.Nodup := by
 intro h
 rw [List.Nodup, List.pairwise_iff_getElem] at h
 obtain ⟨h1, h2⟩ := List.getElem?_eq_some_iff.1 hj
 obtain ⟨h3, h4⟩ := List.getElem?_eq_some_iff.1 hk
 exact h k j h3 h1 hkj (by rw [h2, h4])
set_option maxHeartbeats 8000000 in
theorem rcheck_spec {w : World} {v : Value} {ks : Ks} {K : Value → World → Prop} (h : SlOf 1 encS w v ks) (hl : ks.length ≤ 9223372036854775807)
  (hK : ∀ w', Fr [] w w' → K (.int .i64 (chkK ks)) w') : CallsN Tryz.prog 94 [v] w K := by
 have cw := cur w
 obtain ⟨a, c, hv⟩ := SlOf.form h
 refine call94 ?_
 by_cases hA : ks.length = 0 ∨ 8 < ks.length
 ·have hc : chkK ks = 1 := by unfold chkK; rw [if_pos hA]
  rw [hc] at hK
  by_cases h0 : ks.length = 0
  ·have d0 : decide ((ks.length : Int) < 1) = true := decide_eq_true (by omega)
   simp (maxSteps:=4000000)(disch:=first|assumption|(simp only[dz];first|done|assumption|omega)|omega|apply_rules[Fr.refl,Fr.alloc,Fr.drew]|rfl) only [↓gd,gp,Nat.reduceAdd,Nat.reduceEqDiff, ↓hk94, hv, d0]
   exact hK _ (Fr.refl _ _)
  ·have d0 : decide ((ks.length : Int) < 1) = false := decide_eq_false (by omega)
   have d1 : decide ((8 : Int) < (ks.length : Int)) = true := decide_eq_true (by omega)
   simp (maxSteps:=4000000)(disch:=first|assumption|(simp only[dz];first|done|assumption|omega)|omega|apply_rules[Fr.refl,Fr.alloc,Fr.drew]|rfl) only [↓gd,gp,Nat.reduceAdd,Nat.reduceEqDiff, ↓hk94, hv, d0, d1]
   exact hK _ (Fr.refl _ _)
 have d0 : decide ((ks.length : Int) < 1) = false := decide_eq_false (by omega)
 have d1 : decide ((8 : Int) < (ks.length : Int)) = false := decide_eq_false (by omega)
 simp (maxSteps:=4000000)(disch:=first|assumption|(simp only[dz];first|done|assumption|omega)|omega|apply_rules[Fr.refl,Fr.alloc,Fr.drew]|rfl) only [↓gd,gp,Nat.reduceAdd,Nat.reduceEqDiff, ↓hk94, hv, d0, d1]
 rw [← hv]
 refine loop_intro (fun e w' => ∃ i : Nat, i ≤ ks.length ∧ e 0 = v ∧ e 3 = .int .i64 i ∧ (∀ j y, j < i → ks[j]? = some y → badK y = false) ∧ Fr [] w w')
  (fun e _ => ks.length - (numOf (e 3)).toNat) ?_ ?_
 ·refine ⟨0, Nat.zero_le _, ?_⟩
  simp (maxSteps:=4000000)(disch:=first|assumption|(simp only[dz];first|done|assumption|omega)|omega|apply_rules[Fr.refl,Fr.alloc,Fr.drew]|rfl) only [↓gsd,gs,gv,Nat.reduceAdd,Nat.reduceEqDiff, Int.natCast_zero]
  exact ⟨fun j y hj => absurd hj (by omega), Fr.refl _ _⟩
 rintro e w1 k ⟨i, hi, e0, e3, hno, hf⟩ hk
 have cw1 := cur w1
 have hz1 := hf.size
 by_cases hlt : i < ks.length
 ·have el : decide ((i : Int) < (ks.length : Int)) = true := decide_eq_true (by omega)
  have i0 : (0 : Int) ≤ (i : Int) := by omega
  have i1 : (i : Int) < (ks.length : Int) := by omega
  have i3 : ((i : Int) + 1).toNat = i + 1 := by omega
  obtain ⟨x, hx⟩ : ∃ x, ks[i]? = some x := ⟨ks[i], List.getElem?_eq_getElem hlt⟩
  obtain ⟨b, off, cap, o, hvb, hob, hbl, _, hcell⟩ := (h.frN hf).read encS_len i x hx
  have hc0 := fun orig K => hcell 0 (.string x) orig K rfl
  simp only [Nat.add_zero, Nat.mul_one] at hc0
  by_cases q1 : x.size < 1
  ·have dq : decide ((x.size : Int) < 1) = true := decide_eq_true (by omega)
   rw [chkK_bad hA (List.mem_of_getElem? hx) ((badK_iff x).2 (.inl q1))] at hK
   simp (maxSteps:=4000000)(disch:=first|assumption|(simp only[dz];first|done|assumption|omega)|omega|apply_rules[Fr.refl,Fr.alloc,Fr.drew]|rfl) only [↓gd,gp,Nat.reduceAdd,Nat.reduceEqDiff, ↓hk94, e0, e3, el, hvb, i0, i1, Int.toNat_natCast, Nat.mul_one, hob, hc0, dq]
   exact hK _ hf
  have dq : decide ((x.size : Int) < 1) = false := decide_eq_false (by omega)
  by_cases q2 : 32 < x.size
  ·have dq2 : decide ((32 : Int) < (x.size : Int)) = true := decide_eq_true (by omega)
   rw [chkK_bad hA (List.mem_of_getElem? hx) ((badK_iff x).2 (.inr q2))] at hK
   simp (maxSteps:=4000000)(disch:=first|assumption|(simp only[dz];first|done|assumption|omega)|omega|apply_rules[Fr.refl,Fr.alloc,Fr.drew]|rfl) only [↓gd,gp,Nat.reduceAdd,Nat.reduceEqDiff, ↓hk94, e0, e3, el, hvb, i0, i1, Int.toNat_natCast, Nat.mul_one, hob, hc0, dq, dq2]
   exact hK _ hf
  have dq2 : decide ((32 : Int) < (x.size : Int)) = false := decide_eq_false (by omega)
  simp (maxSteps:=4000000)(disch:=first|assumption|(simp only[dz];first|done|assumption|omega)|omega|apply_rules[Fr.refl,Fr.alloc,Fr.drew]|rfl) only [↓gd,gp,Nat.reduceAdd,Nat.reduceEqDiff, ↓hk94, e0, e3, el, hvb, i0, i1, Int.toNat_natCast, Nat.mul_one, hob, hc0, dq, dq2]
  refine hk _ _ ⟨i + 1, by omega, ?_⟩ ?_
  ·simp (maxSteps:=4000000)(disch:=first|assumption|(simp only[dz];first|done|assumption|omega)|omega|apply_rules[Fr.refl,Fr.alloc,Fr.drew]|rfl) only [↓gsd,gs,gv,Nat.reduceAdd,Nat.reduceEqDiff, e0, e3, hvb, Int.natCast_add, Int.natCast_one]
   refine ⟨fun j y hj hy => ?_, hf⟩
   by_cases hji : j = i
   ·subst hji; rw [hx] at hy; cases hy
    cases hb : badK x with
    | false => rfl
    | true => exact absurd ((badK_iff x).1 hb) (by omega)
   ·exact hno j y (by omega) hy
  ·simp (maxSteps:=4000000)(disch:=first|assumption|(simp only[dz];first|done|assumption|omega)|omega|apply_rules[Fr.refl,Fr.alloc,Fr.drew]|rfl) only [↓gsd,gs,gv,Nat.reduceAdd,Nat.reduceEqDiff, e3, numOf, Int.toNat_natCast, i3]; omega
 have el : decide ((i : Int) < (ks.length : Int)) = false := decide_eq_false (by omega)
 have hend := chkK_end hA (fun j y hj => hno j y (by omega))
 rw [hend] at hK
 simp (maxSteps:=4000000)(disch:=first|assumption|(simp only[dz];first|done|assumption|omega)|omega|apply_rules[Fr.refl,Fr.alloc,Fr.drew]|rfl) only [↓gd,gp,Nat.reduceAdd,Nat.reduceEqDiff, ↓hk94, e0, e3, hv, el]
 refine loop_intro (fun e w' => ∃ i : Nat, i ≤ ks.length ∧ e 0 = v ∧ e 4 = .int .i64 i ∧ (∀ j k y z, k < j → j < i → ks[j]? = some y → ks[k]? = some z → z ≠ y) ∧ Fr [] w w')
  (fun e _ => ks.length - (numOf (e 4)).toNat) ?_ ?_
 ·refine ⟨0, Nat.zero_le _, ?_⟩
  simp (maxSteps:=4000000)(disch:=first|assumption|(simp only[dz];first|done|assumption|omega)|omega|apply_rules[Fr.refl,Fr.alloc,Fr.drew]|rfl) only [↓gsd,gs,gv,Nat.reduceAdd,Nat.reduceEqDiff, e0, Int.natCast_zero]
  exact ⟨fun j k y z _ hj => absurd hj (by omega), hf⟩
 rintro e w2 k ⟨i, hi, e0, e4, hno2, hf2⟩ hk
 have cw2 := cur w2
 by_cases hlt : i < ks.length
 ·have el : decide ((i : Int) < (ks.length : Int)) = true := decide_eq_true (by omega)
  have i0 : (0 : Int) ≤ (i : Int) := by omega
  have i1 : (i : Int) < (ks.length : Int) := by omega
  have i3 : ((i : Int) + 1).toNat = i + 1 := by omega
  obtain ⟨x, hx⟩ : ∃ x, ks[i]? = some x := ⟨ks[i], List.getElem?_eq_getElem hlt⟩
  have E4 := e4
  simp (maxSteps:=4000000)(disch:=first|assumption|(simp only[dz];first|done|assumption|omega)|omega|apply_rules[Fr.refl,Fr.alloc,Fr.drew]|rfl) only [↓gd,gp,Nat.reduceAdd,Nat.reduceEqDiff, ↓hk94, e0, e4, el, hv]
  refine loop_intro (fun e w' => ∃ j : Nat, j ≤ i ∧ e 0 = v ∧ e 4 = .int .i64 i ∧ e 5 = .int .i64 j ∧ (∀ k z, k < j → ks[k]? = some z → z ≠ x) ∧ Fr [] w w')
   (fun e _ => i - (numOf (e 5)).toNat) ?_ ?_
  ·refine ⟨0, Nat.zero_le _, ?_⟩
   simp (maxSteps:=4000000)(disch:=first|assumption|(simp only[dz];first|done|assumption|omega)|omega|apply_rules[Fr.refl,Fr.alloc,Fr.drew]|rfl) only [↓gsd,gs,gv,Nat.reduceAdd,Nat.reduceEqDiff, e0, e4, Int.natCast_zero]
   exact ⟨fun k z hj => absurd hj (by omega), hf2⟩
  rintro e w3 k' ⟨j, hj, e0, e4, e5, hno3, hf3⟩ hk'
  have cw3 := cur w3
  by_cases hjl : j < i
  ·have dj : decide ((j : Int) < (i : Int)) = true := decide_eq_true (by omega)
   have j0 : (0 : Int) ≤ (j : Int) := by omega
   have j1 : (j : Int) < (ks.length : Int) := by omega
   have j3 : ((j : Int) + 1).toNat = j + 1 := by omega
   obtain ⟨y, hy⟩ : ∃ y, ks[j]? = some y := ⟨ks[j]'(by omega), List.getElem?_eq_getElem (by omega)⟩
   obtain ⟨b, off, cap, o, hvb, hob, hbl, _, hcell⟩ := (h.frN hf3).read encS_len i x hx
   have hc0 := fun orig K => hcell 0 (.string x) orig K rfl
   simp only [Nat.add_zero, Nat.mul_one] at hc0
   obtain ⟨b2, off2, cap2, o2, hvb2, hob2, hbl2, _, hcell2⟩ := (h.frN hf3).read encS_len j y hy
   have hc2 := fun orig K => hcell2 0 (.string y) orig K rfl
   simp only [Nat.add_zero, Nat.mul_one] at hc2
   rw [hvb] at hvb2
   simp only [Value.slice.injEq, Option.some.injEq, Addr.mk.injEq] at hvb2
   obtain ⟨⟨rfl, rfl, _⟩, _, rfl⟩ := hvb2
   have : o = o2 := Option.some.inj (hob.symm.trans hob2)
   subst this
   by_cases hyx : y = x
   ·have dy : decide (y = x) = true := decide_eq_true hyx
    subst hyx
    rw [if_neg (not_nodup hjl hx hy)] at hK
    simp (maxSteps:=4000000)(disch:=first|assumption|(simp only[dz];first|done|assumption|omega)|omega|apply_rules[Fr.refl,Fr.alloc,Fr.drew]|rfl) only [↓gd,gp,Nat.reduceAdd,Nat.reduceEqDiff, ↓hk94, e0, e4, e5, dj, hvb, i0, i1, j0, j1, Int.toNat_natCast, Nat.mul_one, hob, hc0, hc2, dy]
    exact hK _ hf3.drew
   ·have dy : decide (y = x) = false := decide_eq_false hyx
    simp (maxSteps:=4000000)(disch:=first|assumption|(simp only[dz];first|done|assumption|omega)|omega|apply_rules[Fr.refl,Fr.alloc,Fr.drew]|rfl) only [↓gd,gp,Nat.reduceAdd,Nat.reduceEqDiff, ↓hk94, e0, e4, e5, dj, hvb, i0, i1, j0, j1, Int.toNat_natCast, Nat.mul_one, hob, hc0, hc2, dy]
    refine hk' _ _ ⟨j + 1, by omega, ?_⟩ ?_
    ·simp (maxSteps:=4000000)(disch:=first|assumption|(simp only[dz];first|done|assumption|omega)|omega|apply_rules[Fr.refl,Fr.alloc,Fr.drew]|rfl) only [↓gsd,gs,gv,Nat.reduceAdd,Nat.reduceEqDiff, e0, e4, e5, hvb, Int.natCast_add, Int.natCast_one]
     refine ⟨fun k z hkj hz => ?_, hf3.drew⟩
     by_cases hkj' : k = j
     ·subst hkj'; rw [hy] at hz; cases hz; exact hyx
     ·exact hno3 k z (by omega) hz
    ·simp (maxSteps:=4000000)(disch:=first|assumption|(simp only[dz];first|done|assumption|omega)|omega|apply_rules[Fr.refl,Fr.alloc,Fr.drew]|rfl) only [↓gsd,gs,gv,Nat.reduceAdd,Nat.reduceEqDiff, e5, numOf, Int.toNat_natCast, j3]; omega
  ·have dj : decide ((j : Int) < (i : Int)) = false := decide_eq_false (by omega)
   simp (maxSteps:=4000000)(disch:=first|assumption|(simp only[dz];first|done|assumption|omega)|omega|apply_rules[Fr.refl,Fr.alloc,Fr.drew]|rfl) only [↓gd,gp,Nat.reduceAdd,Nat.reduceEqDiff, ↓hk94, e0, e4, e5, dj]
   refine hk _ _ ⟨i + 1, by omega, ?_⟩ ?_
   ·simp (maxSteps:=4000000)(disch:=first|assumption|(simp only[dz];first|done|assumption|omega)|omega|apply_rules[Fr.refl,Fr.alloc,Fr.drew]|rfl) only [↓gsd,gs,gv,Nat.reduceAdd,Nat.reduceEqDiff, e0, e4, e5, Int.natCast_add, Int.natCast_one]
    refine ⟨fun j' k y z hkj hj' hy hz => ?_, hf3⟩
    by_cases hji : j' = i
    ·subst hji; rw [hx] at hy; cases hy
     exact hno3 k z (by omega) hz
    ·exact hno2 j' k y z hkj (by omega) hy hz
   ·simp (maxSteps:=4000000)(disch:=first|assumption|(simp only[dz];first|done|assumption|omega)|omega|apply_rules[Fr.refl,Fr.alloc,Fr.drew]|rfl) only [↓gsd,gs,gv,Nat.reduceAdd,Nat.reduceEqDiff, e4, E4, numOf, Int.toNat_natCast, i3]; omega
 ·have el : decide ((i : Int) < (ks.length : Int)) = false := decide_eq_false (by omega)
  rw [if_pos (nodup_of fun j k y z hkj hj => hno2 j k y z hkj (by omega))] at hK
  simp (maxSteps:=4000000)(disch:=first|assumption|(simp only[dz];first|done|assumption|omega)|omega|apply_rules[Fr.refl,Fr.alloc,Fr.drew]|rfl) only [↓gd,gp,Nat.reduceAdd,Nat.reduceEqDiff, ↓hk94, e0, e4, hv, el]
  exact hK _ hf2
theorem same_true {r r' : Rc} {ks : Ks} {w : World} {K : Value → World → Prop} (hn : r.n = r'.n) (h : SlOf 1 encS w r.kv ks) (h' : SlOf 1 encS w r'.kv ks) (hl : ks.length ≤ 9223372036854775807)
  (hK : ∀ w', Fr [] w w' → K (.bool true) w') : CallsN Tryz.prog 38 [r.v, r'.v] w K := by
 have cw := cur w
 obtain ⟨n, a, l, c⟩ := r
 obtain ⟨n', a', l', c'⟩ := r'
 simp only at hn
 subst hn
 obtain ⟨_, _, e1⟩ := SlOf.form h
 obtain ⟨_, _, e2⟩ := SlOf.form h'
 simp only [Rc.kv, Value.slice.injEq] at e1 e2
 obtain ⟨rfl, rfl, rfl⟩ := e1
 obtain ⟨rfl, e2, rfl⟩ := e2
 subst e2
 simp only [Rc.kv] at h h'
 refine call38 ?_
 unfold Rc.v encRc
 simp (maxSteps:=4000000)(disch:=first|assumption|(simp only[dz];first|done|assumption|omega)|omega|apply_rules[Fr.refl,Fr.alloc,Fr.drew]|rfl) only [↓gd,gp,Nat.reduceAdd,Nat.reduceEqDiff, ↓hk38]
 refine loop_intro (fun e w' => ∃ i : Nat, i ≤ ks.length ∧ e 2 = .pointer (some ⟨w.heap.size, 0, none⟩) ∧ e 3 = .pointer (some ⟨w.heap.size + 1, 0, none⟩) ∧ e 5 = .int .i64 i ∧
   w'.heap[w.heap.size]? = some (.cells ([.int .i64 n, .slice a ks.length c] : List Value).toArray 86 (0, 0)) ∧ w'.heap[w.heap.size + 1]? = some (.cells ([.int .i64 n, .slice a' ks.length c'] : List Value).toArray 86 (0, 0)) ∧ Fr [] w w')
  (fun e _ => ks.length - (numOf (e 5)).toNat) ?_ ?_
 ·refine ⟨0, Nat.zero_le _, ?_⟩
  simp (maxSteps:=4000000)(disch:=first|assumption|(simp only[dz];first|done|assumption|omega)|omega|apply_rules[Fr.refl,Fr.alloc,Fr.drew]|rfl) only [↓gsd,gs,gv,Nat.reduceAdd,Nat.reduceEqDiff, Int.natCast_zero]
  (repeat (first | exact Fr.refl _ _ | assumption | with_reducible apply Fr.alloc | with_reducible apply Fr.drew | with_reducible refine Fr.setB ?_ _ _ (.inr (by first | omega | (simp only [gz]; omega))) | with_reducible refine Fr.setB ?_ _ _ (.inl (by first | assumption | simp)) | with_reducible refine Fr.trans' ?_ (by assumption)))
 rintro e w1 k ⟨i, hi, e2, e3, e5, g2, g3, hf⟩ hk
 have cw1 := cur w1
 have hz1 := hf.size
 have hlt2 := lt_of_get _ _ g2
 have hlt3 := lt_of_get _ _ g3
 by_cases hil : i < ks.length
 ·have d : decide ((i : Int) < (ks.length : Int)) = true := decide_eq_true (by omega)
  obtain ⟨s, hs⟩ : ∃ s, ks[i]? = some s := ⟨ks[i], List.getElem?_eq_getElem hil⟩
  obtain ⟨b1, o1, p1, ob1, hv1, hb1, _, _, hc1⟩ := (h.frN hf).read encS_len i s hs
  obtain ⟨b2, o2, p2, ob2, hv2, hb2, _, _, hc2⟩ := (h'.frN hf).read encS_len i s hs
  simp only [Value.slice.injEq] at hv1 hv2
  obtain ⟨rfl, _, rfl⟩ := hv1
  obtain ⟨rfl, _, rfl⟩ := hv2
  have hd1 := fun orig K => hc1 0 (.string s) orig K rfl
  have hd2 := fun orig K => hc2 0 (.string s) orig K rfl
  simp only [Nat.mul_one, Nat.add_zero] at hd1 hd2
  have i0 : (0 : Int) ≤ (i : Int) := by omega
  have i1 : (i : Int) < (ks.length : Int) := by omega
  have i3 : ((i : Int) + 1).toNat = i + 1 := by omega
  simp (maxSteps:=4000000)(disch:=first|assumption|(simp only[dz];first|done|assumption|omega)|omega|apply_rules[Fr.refl,Fr.alloc,Fr.drew]|rfl) only [↓gd,gp,Nat.reduceAdd,Nat.reduceEqDiff, ↓hk38, e2, e3, e5, g2, g3, d, i0, i1, Int.toNat_natCast, Nat.mul_one, hb1, hb2, hd1, hd2]
  refine hk _ _ ⟨i + 1, by omega, ?_⟩ ?_
  ·simp (maxSteps:=4000000)(disch:=first|assumption|(simp only[dz];first|done|assumption|omega)|omega|apply_rules[Fr.refl,Fr.alloc,Fr.drew]|rfl) only [↓gsd,gs,gv,Nat.reduceAdd,Nat.reduceEqDiff, e2, e3, e5, g2, g3, Int.natCast_add, Int.natCast_one]
   exact hf.drew
  ·simp (maxSteps:=4000000)(disch:=first|assumption|(simp only[dz];first|done|assumption|omega)|omega|apply_rules[Fr.refl,Fr.alloc,Fr.drew]|rfl) only [↓gsd,gs,gv,Nat.reduceAdd,Nat.reduceEqDiff, e5, numOf, Int.toNat_natCast, i3]; omega
 ·have d : decide ((i : Int) < (ks.length : Int)) = false := decide_eq_false (by omega)
  simp (maxSteps:=4000000)(disch:=first|assumption|(simp only[dz];first|done|assumption|omega)|omega|apply_rules[Fr.refl,Fr.alloc,Fr.drew]|rfl) only [↓gd,gp,Nat.reduceAdd,Nat.reduceEqDiff, ↓hk38, e2, e3, e5, g2, g3, d]
  exact hK _ hf
theorem sameAll_true {va vb : Value} {xs : List (Int × Ks)} {R1 R2 Q1 Q2 : Nat → Prop} {w : World} {K : Value → World → Prop} (ha : RcsAt w R1 R2 va xs) (hb : RcsAt w Q1 Q2 vb xs) (hm : xs.length ≤ 9223372036854775806) (hx : ∀ x ∈ xs, x.2.length ≤ 8)
  (hK : ∀ w', Fr [] w w' → K (.bool true) w') : CallsN Tryz.prog 13 [va, vb] w K := by
 have cw := cur w
 obtain ⟨⟨rs, hown, hrl, hat⟩, _⟩ := ha
 obtain ⟨⟨rs', hown', hrl', hat'⟩, _⟩ := hb
 obtain ⟨aa, ac, hva⟩ := hown.sl.form
 obtain ⟨ba, bc, hvb⟩ := hown'.sl.form
 have d0 : decide ((rs.length : Int) = (rs'.length : Int)) = true := decide_eq_true (by omega)
 refine call13 ?_
 simp (maxSteps:=4000000)(disch:=first|assumption|(simp only[dz];first|done|assumption|omega)|omega|apply_rules[Fr.refl,Fr.alloc,Fr.drew]|rfl) only [↓gd,gp,Nat.reduceAdd,Nat.reduceEqDiff, ↓hk13, hva, hvb, d0]
 rw [← hva, ← hvb]
 refine loop_intro (fun e w' => ∃ i : Nat, i ≤ rs.length ∧ e 0 = va ∧ e 1 = vb ∧ e 5 = .int .i64 i ∧ Fr [] w w')
  (fun e _ => rs.length - (numOf (e 5)).toNat) ?_ ?_
 ·refine ⟨0, Nat.zero_le _, ?_⟩
  simp (maxSteps:=4000000)(disch:=first|assumption|(simp only[dz];first|done|assumption|omega)|omega|apply_rules[Fr.refl,Fr.alloc,Fr.drew]|rfl) only [↓gsd,gs,gv,Nat.reduceAdd,Nat.reduceEqDiff, Int.natCast_zero]
  (repeat (first | exact Fr.refl _ _ | assumption | with_reducible apply Fr.alloc | with_reducible apply Fr.drew | with_reducible refine Fr.setB ?_ _ _ (.inr (by first | omega | (simp only [gz]; omega))) | with_reducible refine Fr.setB ?_ _ _ (.inl (by first | assumption | simp)) | with_reducible refine Fr.trans' ?_ (by assumption)))
 rintro e w1 k ⟨i, hi, e0, e1, e5, hf⟩ hk
 have cw1 := cur w1
 have hz1 := hf.size
 by_cases hil : i < rs.length
 ·have d : decide ((i : Int) < (rs.length : Int)) = true := decide_eq_true (by omega)
  obtain ⟨r, hr⟩ : ∃ r, rs[i]? = some r := ⟨rs[i], List.getElem?_eq_getElem hil⟩
  obtain ⟨r', hr'⟩ : ∃ r', rs'[i]? = some r' := ⟨rs'[i]'(by omega), List.getElem?_eq_getElem (by omega)⟩
  obtain ⟨x, hxi⟩ : ∃ x, xs[i]? = some x := ⟨xs[i]'(by omega), List.getElem?_eq_getElem (by omega)⟩
  obtain ⟨b1, o1, p1, ob1, hv1, hb1, _, hw1, hc1⟩ := (show SlOf 2 encRc w1 va rs from hown.sl.frN hf).read encRc_len i r hr
  obtain ⟨b2, o2, p2, ob2, hv2, hb2, _, hw2, hc2⟩ := (show SlOf 2 encRc w1 vb rs' from hown'.sl.frN hf).read encRc_len i r' hr'
  obtain ⟨q1, q2, _⟩ := hat i r x hr hxi
  obtain ⟨p1, p2, _⟩ := hat' i r' x hr' hxi
  have hx8 := hx x (List.mem_of_getElem? hxi)
  have i0 : (0 : Int) ≤ (i : Int) := by omega
  have i1 : (i : Int) < (rs.length : Int) := by omega
  have i2 : (i : Int) < (rs'.length : Int) := by omega
  have i3 : ((i : Int) + 1).toNat = i + 1 := by omega
  simp (maxSteps:=4000000)(disch:=first|assumption|(simp only[dz];first|done|assumption|omega)|omega|apply_rules[Fr.refl,Fr.alloc,Fr.drew]|rfl) only [↓gd,gp,Nat.reduceAdd,Nat.reduceEqDiff, ↓hk13, e0, e1, e5, hv1, hv2, d, i0, i1, i2, Int.toNat_natCast, hb1, hb2, hw1, hw2]
  refine same_true (r := r) (r' := r') (ks := x.2) (by rw [q1, p1]) (((show SlOf 1 encS w r.kv x.2 from q2.sl).frN hf).frN (Fr.refl _ _).drew) (((show SlOf 1 encS w r'.kv x.2 from p2.sl).frN hf).frN (Fr.refl _ _).drew) (by omega) fun w2 hf2 => ?_
  have cw2 := cur w2
  have hz2 := hf2.size
  simp (maxSteps:=4000000)(disch:=first|assumption|(simp only[dz];first|done|assumption|omega)|omega|apply_rules[Fr.refl,Fr.alloc,Fr.drew]|rfl) only [↓gd,gp,Nat.reduceAdd,Nat.reduceEqDiff, eq_true hf2, ↓hk13, e0, e1, e5]
  refine hk _ _ ⟨i + 1, by omega, ?_⟩ ?_
  ·simp (maxSteps:=4000000)(disch:=first|assumption|(simp only[dz];first|done|assumption|omega)|omega|apply_rules[Fr.refl,Fr.alloc,Fr.drew]|rfl) only [↓gsd,gs,gv,Nat.reduceAdd,Nat.reduceEqDiff, e0, e1, e5, hv1, hv2, Int.natCast_add, Int.natCast_one]
   exact hf.trans' ((Fr.refl _ _).drew.trans' hf2)
  ·simp (maxSteps:=4000000)(disch:=first|assumption|(simp only[dz];first|done|assumption|omega)|omega|apply_rules[Fr.refl,Fr.alloc,Fr.drew]|rfl) only [↓gsd,gs,gv,Nat.reduceAdd,Nat.reduceEqDiff, e5, numOf, Int.toNat_natCast, i3]; omega
 ·have d : decide ((i : Int) < (rs.length : Int)) = false := decide_eq_false (by omega)
  simp (maxSteps:=4000000)(disch:=first|assumption|(simp only[dz];first|done|assumption|omega)|omega|apply_rules[Fr.refl,Fr.alloc,Fr.drew]|rfl) only [↓gd,gp,Nat.reduceAdd,Nat.reduceEqDiff, ↓hk13, e0, e1, e5, hva, d]
  exact hK _ hf
/-- What the reference's Append answers. -/
def rappL (L : List Ks) (ks : Ks) : (Int × Int) × List Ks := if chkK ks ≠ 0 then ((0, chkK ks), L) else (((L.length : Int) + 1, 0), L ++ [ks])
theorem recsL_app (L : List Ks) (ks : Ks) : recsL (L ++ [ks]) = recsL L ++ [((L.length : Int) + 1, ks)] := by
 apply List.ext_getElem?
 intro i
 rw [recsL_get]
 by_cases hi : i < L.length
 ·rw [List.getElem?_append_left hi, List.getElem?_append_left (by rw [recsL_len]; exact hi), recsL_get]
 ·by_cases h2 : i = L.length
  ·subst h2
   rw [List.getElem?_concat_length]
   have := List.getElem?_concat_length (l := recsL L) (a := ((L.length : Int) + 1, ks))
   rw [recsL_len] at this
   rw [this]; rfl
  ·rw [List.getElem?_eq_none (by simp; omega), List.getElem?_eq_none (by simp [recsL_len]; omega)]; rfl
set_option maxHeartbeats 8000000 in
theorem rappend_log {w : World} {rb : Nat} {X : P11} {vl : Value} {Rd : List Nat} {L : List Ks} {va : Value} {ks : Ks} {K : Value → World → Prop} (hh0 : w.heap[rb]? = some (.cells (X.cells vl).toArray 52 (0, 0))) (hr0 : RcsAt w (· ∈ Rd) (· ∈ blkL vl) vl (recsL L)) (ha : SlOf 1 encS w va ks) (hl : ks.length ≤ 9223372036854775807) (hL : L.length + 1 ≤ 2000000000000)
  (hK : ∀ (vl' : Value) (w' : World) (Rd' : List Nat), w'.heap[rb]? = some (.cells (X.cells vl').toArray 52 (0, 0)) → RcsAt w' (· ∈ Rd') (· ∈ blkL vl') vl' (recsL (rappL L ks).2) → Fr (rb :: blkL vl) w w' → (∀ x ∈ blkL vl', x ∈ blkL vl ∨ w.heap.size ≤ x) → (∀ x ∈ Rd', x ∈ Rd ∨ (w.heap.size ≤ x ∧ x < w'.heap.size)) → K (.tuple ([.int .i64 (rappL L ks).1.1, .int .i64 (rappL L ks).1.2] : List Value).toArray) w') :
  CallsN Tryz.prog 68 [.pointer (some ⟨rb, 11, none⟩), va] w K := by
 have cw := cur w
 refine call68 ?_
 simp (maxSteps:=4000000)(disch:=first|assumption|(simp only[dz];first|done|assumption|omega)|omega|apply_rules[Fr.refl,Fr.alloc,Fr.drew]|rfl) only [↓gd,gp,Nat.reduceAdd,Nat.reduceEqDiff, ↓hk68]
 refine rcheck_spec ha hl fun w1 hf1 => ?_
 have cw1 := cur w1
 have hz1 := hf1.size
 have hfW : Fr (rb :: blkL vl) w w1 := Fr.trans (M' := []) (Fr.refl _ w) hf1 (by simp)
 have hh := hf1.getN hh0
 have hr := hr0.frN hf1
 by_cases hc : chkK ks = 0
 case neg =>
  have d0 : decide (chkK ks = 0) = false := decide_eq_false hc
  have e : rappL L ks = ((0, chkK ks), L) := by unfold rappL; rw [if_pos hc]
  rw [e] at hK
  simp (maxSteps:=4000000)(disch:=first|assumption|(simp only[dz];first|done|assumption|omega)|omega|apply_rules[Fr.refl,Fr.alloc,Fr.drew]|rfl) only [↓gd,gp,Nat.reduceAdd,Nat.reduceEqDiff, ↓hk68, d0]
  exact hK vl w1 Rd hh hr hfW (fun x hx => .inl hx) (fun x hx => .inl hx)
 have e : rappL L ks = (((L.length : Int) + 1, 0), L ++ [ks]) := by unfold rappL; rw [if_neg (by simp [hc])]
 rw [e] at hK
 rw [hc]
 obtain ⟨q1, q2, q3⟩ := chkK_ok hc
 have hlt := lt_of_get _ _ hh
 obtain ⟨la, lc, hv⟩ := hr.form
 rw [recsL_len] at hv
 obtain ⟨v2, w2, hr2, hown2, hf2, hbk2⟩ := ap38 (ty := 38) (Own.nil (k := 1) (e := 9) (w := w1)) (ha.frN hf1) (cells_oneC (enc := encS) (fun _ => rfl) ks) (by omega)
 have cw2 := cur w2
 have hz2 := hf2.size
 have hf2N : Fr [] w1 w2 := hf2.trans (M' := []) (Fr.refl _ _) (by simp) |>.mono (by simp [blkL, Value.ownBlock])
 have hfr2 : ∀ b, v2.ownBlock = some b → w1.heap.size ≤ b := fun b hb => by
  rcases hbk2 with e | ⟨b', e1, e2⟩
  ·rw [e] at hb; simp [Value.ownBlock] at hb
  ·rw [e1] at hb; cases hb; exact e2
 simp only [List.nil_append, Nat.zero_add] at hown2
 obtain ⟨r, hr1, hr2'⟩ := Rc.form hown2 ((L.length : Int) + 1)
 have hh2 := hf2N.getN hh
 have hlt2 := lt_of_get _ _ hh2
 have hh2' := hh2
 rw [hv] at hh2'
 have wr : IntKind.i64.wrap ((L.length : Int) + 1) = (L.length : Int) + 1 := wrap64 (by omega) (by omega)
 have hkv : v2 = .slice r.a r.l r.c := hr2'.symm
 rw [hkv] at hr2
 simp (maxSteps:=4000000)(disch:=first|assumption|(simp only[dz];first|done|assumption|omega)|omega|apply_rules[Fr.refl,Fr.alloc,Fr.drew]|rfl) only [↓gd,gp,Nat.reduceAdd,Nat.reduceEqDiff, ↓hk68, hr2, hh2', wr]
 generalize hW : World.alloc w2 _ = w3
 have hf3 : Fr [] w2 w3 := by rw [← hW]; (repeat (first | exact Fr.refl _ _ | assumption | with_reducible apply Fr.alloc | with_reducible apply Fr.drew | with_reducible refine Fr.setB ?_ _ _ (.inr (by first | omega | (simp only [gz]; omega))) | with_reducible refine Fr.setB ?_ _ _ (.inl (by first | assumption | simp)) | with_reducible refine Fr.trans' ?_ (by assumption)))
 have hz3 : w3.heap.size = w2.heap.size + 1 := by rw [← hW]; simp only [gz]
 have hsl : Sl 2 w3 (.slice (some ⟨w2.heap.size, 0, none⟩) 1 1) 1 (encRc r) := by
  rw [← hW, ← hr1]
  exact ⟨rfl, .inr ⟨w2.heap.size, 0, 1, (encRc r).toArray, 86, (0, 0), rfl, get_alloc_new _ _, rfl⟩⟩
 clear hW
 have cw3 := cur w3
 have hrc3 : RcIs w3 (fun b => b ∈ Rd ++ blkL v2) r ((L.length : Int) + 1, ks) := ⟨hr1, by rw [hr2']; exact Go.Proofs.YtgloomahpjpiiaaGreat.Sm.Own.frN hown2 hf3, fun b hb => by rw [hr2'] at hb; exact List.mem_append_right _ (mem_blkL.2 hb)⟩
 obtain ⟨v4, w4, hr4, hrs4, hf4⟩ := RcsAt.app (R' := fun b => b ∈ blkL vl ∨ w3.heap.size ≤ b) (((hr.frN hf2N).frN hf3).mono (fun b hb => List.mem_append_left _ hb) (fun b hb => .inl hb)) hrc3 (by rw [recsL_len]; omega) hsl (fun b hb => .inr hb)
 have cw4 := cur w4
 have hz4 := hf4.size
 obtain ⟨a4, c4, hv4⟩ := hrs4.form
 rw [← recsL_app, recsL_len] at hv4
 rw [hv, hv4] at hr4
 have hh3 := hf3.getN hh2
 have hrc := hr
 obtain ⟨⟨rs0, ho0, hol0, _⟩, _⟩ := hrc
 have ho3 : Own 2 86 w3 vl rs0.length _ := (ho0.frN hf2N).frN hf3
 have hnb : rb ∉ blkL vl := fun hm => own_head ho3 hh3 (by decide) (mem_blkL.1 hm)
 have hh4 := hf4.get hh3 hnb
 have hlt4 := lt_of_get _ _ hh4
 rw [hv] at hh4
 simp (maxSteps:=4000000)(disch:=first|assumption|(simp only[dz];first|done|assumption|omega)|omega|apply_rules[Fr.refl,Fr.alloc,Fr.drew]|rfl) only [↓gd,gp,Nat.reduceAdd,Nat.reduceEqDiff, ↓hk68, hr4, hh4]
 have hown2b : ∀ b, v2.ownBlock = some b → b < w3.heap.size := fun b hb => (Go.Proofs.YtgloomahpjpiiaaGreat.Sm.Own.frN hown2 hf3).lt hb
 rw [← hv4]
 generalize hW : World.setB w4 rb _ = w5
 have hf5 : Fr [rb] w4 w5 := by rw [← hW]; (repeat (first | exact Fr.refl _ _ | assumption | with_reducible apply Fr.alloc | with_reducible apply Fr.drew | with_reducible refine Fr.setB ?_ _ _ (.inr (by first | omega | (simp only [gz]; omega))) | with_reducible refine Fr.setB ?_ _ _ (.inl (by first | assumption | simp)) | with_reducible refine Fr.trans' ?_ (by assumption)))
 have hz5 : w5.heap.size = w4.heap.size := by rw [← hW]; simp only [gz]
 have hh5 : w5.heap[rb]? = some (.cells (X.cells v4).toArray 52 (0, 0)) := by rw [← hW]; simp (maxSteps:=4000000)(disch:=first|assumption|(simp only[dz];first|done|assumption|omega)|omega|apply_rules[Fr.refl,Fr.alloc,Fr.drew]|rfl) only [↓gsd,gs,gv,Nat.reduceAdd,Nat.reduceEqDiff]
 clear hW
 have hF4 : Fr (rb :: blkL vl) w w4 := ((hfW.trans' hf2N).trans' hf3).trans hf4 fun x hx => .inl (List.mem_cons_of_mem _ hx)
 have hF5 : Fr (rb :: blkL vl) w w5 := hF4.trans hf5 fun x hx => by simp at hx; subst hx; exact .inl (List.mem_cons_self ..)
 have hsz := hf1.size
 rw [← recsL_app] at hrs4
 obtain ⟨⟨rs4, ho4, hol4, hat4⟩, hbl4⟩ := hrs4
 have ho5 : Own 2 86 w5 v4 rs4.length (cellsOf encRc rs4) := ho4.fr hf5 (by
  intro x hx; simp at hx; subst hx
  exact own_head ho4 (hf4.get hh3 hnb) (by decide))
 refine hK v4 w5 (Rd ++ blkL v2) hh5 ⟨⟨rs4, ho5, hol4, fun i r x hr hx => ?_⟩, fun b hb => mem_blkL.2 hb⟩ hF5 (fun x hx => ?_) (fun x hx => ?_)
 ·obtain ⟨t1, t2, t3⟩ := hat4 i r x hr hx
  exact ⟨t1, t2.fr hf5 (by
   intro y hy e; simp at hy; subst hy
   exact own_head t2 (hf4.get hh3 hnb) (by decide) e), t3⟩
 ·rcases hbl4 x (mem_blkL.1 hx) with h | h
  ·exact .inl h
  ·right; omega
 ·rcases List.mem_append.1 hx with hx | hx
  ·exact .inl hx
  ·have := hfr2 x (mem_blkL.1 hx); have := hown2b x (mem_blkL.1 hx); right; omega
set_option maxHeartbeats 8000000 in
theorem rfrom_log {w : World} {rb : Nat} {X : P11} {vl : Value} {R R' : Nat → Prop} {L : List Ks} {n m : Int} {K : Value → World → Prop} (hh : w.heap[rb]? = some (.cells (X.cells vl).toArray 52 (0, 0))) (hrs : RcsAt w R R' vl (recsL L)) (hL : L.length + 1 ≤ 1999999999999)
  (hK : ∀ v w', RcsAt w' R (fun b => w.heap.size ≤ b) v (fromL L n m) → Fr [] w w' → K v w') : CallsN Tryz.prog 15 [.pointer (some ⟨rb, 11, none⟩), .int .i64 n, .int .i64 m] w K := by
 have cw := cur w
 obtain ⟨⟨rs, hown, hrl, hat⟩, _⟩ := hrs
 rw [recsL_len] at hrl
 obtain ⟨la, lc, hv⟩ := hown.sl.form
 obtain ⟨d, hd⟩ : ∃ d, d = (n - 1).toNat := ⟨_, rfl⟩
 have hlt := lt_of_get _ _ hh
 have hh' := hh
 rw [hv] at hh'
 refine call15 ?_
 simp (maxSteps:=4000000)(disch:=first|assumption|(simp only[dz];first|done|assumption|omega)|omega|apply_rules[Fr.refl,Fr.alloc,Fr.drew]|rfl) only [↓gd,gp,Nat.reduceAdd,Nat.reduceEqDiff, ↓hk15]
 refine loop_intro (fun e w' => ∃ (i : Nat) (vo : Value), i ≤ rs.length ∧ e 0 = .pointer (some ⟨rb, 11, none⟩) ∧ e 1 = .int .i64 n ∧ e 2 = .int .i64 m ∧ e 7 = vo ∧ e 8 = .int .i64 i ∧
   RcsAt w' R (fun b => w.heap.size ≤ b) vo (((recsL L).drop d).take (min m.toNat (i - d))) ∧ Fr [] w w') (fun e _ => rs.length - (numOf (e 8)).toNat) ?_ ?_
 ·refine ⟨0, .slice none 0 0, Nat.zero_le _, ?_⟩
  simp (maxSteps:=4000000)(disch:=first|assumption|(simp only[dz];first|done|assumption|omega)|omega|apply_rules[Fr.refl,Fr.alloc,Fr.drew]|rfl) only [↓gsd,gs,gv,Nat.reduceAdd,Nat.reduceEqDiff, Int.natCast_zero, Nat.zero_sub, Nat.min_zero]
  exact ⟨RcsAt.nil, Fr.refl _ _⟩
 rintro e w1 k ⟨i, vo, hi, e0, e1, e2, e7, e8, hr, hf⟩ hk
 have cw1 := cur w1
 have hz1 := hf.size
 have hh1 := hf.getN hh'
 obtain ⟨oa, oc, hvo⟩ := hr.form
 have hol : (((recsL L).drop d).take (min m.toNat (i - d))).length = min m.toNat (i - d) := by rw [List.length_take, List.length_drop, recsL_len]; omega
 rw [hol] at hvo
 by_cases hil : i < rs.length
 ·have d1 : decide ((i : Int) < (rs.length : Int)) = true := decide_eq_true (by omega)
  by_cases c2 : ((min m.toNat (i - d) : Nat) : Int) < m
  ·have d2 : decide (((min m.toNat (i - d) : Nat) : Int) < m) = true := decide_eq_true c2
   have i0 : (0 : Int) ≤ (i : Int) := by omega
   have i1 : (i : Int) < (rs.length : Int) := by omega
   have i3 : ((i : Int) + 1).toNat = i + 1 := by omega
   obtain ⟨r, hri⟩ : ∃ r, rs[i]? = some r := ⟨rs[i], List.getElem?_eq_getElem hil⟩
   obtain ⟨ks, hks⟩ : ∃ ks, L[i]? = some ks := ⟨L[i]'(by omega), List.getElem?_eq_getElem (by omega)⟩
   have hxi : (recsL L)[i]? = some ((i : Int) + 1, ks) := by rw [recsL_get, hks]; rfl
   obtain ⟨q1, q2, q3⟩ := hat i r _ hri hxi
   obtain ⟨b1, o1, p1, ob1, hv1, hb1, hbl1, hw1, hc1⟩ := (show SlOf 2 encRc w1 vl rs from hown.sl.frN hf).read encRc_len i r hri
   have hd1 := fun orig K => hc1 0 (.int .i64 r.n) orig K rfl
   simp only [Nat.add_zero] at hd1
   rw [hv1] at hv
   simp only [Value.slice.injEq] at hv
   obtain ⟨rfl, _, rfl⟩ := hv
   simp only [encRc] at hw1
   by_cases c3 : n ≤ (i : Int) + 1
   ·have d3 : decide (n ≤ r.n) = true := decide_eq_true (by rw [q1]; exact c3)
    simp (maxSteps:=4000000)(disch:=first|assumption|(simp only[dz];first|done|assumption|omega)|omega|apply_rules[Fr.refl,Fr.alloc,Fr.drew]|rfl) only [↓gd,gp,Nat.reduceAdd,Nat.reduceEqDiff, ↓hk15, e0, e1, e2, e7, e8, hh1, hvo, d1, d2, i0, i1, Int.toNat_natCast, hb1, hd1, hw1, d3]
    generalize hW : World.alloc w1 _ = w2
    have hf2 : Fr [] w1 w2 := by rw [← hW]; (repeat (first | exact Fr.refl _ _ | assumption | with_reducible apply Fr.alloc | with_reducible apply Fr.drew | with_reducible refine Fr.setB ?_ _ _ (.inr (by first | omega | (simp only [gz]; omega))) | with_reducible refine Fr.setB ?_ _ _ (.inl (by first | assumption | simp)) | with_reducible refine Fr.trans' ?_ (by assumption)))
    have hsl : Sl 2 w2 (.slice (some ⟨w1.heap.size, 0, none⟩) 1 1) 1 (encRc r) := by
     rw [← hW]; exact ⟨rfl, .inr ⟨w1.heap.size, 0, 1, (encRc r).toArray, 86, (0, 0), rfl, get_alloc_new _ _, rfl⟩⟩
    clear hW
    have cw2 := cur w2
    have hz2 := hf2.size
    have hrc : RcIs w2 R r ((i : Int) + 1, ks) := ⟨q1, (q2.frN hf).frN hf2, q3⟩
    obtain ⟨v4, w4, hr4, hrs4, hf4⟩ := RcsAt.app (hr.frN hf2) hrc (by rw [hol]; omega) hsl (fun b hb => by omega)
    have cw4 := cur w4
    have hF4 : Fr [] w w4 := fresh_app hr.blk hf4 (hf.trans' hf2)
    rw [hvo] at hr4
    simp (maxSteps:=4000000)(disch:=first|assumption|(simp only[dz];first|done|assumption|omega)|omega|apply_rules[Fr.refl,Fr.alloc,Fr.drew]|rfl) only [↓gd,gp,Nat.reduceAdd,Nat.reduceEqDiff, ↓hk15, e0, e1, e2, e7, e8, hr4]
    refine hk _ _ ⟨i + 1, v4, by omega, ?_⟩ ?_
    ·simp (maxSteps:=4000000)(disch:=first|assumption|(simp only[dz];first|done|assumption|omega)|omega|apply_rules[Fr.refl,Fr.alloc,Fr.drew]|rfl) only [↓gsd,gs,gv,Nat.reduceAdd,Nat.reduceEqDiff, e0, e1, e2, e7, e8, Int.natCast_add, Int.natCast_one]
     refine ⟨?_, hF4⟩
     have e1' : min m.toNat (i + 1 - d) = min m.toNat (i - d) + 1 := by omega
     have e2' : d + min m.toNat (i - d) = i := by omega
     rw [e1', List.take_add_one, List.getElem?_drop, e2', hxi]
     exact hrs4
    ·simp (maxSteps:=4000000)(disch:=first|assumption|(simp only[dz];first|done|assumption|omega)|omega|apply_rules[Fr.refl,Fr.alloc,Fr.drew]|rfl) only [↓gsd,gs,gv,Nat.reduceAdd,Nat.reduceEqDiff, e8, numOf, Int.toNat_natCast, i3]; omega
   ·have d3 : decide (n ≤ r.n) = false := decide_eq_false (by rw [q1]; exact c3)
    simp (maxSteps:=4000000)(disch:=first|assumption|(simp only[dz];first|done|assumption|omega)|omega|apply_rules[Fr.refl,Fr.alloc,Fr.drew]|rfl) only [↓gd,gp,Nat.reduceAdd,Nat.reduceEqDiff, ↓hk15, e0, e1, e2, e7, e8, hh1, hvo, d1, d2, i0, i1, Int.toNat_natCast, hb1, hd1, hw1, d3]
    refine hk _ _ ⟨i + 1, vo, by omega, ?_⟩ ?_
    ·simp (maxSteps:=4000000)(disch:=first|assumption|(simp only[dz];first|done|assumption|omega)|omega|apply_rules[Fr.refl,Fr.alloc,Fr.drew]|rfl) only [↓gsd,gs,gv,Nat.reduceAdd,Nat.reduceEqDiff, e0, e1, e2, e7, e8, hvo, Int.natCast_add, Int.natCast_one]
     have : min m.toNat (i + 1 - d) = min m.toNat (i - d) := by omega
     rw [this, ← hvo]
     exact ⟨hr, hf⟩
    ·simp (maxSteps:=4000000)(disch:=first|assumption|(simp only[dz];first|done|assumption|omega)|omega|apply_rules[Fr.refl,Fr.alloc,Fr.drew]|rfl) only [↓gsd,gs,gv,Nat.reduceAdd,Nat.reduceEqDiff, e8, numOf, Int.toNat_natCast, i3]; omega
  ·have d2 : decide (((min m.toNat (i - d) : Nat) : Int) < m) = false := decide_eq_false c2
   simp (maxSteps:=4000000)(disch:=first|assumption|(simp only[dz];first|done|assumption|omega)|omega|apply_rules[Fr.refl,Fr.alloc,Fr.drew]|rfl) only [↓gd,gp,Nat.reduceAdd,Nat.reduceEqDiff, ↓hk15, e0, e1, e2, e7, e8, hh1, hvo, d1, d2]
   rw [← hvo]
   refine hK _ _ ?_ hf
   have : min m.toNat (i - d) = m.toNat := by omega
   rw [this] at hr
   unfold fromL
   rw [← hd]; exact hr
 ·have d1 : decide ((i : Int) < (rs.length : Int)) = false := decide_eq_false (by omega)
  simp (maxSteps:=4000000)(disch:=first|assumption|(simp only[dz];first|done|assumption|omega)|omega|apply_rules[Fr.refl,Fr.alloc,Fr.drew]|rfl) only [↓gd,gp,Nat.reduceAdd,Nat.reduceEqDiff, ↓hk15, e0, e1, e2, e7, e8, hh1, hvo, d1]
  rw [← hvo]
  refine hK _ _ ?_ hf
  have hq : ((recsL L).drop d).take (min m.toNat (i - d)) = fromL L n m := by
   unfold fromL
   rw [← hd]
   have hdl : ((recsL L).drop d).length = i - d := by rw [List.length_drop, recsL_len]; omega
   by_cases c : m.toNat ≤ i - d
   ·rw [Nat.min_eq_left c]
   ·rw [Nat.min_eq_right (by omega), List.take_of_length_le (by omega), List.take_of_length_le (by omega)]
  rw [← hq]; exact hr
end Go.Proofs.YtgloomahpjpiiaaGreat.Sm
