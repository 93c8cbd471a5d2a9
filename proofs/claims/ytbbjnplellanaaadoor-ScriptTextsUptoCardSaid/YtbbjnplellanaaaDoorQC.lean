/- The reference's line: the rest. -/
import Derived.Test.YtbbjnplellanaaaDoorQB
set_option linter.unusedVariables false
set_option linter.unusedSimpArgs false
set_option maxRecDepth 100000
namespace Go.Proofs.YtbbjnplellanaaaDoor
open Go.VW
theorem no_two (l : Bs) : (!l.any (hasB 32 10 10)) = plainB l := by
 unfold plainB
 congr 1
 induction l with
 | nil => rfl
 | cons x r ih => rw [List.any_cons, List.any_cons, ih]; unfold hasB blB; simp
theorem no_three (l : Bs) : (!l.any (hasB 32 10 61)) = (plainB l && decide (61 ∉ l)) := by
 unfold plainB
 induction l with
 | nil => rfl
 | cons x r ih =>
   rw [List.any_cons, List.any_cons, Bool.not_or, ih]
   unfold hasB blB
   by_cases h1 : x = 32
   ·simp [h1]
   ·by_cases h2 : x = 10
    ·simp [h2]
    ·by_cases h3 : x = 61
     ·simp [h3]
     ·have : decide (61 ∉ x :: r) = decide (61 ∉ r) := by simp [Ne.symm h3]
      rw [this]; simp [h1, h2, h3]
section
variable {f : Form} {s : Stp} {W0 w : World} {e : Env} {sb : Nat} {sv : SlV} {pre : Bs} {K : Value → World → Prop} {Q : Exit → Env → World → Prop}
set_option maxHeartbeats 16000000 in
theorem rlineW_spec (e1 : e 1 = .pointer (some ⟨sb, 0, none⟩)) (e4 : e 4 = .string (B pre)) (hsb : w.heap[sb]? = some (.cells (encStp (s, sv)).toArray 33 (0, 0))) (hk2 : s.kind = 2) (hsw : SlOf 3 encWr w (.slice sv.1 sv.2.1 sv.2.2) s.ws) (hf : Fr [] W0 w) (hft : Fits s) (hpl : pre.length ≤ 1000)
  (hK : ∀ v ok w', Fr [] W0 w' → ResL ((wrsO s.ws).map (pre ++ ·)) v ok → K (.tuple #[.string (B v), .bool ok]) w') : W3 Tryd.prog 149 V26 c26_9 (retQ Tryd.prog [.tmp 2, .tmp 3] K) e w := by
 have cw := cur w
 obtain ⟨va, vc, hvv⟩ := hsw.form
 have hsb0 := hsb
 unfold encStp at hsb
 simp only at hsb
 rw [hvv, hk2] at hsb
 have hwn := hft.ws
 have d22 : decide ((2 : Int) = 2) = true := rfl
 simp (maxSteps:=4000000)(disch:=first|assumption|(simp only[dz];first|done|assumption|omega)|omega|apply_rules[Fr.refl,Fr.alloc,Fr.drew]|rfl) only [↓gd,gp,Nat.reduceAdd,Nat.reduceEqDiff, ↓hk26]
 refine for_intro s.ws.length 7 0 (fun i e' w' => ∃ out : Bs, e' 1 = .pointer (some ⟨sb, 0, none⟩) ∧ e' 4 = .string (B out) ∧ out.length ≤ 1000 + i * 4194306 ∧ (wrsO s.ws).map (pre ++ ·) = (wrsO (s.ws.drop i)).map (out ++ ·) ∧ Fr [] w w') ?_ (Nat.zero_le _) ?_ ?_
 ·simp (maxSteps:=4000000)(disch:=first|assumption|(simp only[dz];first|done|assumption|omega)|omega|apply_rules[Fr.refl,Fr.alloc,Fr.drew]|rfl) only [↓gsd,gs,gv,Nat.reduceAdd,Nat.reduceEqDiff]; rfl
 ·refine ⟨pre, ?_, ?_, by omega, by simp, Fr.refl _ _⟩
  ·simp (maxSteps:=4000000)(disch:=first|assumption|(simp only[dz];first|done|assumption|omega)|omega|apply_rules[Fr.refl,Fr.alloc,Fr.drew]|rfl) only [↓gsd,gs,gv,Nat.reduceAdd,Nat.reduceEqDiff, e1]
  ·simp (maxSteps:=4000000)(disch:=first|assumption|(simp only[dz];first|done|assumption|omega)|omega|apply_rules[Fr.refl,Fr.alloc,Fr.drew]|rfl) only [↓gsd,gs,gv,Nat.reduceAdd,Nat.reduceEqDiff, e4]
 rintro i e1' w1 kk hi e7 ⟨out, e1, e4, hol, hw, hf1⟩ hkk
 have cw1 := cur w1
 have hf01 := hf.trans' hf1
 have hsb1 := hf1.getN hsb
 have hsl1 := lt_of_get _ _ hsb1
 by_cases hil : i < s.ws.length
 ·have d : decide ((i : Int) < (s.ws.length : Int)) = true := decide_eq_true (by omega)
  obtain ⟨x, hx⟩ : ∃ x, s.ws[i]? = some x := ⟨s.ws[i], List.getElem?_eq_getElem hil⟩
  obtain ⟨bb, off, cap, ob, hv1, hob1, _, hrow, _⟩ := (hsw.frN hf1).read encWr_len i x hx
  have hvv1 := hvv.symm.trans hv1
  simp only [Value.slice.injEq, true_and] at hvv1
  obtain ⟨rfl, rfl⟩ := hvv1
  have i0 : (0 : Int) ≤ (i : Int) := by omega
  have i1 : (i : Int) < (s.ws.length : Int) := by omega
  have wr : IntKind.i64.wrap ((i : Int) + 1) = (i : Int) + 1 := wrap64 (by omega) (by omega)
  obtain ⟨hxk, hxd⟩ := hft.wk x (List.mem_of_getElem? hx)
  have hxt := wTxt_len x hxk hxd
  have him : i * 4194306 ≤ 2097152 * 4194306 := Nat.mul_le_mul_right _ (by omega)
  unfold encWr at hrow
  have hstop : wOK x = false → ∀ w', Fr [] W0 w' → K (.tuple #[.string ⟨#[]⟩, .bool false]) w' := fun h w' hf' => hK [] _ w' hf' (.inr ⟨wrs_stop hw hx h, rfl⟩)
  have d0 : decide (B x.key = ⟨#[]⟩) = !decide (x.key ≠ []) := by
   simp only [B_lit]; by_cases h : x.key = [] <;> simp [h]
  have g2 := get_alloc_new w1 (.cells ([.string (B x.key), .bool x.has, .string (B x.data)] : List Value).toArray 60 (0, 0))
  have hf02 : Fr [] W0 (w1.alloc (.cells ([.string (B x.key), .bool x.has, .string (B x.data)] : List Value).toArray 60 (0, 0))) := hf01.alloc _
  have hf12 : Fr [] w (w1.alloc (.cells ([.string (B x.key), .bool x.has, .string (B x.data)] : List Value).toArray 60 (0, 0))) := hf1.alloc _
  have cw2 := cur (w1.alloc (.cells ([.string (B x.key), .bool x.has, .string (B x.data)] : List Value).toArray 60 (0, 0)))
  by_cases q0 : x.key = []
  ·have dq : decide (x.key ≠ []) = false := by simp [q0]
   rw [dq] at d0
   simp (maxSteps:=4000000)(disch:=first|assumption|(simp only[dz];first|done|assumption|omega)|omega|apply_rules[Fr.refl,Fr.alloc,Fr.drew]|rfl) only [↓gd,gp,Nat.reduceAdd,Nat.reduceEqDiff, ↓hk26, e1, e4, e7, hsb1, d22, d, i0, i1, Int.toNat_natCast, hob1, hrow, d0]
   exact hstop (by unfold wOK; rw [dq]; rfl) _ hf02
  have dq0 : decide (x.key ≠ []) = true := decide_eq_true q0
  rw [dq0] at d0
  simp (maxSteps:=4000000)(disch:=first|assumption|(simp only[dz];first|done|assumption|omega)|omega|apply_rules[Fr.refl,Fr.alloc,Fr.drew]|rfl) only [↓gd,gp,Nat.reduceAdd,Nat.reduceEqDiff, ↓hk26, e1, e4, e7, hsb1, d22, d, i0, i1, Int.toNat_natCast, hob1, hrow, d0]
  refine rwithout_spec (a := 32) (b := 10) (c := 61) (by omega) ?_
  rw [no_three]
  cases q1 : plainB x.key && decide (61 ∉ x.key) with
  | false =>
    simp (maxSteps:=4000000)(disch:=first|assumption|(simp only[dz];first|done|assumption|omega)|omega|apply_rules[Fr.refl,Fr.alloc,Fr.drew]|rfl) only [↓gd,gp,Nat.reduceAdd,Nat.reduceEqDiff, ↓hk26]
    refine hstop ?_ _ hf02
    unfold wOK
    rw [dq0, ← Bool.and_assoc (plainB x.key), q1]; rfl
  | true =>
    have q1' : plainB x.key = true ∧ decide (61 ∉ x.key) = true := by rw [Bool.and_eq_true] at q1; exact q1
    simp (maxSteps:=4000000)(disch:=first|assumption|(simp only[dz];first|done|assumption|omega)|omega|apply_rules[Fr.refl,Fr.alloc,Fr.drew]|rfl) only [↓gd,gp,Nat.reduceAdd,Nat.reduceEqDiff, ↓hk26]
    refine rwithout_spec (a := 32) (b := 10) (c := 10) (by omega) ?_
    rw [no_two]
    cases q3 : plainB x.data with
    | false =>
      simp (maxSteps:=4000000)(disch:=first|assumption|(simp only[dz];first|done|assumption|omega)|omega|apply_rules[Fr.refl,Fr.alloc,Fr.drew]|rfl) only [↓gd,gp,Nat.reduceAdd,Nat.reduceEqDiff, ↓hk26]
      exact hstop (by unfold wOK; rw [dq0, q1'.1, q1'.2, q3]; rfl) _ hf02
    | true =>
      cases q4 : x.has with
      | true =>
        have a0 := fun x' y' w => add9r x' y' out [32] (by simp only [List.length_cons, List.length_nil]; omega) w
        have a1 := fun x' y' w => add9 x' y' (out ++ [32]) x.key (by simp only [List.length_append, List.length_cons, List.length_nil]; omega) w
        have a2 := fun x' y' w => add9r x' y' (out ++ [32] ++ x.key) [61] (by simp only [List.length_append, List.length_cons, List.length_nil]; omega) w
        have a3 := fun x' y' w => add9 x' y' (out ++ [32] ++ x.key ++ [61]) x.data (by simp only [List.length_append, List.length_cons, List.length_nil]; omega) w
        have hok : wOK x = true := by unfold wOK; rw [dq0, q1'.1, q1'.2, q3, q4]; rfl
        have htx : out ++ [32] ++ x.key ++ [61] ++ x.data = out ++ wTxt x := by unfold wTxt; rw [q4]; simp
        simp (maxSteps:=4000000)(disch:=first|assumption|(simp only[dz];first|done|assumption|omega)|omega|apply_rules[Fr.refl,Fr.alloc,Fr.drew]|rfl) only [↓gd,gp,Nat.reduceAdd,Nat.reduceEqDiff, ↓hk26, e1, e4, e7, q4, a0, a1, a2, a3, wr, htx]
        refine hkk _ _ hil ?_ ⟨out ++ wTxt x, ?_, ?_, ?_, wrs_on hw hx hok, ?_⟩
        ·simp (maxSteps:=4000000)(disch:=first|assumption|(simp only[dz];first|done|assumption|omega)|omega|apply_rules[Fr.refl,Fr.alloc,Fr.drew]|rfl) only [↓gsd,gs,gv,Nat.reduceAdd,Nat.reduceEqDiff]
        ·simp (maxSteps:=4000000)(disch:=first|assumption|(simp only[dz];first|done|assumption|omega)|omega|apply_rules[Fr.refl,Fr.alloc,Fr.drew]|rfl) only [↓gsd,gs,gv,Nat.reduceAdd,Nat.reduceEqDiff, e1]
        ·simp (maxSteps:=4000000)(disch:=first|assumption|(simp only[dz];first|done|assumption|omega)|omega|apply_rules[Fr.refl,Fr.alloc,Fr.drew]|rfl) only [↓gsd,gs,gv,Nat.reduceAdd,Nat.reduceEqDiff]
        ·rw [List.length_append, Nat.add_mul]; omega
        ·exact hf1.alloc _
      | false =>
        have d5 : decide (B x.data = ⟨#[]⟩) = decide (x.data = []) := by simp only [B_lit]
        cases q5 : decide (x.data = []) with
        | false =>
          rw [q5] at d5
          simp (maxSteps:=4000000)(disch:=first|assumption|(simp only[dz];first|done|assumption|omega)|omega|apply_rules[Fr.refl,Fr.alloc,Fr.drew]|rfl) only [↓gd,gp,Nat.reduceAdd,Nat.reduceEqDiff, ↓hk26, q4, d5]
          refine hstop (by unfold wOK; rw [dq0, q1'.1, q1'.2, q3, q4, q5]; rfl) _ ?_
          exact hf01.alloc _
        | true =>
          rw [q5] at d5
          have a0 := fun x' y' w => add9r x' y' out [32] (by simp only [List.length_cons, List.length_nil]; omega) w
          have a1 := fun x' y' w => add9 x' y' (out ++ [32]) x.key (by simp only [List.length_append, List.length_cons, List.length_nil]; omega) w
          have a2 := fun x' y' w => add9r x' y' (out ++ [32] ++ x.key) [33] (by simp only [List.length_append, List.length_cons, List.length_nil]; omega) w
          have hok : wOK x = true := by unfold wOK; rw [dq0, q1'.1, q1'.2, q3, q4, q5]; rfl
          have htx : out ++ [32] ++ x.key ++ [33] = out ++ wTxt x := by unfold wTxt; rw [q4]; simp
          simp (maxSteps:=4000000)(disch:=first|assumption|(simp only[dz];first|done|assumption|omega)|omega|apply_rules[Fr.refl,Fr.alloc,Fr.drew]|rfl) only [↓gd,gp,Nat.reduceAdd,Nat.reduceEqDiff, ↓hk26, e1, e4, e7, q4, d5, a0, a1, a2, wr, htx]
          refine hkk _ _ hil ?_ ⟨out ++ wTxt x, ?_, ?_, ?_, wrs_on hw hx hok, ?_⟩
          ·simp (maxSteps:=4000000)(disch:=first|assumption|(simp only[dz];first|done|assumption|omega)|omega|apply_rules[Fr.refl,Fr.alloc,Fr.drew]|rfl) only [↓gsd,gs,gv,Nat.reduceAdd,Nat.reduceEqDiff]
          ·simp (maxSteps:=4000000)(disch:=first|assumption|(simp only[dz];first|done|assumption|omega)|omega|apply_rules[Fr.refl,Fr.alloc,Fr.drew]|rfl) only [↓gsd,gs,gv,Nat.reduceAdd,Nat.reduceEqDiff, e1]
          ·simp (maxSteps:=4000000)(disch:=first|assumption|(simp only[dz];first|done|assumption|omega)|omega|apply_rules[Fr.refl,Fr.alloc,Fr.drew]|rfl) only [↓gsd,gs,gv,Nat.reduceAdd,Nat.reduceEqDiff]
          ·rw [List.length_append, Nat.add_mul]; omega
          ·exact hf1.alloc _
 ·have d : decide ((i : Int) < (s.ws.length : Int)) = false := decide_eq_false (by omega)
  have hi' : i = s.ws.length := by omega
  simp (maxSteps:=4000000)(disch:=first|assumption|(simp only[dz];first|done|assumption|omega)|omega|apply_rules[Fr.refl,Fr.alloc,Fr.drew]|rfl) only [↓gd,gp,Nat.reduceAdd,Nat.reduceEqDiff, ↓hk26, e1, e4, e7, hsb1, d22, d]
  exact hK _ _ _ hf01 (.inl ⟨wrs_end (hi' ▸ hw), rfl⟩)
end
end Go.Proofs.YtbbjnplellanaaaDoor
