/- Cost, Good, Drop of a table. -/
import Derived.Test.YtldmkhakjnglmaaA5
set_option linter.unusedVariables false
set_option linter.unusedSimpArgs false
set_option maxRecDepth 10000
namespace Go.Proofs.Ytldmkhakjnglmaa
open Go.VW
def costE (e : Ent) : Int := IntKind.i64.wrap (IntKind.i64.wrap (32 + e.key.size) + e.data.size)
def encFct (e : Ent) : List Value := [.string e.key, .bool e.has, .string e.data, .int .i64 e.lo, .int .i64 e.hi]
theorem cost_spec {e : Ent} {w : World} {K : Value → World → Prop} (hK : ∀ w', Fr [] w w' → K (.int .i64 (costE e)) w') : CallsN Try.prog 33 [.agg (encFct e).toArray] w K := by
  have cw := cur w
  refine call33 ?_
  unfold encFct
  simp (maxSteps := 4000000) (disch := (first | assumption | exact List.not_mem_nil | exact Fr.refl _ _ | ((repeat (first | assumption | apply cur_alloc | apply cur_setB | apply cur_drew | apply cur_drewN)); done) | omega | (simp only [gz, Value.cells, oneC]; first | done | omega) | ((simp only [List.mem_cons, List.not_mem_nil, or_false, gz]); omega) | rfl)) only [↓gsd, gs, ev, Nat.reduceAdd, Nat.reduceEqDiff, oneC, Value.cells, Option.isNone, gt, frT_self, frT_drew, frT_drew0, frT_alloc, ↓hk33]
  exact hK _ ((Fr.refl _ _).alloc _)
def goodE (e : Ent) : Bool := if (decide (e.key = (⟨#[]⟩ : ByteArray)) || decide ((32 : Int) < (e.key.size : Int))) = true then false else if (decide ((256 : Int) < (e.data.size : Int)) || (!e.has && !decide (e.data = (⟨#[]⟩ : ByteArray)))) = true then false else decide ((0 : Int) ≤ e.lo) && decide (e.lo ≤ (1099511627776 : Int)) && decide (e.lo < e.hi) && (decide (e.hi = (4611686018427387904 : Int)) || decide (e.hi ≤ (1099511627777 : Int)))
set_option maxHeartbeats 16000000 in
theorem good_spec {e : Ent} {w : World} {K : Value → World → Prop} (hK : ∀ w', Fr [] w w' → K (.bool (goodE e)) w') : CallsN Try.prog 30 [.agg (encFct e).toArray] w K := by
  have cw := cur w
  have hK' := hK _ ((Fr.refl [] w).alloc (.cells (encFct e).toArray 34))
  unfold goodE at hK'
  unfold encFct at hK' ⊢
  refine call30 ?_
  rcases Bool.eq_false_or_eq_true (decide (e.key = (⟨#[]⟩ : ByteArray))) with q0 | q0
  · simp only [q0, Bool.true_or, Bool.false_or, Bool.or_true, Bool.or_false, Bool.true_and, Bool.false_and, Bool.and_true, Bool.and_false, Bool.not_true, Bool.not_false, if_true, if_false, reduceCtorEq, ite_true, ite_false] at hK'
    simp (maxSteps := 4000000) (disch := (first | assumption | exact List.not_mem_nil | exact Fr.refl _ _ | ((repeat (first | assumption | apply cur_alloc | apply cur_setB | apply cur_drew | apply cur_drewN)); done) | omega | (simp only [gz, Value.cells, oneC]; first | done | omega) | ((simp only [List.mem_cons, List.not_mem_nil, or_false, gz]); omega) | rfl)) only [↓gsd, gs, ev, Nat.reduceAdd, Nat.reduceEqDiff, oneC, Value.cells, Option.isNone, gt, frT_self, frT_drew, frT_drew0, frT_alloc, ↓hk30, q0]
    exact hK'
  · rcases Bool.eq_false_or_eq_true (decide ((32 : Int) < (e.key.size : Int))) with q1 | q1
    · simp only [q0, q1, Bool.true_or, Bool.false_or, Bool.or_true, Bool.or_false, Bool.true_and, Bool.false_and, Bool.and_true, Bool.and_false, Bool.not_true, Bool.not_false, if_true, if_false, reduceCtorEq, ite_true, ite_false] at hK'
      simp (maxSteps := 4000000) (disch := (first | assumption | exact List.not_mem_nil | exact Fr.refl _ _ | ((repeat (first | assumption | apply cur_alloc | apply cur_setB | apply cur_drew | apply cur_drewN)); done) | omega | (simp only [gz, Value.cells, oneC]; first | done | omega) | ((simp only [List.mem_cons, List.not_mem_nil, or_false, gz]); omega) | rfl)) only [↓gsd, gs, ev, Nat.reduceAdd, Nat.reduceEqDiff, oneC, Value.cells, Option.isNone, gt, frT_self, frT_drew, frT_drew0, frT_alloc, ↓hk30, q0, q1]
      exact hK'
    · rcases Bool.eq_false_or_eq_true (decide ((256 : Int) < (e.data.size : Int))) with q2 | q2
      · simp only [q0, q1, q2, Bool.true_or, Bool.false_or, Bool.or_true, Bool.or_false, Bool.true_and, Bool.false_and, Bool.and_true, Bool.and_false, Bool.not_true, Bool.not_false, if_true, if_false, reduceCtorEq, ite_true, ite_false] at hK'
        simp (maxSteps := 4000000) (disch := (first | assumption | exact List.not_mem_nil | exact Fr.refl _ _ | ((repeat (first | assumption | apply cur_alloc | apply cur_setB | apply cur_drew | apply cur_drewN)); done) | omega | (simp only [gz, Value.cells, oneC]; first | done | omega) | ((simp only [List.mem_cons, List.not_mem_nil, or_false, gz]); omega) | rfl)) only [↓gsd, gs, ev, Nat.reduceAdd, Nat.reduceEqDiff, oneC, Value.cells, Option.isNone, gt, frT_self, frT_drew, frT_drew0, frT_alloc, ↓hk30, q0, q1, q2]
        exact hK'
      · rcases Bool.eq_false_or_eq_true (e.has) with q3 | q3
        · rcases Bool.eq_false_or_eq_true (decide ((0 : Int) ≤ e.lo)) with q5 | q5
          · rcases Bool.eq_false_or_eq_true (decide (e.lo ≤ (1099511627776 : Int))) with q6 | q6
            · rcases Bool.eq_false_or_eq_true (decide (e.lo < e.hi)) with q7 | q7
              · rcases Bool.eq_false_or_eq_true (decide (e.hi = (4611686018427387904 : Int))) with q8 | q8
                · simp only [q0, q1, q2, q3, q5, q6, q7, q8, Bool.true_or, Bool.false_or, Bool.or_true, Bool.or_false, Bool.true_and, Bool.false_and, Bool.and_true, Bool.and_false, Bool.not_true, Bool.not_false, if_true, if_false, reduceCtorEq, ite_true, ite_false] at hK'
                  simp (maxSteps := 4000000) (disch := (first | assumption | exact List.not_mem_nil | exact Fr.refl _ _ | ((repeat (first | assumption | apply cur_alloc | apply cur_setB | apply cur_drew | apply cur_drewN)); done) | omega | (simp only [gz, Value.cells, oneC]; first | done | omega) | ((simp only [List.mem_cons, List.not_mem_nil, or_false, gz]); omega) | rfl)) only [↓gsd, gs, ev, Nat.reduceAdd, Nat.reduceEqDiff, oneC, Value.cells, Option.isNone, gt, frT_self, frT_drew, frT_drew0, frT_alloc, ↓hk30, q0, q1, q2, q3, q5, q6, q7, q8]
                  exact hK'
                · rcases Bool.eq_false_or_eq_true (decide (e.hi ≤ (1099511627777 : Int))) with q9 | q9
                  · simp only [q0, q1, q2, q3, q5, q6, q7, q8, q9, Bool.true_or, Bool.false_or, Bool.or_true, Bool.or_false, Bool.true_and, Bool.false_and, Bool.and_true, Bool.and_false, Bool.not_true, Bool.not_false, if_true, if_false, reduceCtorEq, ite_true, ite_false] at hK'
                    simp (maxSteps := 4000000) (disch := (first | assumption | exact List.not_mem_nil | exact Fr.refl _ _ | ((repeat (first | assumption | apply cur_alloc | apply cur_setB | apply cur_drew | apply cur_drewN)); done) | omega | (simp only [gz, Value.cells, oneC]; first | done | omega) | ((simp only [List.mem_cons, List.not_mem_nil, or_false, gz]); omega) | rfl)) only [↓gsd, gs, ev, Nat.reduceAdd, Nat.reduceEqDiff, oneC, Value.cells, Option.isNone, gt, frT_self, frT_drew, frT_drew0, frT_alloc, ↓hk30, q0, q1, q2, q3, q5, q6, q7, q8, q9]
                    exact hK'
                  · simp only [q0, q1, q2, q3, q5, q6, q7, q8, q9, Bool.true_or, Bool.false_or, Bool.or_true, Bool.or_false, Bool.true_and, Bool.false_and, Bool.and_true, Bool.and_false, Bool.not_true, Bool.not_false, if_true, if_false, reduceCtorEq, ite_true, ite_false] at hK'
                    simp (maxSteps := 4000000) (disch := (first | assumption | exact List.not_mem_nil | exact Fr.refl _ _ | ((repeat (first | assumption | apply cur_alloc | apply cur_setB | apply cur_drew | apply cur_drewN)); done) | omega | (simp only [gz, Value.cells, oneC]; first | done | omega) | ((simp only [List.mem_cons, List.not_mem_nil, or_false, gz]); omega) | rfl)) only [↓gsd, gs, ev, Nat.reduceAdd, Nat.reduceEqDiff, oneC, Value.cells, Option.isNone, gt, frT_self, frT_drew, frT_drew0, frT_alloc, ↓hk30, q0, q1, q2, q3, q5, q6, q7, q8, q9]
                    exact hK'
              · simp only [q0, q1, q2, q3, q5, q6, q7, Bool.true_or, Bool.false_or, Bool.or_true, Bool.or_false, Bool.true_and, Bool.false_and, Bool.and_true, Bool.and_false, Bool.not_true, Bool.not_false, if_true, if_false, reduceCtorEq, ite_true, ite_false] at hK'
                simp (maxSteps := 4000000) (disch := (first | assumption | exact List.not_mem_nil | exact Fr.refl _ _ | ((repeat (first | assumption | apply cur_alloc | apply cur_setB | apply cur_drew | apply cur_drewN)); done) | omega | (simp only [gz, Value.cells, oneC]; first | done | omega) | ((simp only [List.mem_cons, List.not_mem_nil, or_false, gz]); omega) | rfl)) only [↓gsd, gs, ev, Nat.reduceAdd, Nat.reduceEqDiff, oneC, Value.cells, Option.isNone, gt, frT_self, frT_drew, frT_drew0, frT_alloc, ↓hk30, q0, q1, q2, q3, q5, q6, q7]
                exact hK'
            · simp only [q0, q1, q2, q3, q5, q6, Bool.true_or, Bool.false_or, Bool.or_true, Bool.or_false, Bool.true_and, Bool.false_and, Bool.and_true, Bool.and_false, Bool.not_true, Bool.not_false, if_true, if_false, reduceCtorEq, ite_true, ite_false] at hK'
              simp (maxSteps := 4000000) (disch := (first | assumption | exact List.not_mem_nil | exact Fr.refl _ _ | ((repeat (first | assumption | apply cur_alloc | apply cur_setB | apply cur_drew | apply cur_drewN)); done) | omega | (simp only [gz, Value.cells, oneC]; first | done | omega) | ((simp only [List.mem_cons, List.not_mem_nil, or_false, gz]); omega) | rfl)) only [↓gsd, gs, ev, Nat.reduceAdd, Nat.reduceEqDiff, oneC, Value.cells, Option.isNone, gt, frT_self, frT_drew, frT_drew0, frT_alloc, ↓hk30, q0, q1, q2, q3, q5, q6]
              exact hK'
          · simp only [q0, q1, q2, q3, q5, Bool.true_or, Bool.false_or, Bool.or_true, Bool.or_false, Bool.true_and, Bool.false_and, Bool.and_true, Bool.and_false, Bool.not_true, Bool.not_false, if_true, if_false, reduceCtorEq, ite_true, ite_false] at hK'
            simp (maxSteps := 4000000) (disch := (first | assumption | exact List.not_mem_nil | exact Fr.refl _ _ | ((repeat (first | assumption | apply cur_alloc | apply cur_setB | apply cur_drew | apply cur_drewN)); done) | omega | (simp only [gz, Value.cells, oneC]; first | done | omega) | ((simp only [List.mem_cons, List.not_mem_nil, or_false, gz]); omega) | rfl)) only [↓gsd, gs, ev, Nat.reduceAdd, Nat.reduceEqDiff, oneC, Value.cells, Option.isNone, gt, frT_self, frT_drew, frT_drew0, frT_alloc, ↓hk30, q0, q1, q2, q3, q5]
            exact hK'
        · rcases Bool.eq_false_or_eq_true (decide (e.data = (⟨#[]⟩ : ByteArray))) with q4 | q4
          · rcases Bool.eq_false_or_eq_true (decide ((0 : Int) ≤ e.lo)) with q5 | q5
            · rcases Bool.eq_false_or_eq_true (decide (e.lo ≤ (1099511627776 : Int))) with q6 | q6
              · rcases Bool.eq_false_or_eq_true (decide (e.lo < e.hi)) with q7 | q7
                · rcases Bool.eq_false_or_eq_true (decide (e.hi = (4611686018427387904 : Int))) with q8 | q8
                  · simp only [q0, q1, q2, q3, q4, q5, q6, q7, q8, Bool.true_or, Bool.false_or, Bool.or_true, Bool.or_false, Bool.true_and, Bool.false_and, Bool.and_true, Bool.and_false, Bool.not_true, Bool.not_false, if_true, if_false, reduceCtorEq, ite_true, ite_false] at hK'
                    simp (maxSteps := 4000000) (disch := (first | assumption | exact List.not_mem_nil | exact Fr.refl _ _ | ((repeat (first | assumption | apply cur_alloc | apply cur_setB | apply cur_drew | apply cur_drewN)); done) | omega | (simp only [gz, Value.cells, oneC]; first | done | omega) | ((simp only [List.mem_cons, List.not_mem_nil, or_false, gz]); omega) | rfl)) only [↓gsd, gs, ev, Nat.reduceAdd, Nat.reduceEqDiff, oneC, Value.cells, Option.isNone, gt, frT_self, frT_drew, frT_drew0, frT_alloc, ↓hk30, q0, q1, q2, q3, q4, q5, q6, q7, q8]
                    exact hK'
                  · rcases Bool.eq_false_or_eq_true (decide (e.hi ≤ (1099511627777 : Int))) with q9 | q9
                    · simp only [q0, q1, q2, q3, q4, q5, q6, q7, q8, q9, Bool.true_or, Bool.false_or, Bool.or_true, Bool.or_false, Bool.true_and, Bool.false_and, Bool.and_true, Bool.and_false, Bool.not_true, Bool.not_false, if_true, if_false, reduceCtorEq, ite_true, ite_false] at hK'
                      simp (maxSteps := 4000000) (disch := (first | assumption | exact List.not_mem_nil | exact Fr.refl _ _ | ((repeat (first | assumption | apply cur_alloc | apply cur_setB | apply cur_drew | apply cur_drewN)); done) | omega | (simp only [gz, Value.cells, oneC]; first | done | omega) | ((simp only [List.mem_cons, List.not_mem_nil, or_false, gz]); omega) | rfl)) only [↓gsd, gs, ev, Nat.reduceAdd, Nat.reduceEqDiff, oneC, Value.cells, Option.isNone, gt, frT_self, frT_drew, frT_drew0, frT_alloc, ↓hk30, q0, q1, q2, q3, q4, q5, q6, q7, q8, q9]
                      exact hK'
                    · simp only [q0, q1, q2, q3, q4, q5, q6, q7, q8, q9, Bool.true_or, Bool.false_or, Bool.or_true, Bool.or_false, Bool.true_and, Bool.false_and, Bool.and_true, Bool.and_false, Bool.not_true, Bool.not_false, if_true, if_false, reduceCtorEq, ite_true, ite_false] at hK'
                      simp (maxSteps := 4000000) (disch := (first | assumption | exact List.not_mem_nil | exact Fr.refl _ _ | ((repeat (first | assumption | apply cur_alloc | apply cur_setB | apply cur_drew | apply cur_drewN)); done) | omega | (simp only [gz, Value.cells, oneC]; first | done | omega) | ((simp only [List.mem_cons, List.not_mem_nil, or_false, gz]); omega) | rfl)) only [↓gsd, gs, ev, Nat.reduceAdd, Nat.reduceEqDiff, oneC, Value.cells, Option.isNone, gt, frT_self, frT_drew, frT_drew0, frT_alloc, ↓hk30, q0, q1, q2, q3, q4, q5, q6, q7, q8, q9]
                      exact hK'
                · simp only [q0, q1, q2, q3, q4, q5, q6, q7, Bool.true_or, Bool.false_or, Bool.or_true, Bool.or_false, Bool.true_and, Bool.false_and, Bool.and_true, Bool.and_false, Bool.not_true, Bool.not_false, if_true, if_false, reduceCtorEq, ite_true, ite_false] at hK'
                  simp (maxSteps := 4000000) (disch := (first | assumption | exact List.not_mem_nil | exact Fr.refl _ _ | ((repeat (first | assumption | apply cur_alloc | apply cur_setB | apply cur_drew | apply cur_drewN)); done) | omega | (simp only [gz, Value.cells, oneC]; first | done | omega) | ((simp only [List.mem_cons, List.not_mem_nil, or_false, gz]); omega) | rfl)) only [↓gsd, gs, ev, Nat.reduceAdd, Nat.reduceEqDiff, oneC, Value.cells, Option.isNone, gt, frT_self, frT_drew, frT_drew0, frT_alloc, ↓hk30, q0, q1, q2, q3, q4, q5, q6, q7]
                  exact hK'
              · simp only [q0, q1, q2, q3, q4, q5, q6, Bool.true_or, Bool.false_or, Bool.or_true, Bool.or_false, Bool.true_and, Bool.false_and, Bool.and_true, Bool.and_false, Bool.not_true, Bool.not_false, if_true, if_false, reduceCtorEq, ite_true, ite_false] at hK'
                simp (maxSteps := 4000000) (disch := (first | assumption | exact List.not_mem_nil | exact Fr.refl _ _ | ((repeat (first | assumption | apply cur_alloc | apply cur_setB | apply cur_drew | apply cur_drewN)); done) | omega | (simp only [gz, Value.cells, oneC]; first | done | omega) | ((simp only [List.mem_cons, List.not_mem_nil, or_false, gz]); omega) | rfl)) only [↓gsd, gs, ev, Nat.reduceAdd, Nat.reduceEqDiff, oneC, Value.cells, Option.isNone, gt, frT_self, frT_drew, frT_drew0, frT_alloc, ↓hk30, q0, q1, q2, q3, q4, q5, q6]
                exact hK'
            · simp only [q0, q1, q2, q3, q4, q5, Bool.true_or, Bool.false_or, Bool.or_true, Bool.or_false, Bool.true_and, Bool.false_and, Bool.and_true, Bool.and_false, Bool.not_true, Bool.not_false, if_true, if_false, reduceCtorEq, ite_true, ite_false] at hK'
              simp (maxSteps := 4000000) (disch := (first | assumption | exact List.not_mem_nil | exact Fr.refl _ _ | ((repeat (first | assumption | apply cur_alloc | apply cur_setB | apply cur_drew | apply cur_drewN)); done) | omega | (simp only [gz, Value.cells, oneC]; first | done | omega) | ((simp only [List.mem_cons, List.not_mem_nil, or_false, gz]); omega) | rfl)) only [↓gsd, gs, ev, Nat.reduceAdd, Nat.reduceEqDiff, oneC, Value.cells, Option.isNone, gt, frT_self, frT_drew, frT_drew0, frT_alloc, ↓hk30, q0, q1, q2, q3, q4, q5]
              exact hK'
          · simp only [q0, q1, q2, q3, q4, Bool.true_or, Bool.false_or, Bool.or_true, Bool.or_false, Bool.true_and, Bool.false_and, Bool.and_true, Bool.and_false, Bool.not_true, Bool.not_false, if_true, if_false, reduceCtorEq, ite_true, ite_false] at hK'
            simp (maxSteps := 4000000) (disch := (first | assumption | exact List.not_mem_nil | exact Fr.refl _ _ | ((repeat (first | assumption | apply cur_alloc | apply cur_setB | apply cur_drew | apply cur_drewN)); done) | omega | (simp only [gz, Value.cells, oneC]; first | done | omega) | ((simp only [List.mem_cons, List.not_mem_nil, or_false, gz]); omega) | rfl)) only [↓gsd, gs, ev, Nat.reduceAdd, Nat.reduceEqDiff, oneC, Value.cells, Option.isNone, gt, frT_self, frT_drew, frT_drew0, frT_alloc, ↓hk30, q0, q1, q2, q3, q4]
            exact hK'
end Go.Proofs.Ytldmkhakjnglmaa
