/- GapNone walked. -/
import Derived.Test.YtenokheiindfkaaF2
import Derived.Test.YtenokheiindfkaaG3
set_option linter.unusedVariables false
set_option linter.unusedSimpArgs false
set_option maxRecDepth 10000
namespace Go.Proofs.Ytenokheiindfkaa
open Go.VW
theorem putN {n v : Int} {w : World} {K : Value → World → Prop} (hK : K (.tuple ([.slice none 0 0, .bool false] : List Value).toArray) w) : CallsN Try.prog 31 [.pointer none, .int .i64 n, .int .i64 v] w K := by
  have cw := cur w
  refine call31 ?_
  simp (maxSteps := 4000000) (disch := (first | assumption | exact List.not_mem_nil | ((repeat (first | assumption | apply cur_alloc | apply cur_setB | apply cur_drew | apply cur_drewN)); done) | omega | (simp only [gz, Value.cells, oneC]; first | done | omega) | ((simp only [List.mem_cons, List.not_mem_nil, or_false, gz]); omega) | rfl)) only [↓gsd, gs, ev, Nat.reduceAdd, Nat.reduceEqDiff, oneC, Value.cells, Option.isNone, gt, ↓hk31]
  exact hK
theorem clearN {n : Int} {w : World} {K : Value → World → Prop} (hK : K (.tuple #[]) w) : CallsN Try.prog 42 [.pointer none, .int .i64 n] w K := by
  have cw := cur w
  refine call42 ?_
  simp (maxSteps := 4000000) (disch := (first | assumption | exact List.not_mem_nil | ((repeat (first | assumption | apply cur_alloc | apply cur_setB | apply cur_drew | apply cur_drewN)); done) | omega | (simp only [gz, Value.cells, oneC]; first | done | omega) | ((simp only [List.mem_cons, List.not_mem_nil, or_false, gz]); omega) | rfl)) only [↓gsd, gs, ev, Nat.reduceAdd, Nat.reduceEqDiff, oneC, Value.cells, Option.isNone, gt, ↓hk42]
  exact hK
theorem atN {w : World} {K : Value → World → Prop} (hK : K (.int .i64 0) w) : CallsN Try.prog 33 [.pointer none] w K := by
  have cw := cur w
  refine call33 ?_
  simp (maxSteps := 4000000) (disch := (first | assumption | exact List.not_mem_nil | ((repeat (first | assumption | apply cur_alloc | apply cur_setB | apply cur_drew | apply cur_drewN)); done) | omega | (simp only [gz, Value.cells, oneC]; first | done | omega) | ((simp only [List.mem_cons, List.not_mem_nil, or_false, gz]); omega) | rfl)) only [↓gsd, gs, ev, Nat.reduceAdd, Nat.reduceEqDiff, oneC, Value.cells, Option.isNone, gt, ↓hk33]
  exact hK
theorem waitsN {w : World} {K : Value → World → Prop} (hK : K (.slice none 0 0) w) : CallsN Try.prog 32 [.pointer none] w K := by
  have cw := cur w
  refine call32 ?_
  simp (maxSteps := 4000000) (disch := (first | assumption | exact List.not_mem_nil | ((repeat (first | assumption | apply cur_alloc | apply cur_setB | apply cur_drew | apply cur_drewN)); done) | omega | (simp only [gz, Value.cells, oneC]; first | done | omega) | ((simp only [List.mem_cons, List.not_mem_nil, or_false, gz]); omega) | rfl)) only [↓gsd, gs, ev, Nat.reduceAdd, Nat.reduceEqDiff, oneC, Value.cells, Option.isNone, gt, ↓hk32]
  exact hK
theorem lacksN {w : World} {K : Value → World → Prop} (hK : ∀ w', Fr [] w w' → K (.agg ([.int .i64 0, .int .i64 0] : List Value).toArray) w') : CallsN Try.prog 43 [.pointer none] w K := by
  have cw := cur w
  refine call43 ?_
  simp (maxSteps := 4000000) (disch := (first | assumption | exact List.not_mem_nil | ((repeat (first | assumption | apply cur_alloc | apply cur_setB | apply cur_drew | apply cur_drewN)); done) | omega | (simp only [gz, Value.cells, oneC]; first | done | omega) | ((simp only [List.mem_cons, List.not_mem_nil, or_false, gz]); omega) | rfl)) only [↓gsd, gs, ev, Nat.reduceAdd, Nat.reduceEqDiff, oneC, Value.cells, Option.isNone, gt, ↓hk43]
  refine waitsN ?_
  simp (maxSteps := 4000000) (disch := (first | assumption | exact List.not_mem_nil | ((repeat (first | assumption | apply cur_alloc | apply cur_setB | apply cur_drew | apply cur_drewN)); done) | omega | (simp only [gz, Value.cells, oneC]; first | done | omega) | ((simp only [List.mem_cons, List.not_mem_nil, or_false, gz]); omega) | rfl)) only [↓gsd, gs, ev, Nat.reduceAdd, Nat.reduceEqDiff, oneC, Value.cells, Option.isNone, gt, ↓hk43, Int.natCast_zero]
  refine hK _ ?_
  (repeat (first | exact Fr.refl _ _ | assumption | with_reducible apply Fr.alloc | with_reducible apply Fr.drew | with_reducible refine Fr.setB ?_ _ _ (.inr (by first | omega | (simp only [gz]; omega))) | with_reducible refine Fr.setB ?_ _ _ (.inl (by first | assumption | simp)) | with_reducible refine Fr.trans' ?_ (by assumption)))
theorem emptyN {a b : Int} {w : World} {K : Value → World → Prop} (hK : ∀ w', Fr [] w w' → K (.bool (decide (b ≤ a))) w') : CallsN Try.prog 44 [.agg ([.int .i64 a, .int .i64 b] : List Value).toArray] w K := by
  have cw := cur w
  refine call44 ?_
  simp (maxSteps := 4000000) (disch := (first | assumption | exact List.not_mem_nil | ((repeat (first | assumption | apply cur_alloc | apply cur_setB | apply cur_drew | apply cur_drewN)); done) | omega | (simp only [gz, Value.cells, oneC]; first | done | omega) | ((simp only [List.mem_cons, List.not_mem_nil, or_false, gz]); omega) | rfl)) only [↓gsd, gs, ev, Nat.reduceAdd, Nat.reduceEqDiff, oneC, Value.cells, Option.isNone, gt, ↓hk44]
  refine hK _ ?_
  (repeat (first | exact Fr.refl _ _ | assumption | with_reducible apply Fr.alloc | with_reducible apply Fr.drew | with_reducible refine Fr.setB ?_ _ _ (.inr (by first | omega | (simp only [gz]; omega))) | with_reducible refine Fr.setB ?_ _ _ (.inl (by first | assumption | simp)) | with_reducible refine Fr.trans' ?_ (by assumption)))
theorem cloneN {w : World} {K : Value → World → Prop} (hK : K (.pointer none) w) : CallsN Try.prog 45 [.pointer none] w K := by
  have cw := cur w
  refine call45 ?_
  simp (maxSteps := 4000000) (disch := (first | assumption | exact List.not_mem_nil | ((repeat (first | assumption | apply cur_alloc | apply cur_setB | apply cur_drew | apply cur_drewN)); done) | omega | (simp only [gz, Value.cells, oneC]; first | done | omega) | ((simp only [List.mem_cons, List.not_mem_nil, or_false, gz]); omega) | rfl)) only [↓gsd, gs, ev, Nat.reduceAdd, Nat.reduceEqDiff, oneC, Value.cells, Option.isNone, gt, ↓hk45]
  exact hK
theorem none_spec {n : Int} {w : World} {K : Value → World → Prop} (hK : ∀ w', Fr [] w w' → K (.bool true) w') : CallsN Try.prog 10 [.int .i64 n] w K := by
  have cw := cur w
  refine call10 ?_
  try simp (maxSteps := 4000000) (disch := (first | assumption | exact List.not_mem_nil | ((repeat (first | assumption | apply cur_alloc | apply cur_setB | apply cur_drew | apply cur_drewN)); done) | omega | (simp only [gz, Value.cells, oneC]; first | done | omega) | ((simp only [List.mem_cons, List.not_mem_nil, or_false, gz]); omega) | rfl)) only [↓gsd, gs, ev, Nat.reduceAdd, Nat.reduceEqDiff, oneC, Value.cells, Option.isNone, gt, ↓hk10]
  refine fixedG fun w1 hf1 => ?_
  have cw1 := cur w1
  have hz1 := hf1.size
  try simp (maxSteps := 4000000) (disch := (first | assumption | exact List.not_mem_nil | ((repeat (first | assumption | apply cur_alloc | apply cur_setB | apply cur_drew | apply cur_drewN)); done) | omega | (simp only [gz, Value.cells, oneC]; first | done | omega) | ((simp only [List.mem_cons, List.not_mem_nil, or_false, gz]); omega) | rfl)) only [↓gsd, gs, ev, Nat.reduceAdd, Nat.reduceEqDiff, oneC, Value.cells, Option.isNone, gt, ↓hk10]
  refine putN ?_
  try simp (maxSteps := 4000000) (disch := (first | assumption | exact List.not_mem_nil | ((repeat (first | assumption | apply cur_alloc | apply cur_setB | apply cur_drew | apply cur_drewN)); done) | omega | (simp only [gz, Value.cells, oneC]; first | done | omega) | ((simp only [List.mem_cons, List.not_mem_nil, or_false, gz]); omega) | rfl)) only [↓gsd, gs, ev, Nat.reduceAdd, Nat.reduceEqDiff, oneC, Value.cells, Option.isNone, gt, ↓hk10]
  refine clearN ?_
  try simp (maxSteps := 4000000) (disch := (first | assumption | exact List.not_mem_nil | ((repeat (first | assumption | apply cur_alloc | apply cur_setB | apply cur_drew | apply cur_drewN)); done) | omega | (simp only [gz, Value.cells, oneC]; first | done | omega) | ((simp only [List.mem_cons, List.not_mem_nil, or_false, gz]); omega) | rfl)) only [↓gsd, gs, ev, Nat.reduceAdd, Nat.reduceEqDiff, oneC, Value.cells, Option.isNone, gt, ↓hk10, Int.natCast_zero]
  refine atN ?_
  try simp (maxSteps := 4000000) (disch := (first | assumption | exact List.not_mem_nil | ((repeat (first | assumption | apply cur_alloc | apply cur_setB | apply cur_drew | apply cur_drewN)); done) | omega | (simp only [gz, Value.cells, oneC]; first | done | omega) | ((simp only [List.mem_cons, List.not_mem_nil, or_false, gz]); omega) | rfl)) only [↓gsd, gs, ev, Nat.reduceAdd, Nat.reduceEqDiff, oneC, Value.cells, Option.isNone, gt, ↓hk10]
  refine waitsN ?_
  try simp (maxSteps := 4000000) (disch := (first | assumption | exact List.not_mem_nil | ((repeat (first | assumption | apply cur_alloc | apply cur_setB | apply cur_drew | apply cur_drewN)); done) | omega | (simp only [gz, Value.cells, oneC]; first | done | omega) | ((simp only [List.mem_cons, List.not_mem_nil, or_false, gz]); omega) | rfl)) only [↓gsd, gs, ev, Nat.reduceAdd, Nat.reduceEqDiff, oneC, Value.cells, Option.isNone, gt, ↓hk10, Int.natCast_zero]
  refine lacksN fun w2 hf2 => ?_
  have cw2 := cur w2
  try simp (maxSteps := 4000000) (disch := (first | assumption | exact List.not_mem_nil | ((repeat (first | assumption | apply cur_alloc | apply cur_setB | apply cur_drew | apply cur_drewN)); done) | omega | (simp only [gz, Value.cells, oneC]; first | done | omega) | ((simp only [List.mem_cons, List.not_mem_nil, or_false, gz]); omega) | rfl)) only [↓gsd, gs, ev, Nat.reduceAdd, Nat.reduceEqDiff, oneC, Value.cells, Option.isNone, gt, ↓hk10]
  refine emptyN fun w3 hf3 => ?_
  have cw3 := cur w3
  have d : decide ((0 : Int) ≤ 0) = true := by decide
  try simp (maxSteps := 4000000) (disch := (first | assumption | exact List.not_mem_nil | ((repeat (first | assumption | apply cur_alloc | apply cur_setB | apply cur_drew | apply cur_drewN)); done) | omega | (simp only [gz, Value.cells, oneC]; first | done | omega) | ((simp only [List.mem_cons, List.not_mem_nil, or_false, gz]); omega) | rfl)) only [↓gsd, gs, ev, Nat.reduceAdd, Nat.reduceEqDiff, oneC, Value.cells, Option.isNone, gt, ↓hk10, d]
  refine cloneN ?_
  try simp (maxSteps := 4000000) (disch := (first | assumption | exact List.not_mem_nil | ((repeat (first | assumption | apply cur_alloc | apply cur_setB | apply cur_drew | apply cur_drewN)); done) | omega | (simp only [gz, Value.cells, oneC]; first | done | omega) | ((simp only [List.mem_cons, List.not_mem_nil, or_false, gz]); omega) | rfl)) only [↓gsd, gs, ev, Nat.reduceAdd, Nat.reduceEqDiff, oneC, Value.cells, Option.isNone, gt, ↓hk10]
  exact hK _ ((hf1.trans' hf2).trans' hf3)
end Go.Proofs.Ytenokheiindfkaa
