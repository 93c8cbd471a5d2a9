/- StreamNone walked. -/
import Derived.Test.YtenokheiindfkabD7
set_option linter.unusedVariables false
set_option linter.unusedSimpArgs false
set_option maxRecDepth 10000
namespace Go.Proofs.Ytenokheiindfkab
open Go.VW
theorem last_nil {w : World} {K : Value → World → Prop} (hK : K (.int .i64 0) w) : CallsN Try.prog 13 [.pointer none] w K := by
  have cw := cur w
  refine call13 ?_
  simp (maxSteps := 4000000) (disch := (first | assumption | exact List.not_mem_nil | exact Fr.refl _ _ | ((repeat (first | assumption | apply cur_alloc | apply cur_setB | apply cur_drew | apply cur_drewN)); done) | omega | (simp only [gz, Value.cells, oneC]; first | done | omega) | ((simp only [List.mem_cons, List.not_mem_nil, or_false, gz]); omega) | rfl)) only [↓gsd, gs, ev, Nat.reduceAdd, Nat.reduceEqDiff, oneC, Value.cells, Option.isNone, gt, ↓hk13]
  exact hK
theorem append_nil {w : World} {va : Value} {K : Value → World → Prop} (hK : K (.tuple ([.int .i64 0, .int .i64 3] : List Value).toArray) w) : CallsN Try.prog 10 [.pointer none, va] w K := by
  have cw := cur w
  refine call10 ?_
  simp (maxSteps := 4000000) (disch := (first | assumption | exact List.not_mem_nil | exact Fr.refl _ _ | ((repeat (first | assumption | apply cur_alloc | apply cur_setB | apply cur_drew | apply cur_drewN)); done) | omega | (simp only [gz, Value.cells, oneC]; first | done | omega) | ((simp only [List.mem_cons, List.not_mem_nil, or_false, gz]); omega) | rfl)) only [↓gsd, gs, ev, Nat.reduceAdd, Nat.reduceEqDiff, oneC, Value.cells, Option.isNone, gt, ↓hk10]
  exact hK
theorem get_nil {w : World} {n : Int} {K : Value → World → Prop} (hK : ∀ w', Fr [] w w' → K (.tuple ([.agg ([.int .i64 0, .slice none 0 0] : List Value).toArray, .int .i64 3] : List Value).toArray) w') : CallsN Try.prog 15 [.pointer none, .int .i64 n] w K := by
  have cw := cur w
  refine call15 ?_
  by_cases c1 : n < 1
  · have d1 : decide (n < 1) = true := decide_eq_true c1
    simp (maxSteps := 4000000) (disch := (first | assumption | exact List.not_mem_nil | exact Fr.refl _ _ | ((repeat (first | assumption | apply cur_alloc | apply cur_setB | apply cur_drew | apply cur_drewN)); done) | omega | (simp only [gz, Value.cells, oneC]; first | done | omega) | ((simp only [List.mem_cons, List.not_mem_nil, or_false, gz]); omega) | rfl)) only [↓gsd, gs, ev, Nat.reduceAdd, Nat.reduceEqDiff, oneC, Value.cells, Option.isNone, gt, ↓hk15, d1]
    exact hK _ (by (repeat (first | exact Fr.refl _ _ | assumption | with_reducible apply Fr.alloc | with_reducible apply Fr.drew | with_reducible refine Fr.setB ?_ _ _ (.inr (by first | omega | (simp only [gz]; omega))) | with_reducible refine Fr.setB ?_ _ _ (.inl (by first | assumption | simp)) | with_reducible refine Fr.trans' ?_ (by assumption))))
  · have d1 : decide (n < 1) = false := decide_eq_false c1
    have d2 : decide (0 < n) = true := decide_eq_true (by omega)
    simp (maxSteps := 4000000) (disch := (first | assumption | exact List.not_mem_nil | exact Fr.refl _ _ | ((repeat (first | assumption | apply cur_alloc | apply cur_setB | apply cur_drew | apply cur_drewN)); done) | omega | (simp only [gz, Value.cells, oneC]; first | done | omega) | ((simp only [List.mem_cons, List.not_mem_nil, or_false, gz]); omega) | rfl)) only [↓gsd, gs, ev, Nat.reduceAdd, Nat.reduceEqDiff, oneC, Value.cells, Option.isNone, gt, ↓hk15, d1]
    refine last_nil ?_
    simp (maxSteps := 4000000) (disch := (first | assumption | exact List.not_mem_nil | exact Fr.refl _ _ | ((repeat (first | assumption | apply cur_alloc | apply cur_setB | apply cur_drew | apply cur_drewN)); done) | omega | (simp only [gz, Value.cells, oneC]; first | done | omega) | ((simp only [List.mem_cons, List.not_mem_nil, or_false, gz]); omega) | rfl)) only [↓gsd, gs, ev, Nat.reduceAdd, Nat.reduceEqDiff, oneC, Value.cells, Option.isNone, gt, ↓hk15, d2]
    exact hK _ (by (repeat (first | exact Fr.refl _ _ | assumption | with_reducible apply Fr.alloc | with_reducible apply Fr.drew | with_reducible refine Fr.setB ?_ _ _ (.inr (by first | omega | (simp only [gz]; omega))) | with_reducible refine Fr.setB ?_ _ _ (.inl (by first | assumption | simp)) | with_reducible refine Fr.trans' ?_ (by assumption))))
theorem first_nil {w : World} {s : ByteArray} {a : Int} {K : Value → World → Prop} (hK : ∀ w', Fr [] w w' → K (.tuple ([.int .i64 0, .bool false] : List Value).toArray) w') : CallsN Try.prog 11 [.pointer none, .string s, .int .i64 a] w K := by
  have cw := cur w
  refine call11 ?_
  simp (maxSteps := 4000000) (disch := (first | assumption | exact List.not_mem_nil | exact Fr.refl _ _ | ((repeat (first | assumption | apply cur_alloc | apply cur_setB | apply cur_drew | apply cur_drewN)); done) | omega | (simp only [gz, Value.cells, oneC]; first | done | omega) | ((simp only [List.mem_cons, List.not_mem_nil, or_false, gz]); omega) | rfl)) only [↓gsd, gs, ev, Nat.reduceAdd, Nat.reduceEqDiff, oneC, Value.cells, Option.isNone, gt, ↓hk11]
  exact hK _ (by (repeat (first | exact Fr.refl _ _ | assumption | with_reducible apply Fr.alloc | with_reducible apply Fr.drew | with_reducible refine Fr.setB ?_ _ _ (.inr (by first | omega | (simp only [gz]; omega))) | with_reducible refine Fr.setB ?_ _ _ (.inl (by first | assumption | simp)) | with_reducible refine Fr.trans' ?_ (by assumption))))
theorem clone_nil {w : World} {K : Value → World → Prop} (hK : K (.pointer none) w) : CallsN Try.prog 17 [.pointer none] w K := by
  have cw := cur w
  refine call17 ?_
  simp (maxSteps := 4000000) (disch := (first | assumption | exact List.not_mem_nil | exact Fr.refl _ _ | ((repeat (first | assumption | apply cur_alloc | apply cur_setB | apply cur_drew | apply cur_drewN)); done) | omega | (simp only [gz, Value.cells, oneC]; first | done | omega) | ((simp only [List.mem_cons, List.not_mem_nil, or_false, gz]); omega) | rfl)) only [↓gsd, gs, ev, Nat.reduceAdd, Nat.reduceEqDiff, oneC, Value.cells, Option.isNone, gt, ↓hk17]
  exact hK
theorem from_nil {w : World} {n m : Int} {K : Value → World → Prop} (hK : K (.slice none 0 0) w) : CallsN Try.prog 14 [.pointer none, .int .i64 n, .int .i64 m] w K := by
  have cw := cur w
  refine call14 ?_
  have d1 : decide (max n 1 ≤ 0) = false := decide_eq_false (by omega)
  simp (maxSteps := 4000000) (disch := (first | assumption | exact List.not_mem_nil | exact Fr.refl _ _ | ((repeat (first | assumption | apply cur_alloc | apply cur_setB | apply cur_drew | apply cur_drewN)); done) | omega | (simp only [gz, Value.cells, oneC]; first | done | omega) | ((simp only [List.mem_cons, List.not_mem_nil, or_false, gz]); omega) | rfl)) only [↓gsd, gs, ev, Nat.reduceAdd, Nat.reduceEqDiff, oneC, Value.cells, Option.isNone, gt, ↓hk14]
  refine loop_intro (fun e w' => e 0 = .pointer none ∧ e 2 = .int .i64 m ∧ e 7 = .slice none 0 0 ∧ e 1 = .int .i64 (max n 1) ∧ w' = w) (fun e _ => 0) ?_ ?_
  · simp (maxSteps := 4000000) (disch := (first | assumption | exact List.not_mem_nil | exact Fr.refl _ _ | ((repeat (first | assumption | apply cur_alloc | apply cur_setB | apply cur_drew | apply cur_drewN)); done) | omega | (simp only [gz, Value.cells, oneC]; first | done | omega) | ((simp only [List.mem_cons, List.not_mem_nil, or_false, gz]); omega) | rfl)) only [↓gsd, gs, ev, Nat.reduceAdd, Nat.reduceEqDiff, oneC, Value.cells, Option.isNone]
  · rintro e w1 k ⟨e0, e2, e7, e1, rfl⟩ hk
    simp (maxSteps := 4000000) (disch := (first | assumption | exact List.not_mem_nil | exact Fr.refl _ _ | ((repeat (first | assumption | apply cur_alloc | apply cur_setB | apply cur_drew | apply cur_drewN)); done) | omega | (simp only [gz, Value.cells, oneC]; first | done | omega) | ((simp only [List.mem_cons, List.not_mem_nil, or_false, gz]); omega) | rfl)) only [↓gsd, gs, ev, Nat.reduceAdd, Nat.reduceEqDiff, oneC, Value.cells, Option.isNone, gt, ↓hk14, e0, e1, e2, e7]
    refine last_nil ?_
    simp (maxSteps := 4000000) (disch := (first | assumption | exact List.not_mem_nil | exact Fr.refl _ _ | ((repeat (first | assumption | apply cur_alloc | apply cur_setB | apply cur_drew | apply cur_drewN)); done) | omega | (simp only [gz, Value.cells, oneC]; first | done | omega) | ((simp only [List.mem_cons, List.not_mem_nil, or_false, gz]); omega) | rfl)) only [↓gsd, gs, ev, Nat.reduceAdd, Nat.reduceEqDiff, oneC, Value.cells, Option.isNone, gt, ↓hk14, e0, e1, e2, e7, d1]
    exact hK
theorem chkK_a : chkK [⟨#[97]⟩] = 0 := by decide
theorem fx3 : appL [] [⟨#[97]⟩] = ((1, 0), [[⟨#[97]⟩]]) := by rw [appL_ok chkK_a (by decide)]; rfl
set_option maxHeartbeats 8000000 in
theorem none_law {w : World} {kd n m : Int} {ka : Option Addr} {kl kc : Nat} {s : ByteArray} {K : Value → World → Prop} (hK : ∀ w', Fr [] w w' → K (.bool true) w') :
    CallsN Try.prog 7 [.agg ([.int .u8 kd, .slice ka kl kc, .string s, .int .i64 n, .int .i64 m] : List Value).toArray] w K := by
  have cw := cur w
  refine call7 ?_
  simp (maxSteps := 4000000) (disch := (first | assumption | exact List.not_mem_nil | exact Fr.refl _ _ | ((repeat (first | assumption | apply cur_alloc | apply cur_setB | apply cur_drew | apply cur_drewN)); done) | omega | (simp only [gz, Value.cells, oneC]; first | done | omega) | ((simp only [List.mem_cons, List.not_mem_nil, or_false, gz]); omega) | rfl)) only [↓gsd, gs, ev, Nat.reduceAdd, Nat.reduceEqDiff, oneC, Value.cells, Option.isNone, gt, ↓hk7]
  generalize hW : World.alloc w _ = w0
  have hf0 : Fr [] w w0 := by rw [← hW]; (repeat (first | exact Fr.refl _ _ | assumption | with_reducible apply Fr.alloc | with_reducible apply Fr.drew | with_reducible refine Fr.setB ?_ _ _ (.inr (by first | omega | (simp only [gz]; omega))) | with_reducible refine Fr.setB ?_ _ _ (.inl (by first | assumption | simp)) | with_reducible refine Fr.trans' ?_ (by assumption)))
  have hz0 : w0.heap.size = w.heap.size + 1 := by rw [← hW]; simp only [gz]
  have ho : w0.heap[w.heap.size]? = some (.cells ([.int .u8 kd, .slice ka kl kc, .string s, .int .i64 n, .int .i64 m] : List Value).toArray 41 (0, 0)) := by rw [← hW]; exact get_alloc_new _ _
  clear hW
  have cw0 := cur w0
  refine fixed_spec fun w1 hf1 => ?_
  have cw1 := cur w1
  have hz1 := hf1.size
  have ho1 := hf1.getN ho
  have lt1 := lt_of_get _ _ ho1
  simp (maxSteps := 4000000) (disch := (first | assumption | exact List.not_mem_nil | exact Fr.refl _ _ | ((repeat (first | assumption | apply cur_alloc | apply cur_setB | apply cur_drew | apply cur_drewN)); done) | omega | (simp only [gz, Value.cells, oneC]; first | done | omega) | ((simp only [List.mem_cons, List.not_mem_nil, or_false, gz]); omega) | rfl)) only [↓gsd, gs, ev, Nat.reduceAdd, Nat.reduceEqDiff, oneC, Value.cells, Option.isNone, gt, ↓hk7, ho1]
  refine append_nil ?_
  simp (maxSteps := 4000000) (disch := (first | assumption | exact List.not_mem_nil | exact Fr.refl _ _ | ((repeat (first | assumption | apply cur_alloc | apply cur_setB | apply cur_drew | apply cur_drewN)); done) | omega | (simp only [gz, Value.cells, oneC]; first | done | omega) | ((simp only [List.mem_cons, List.not_mem_nil, or_false, gz]); omega) | rfl)) only [↓gsd, gs, ev, Nat.reduceAdd, Nat.reduceEqDiff, oneC, Value.cells, Option.isNone, gt, ↓hk7, ho1]
  refine get_nil fun w2 hf2 => ?_
  have cw2 := cur w2
  have hz2 := hf2.size
  have ho2 := hf2.getN ho1
  have lt2 := lt_of_get _ _ ho2
  simp (maxSteps := 4000000) (disch := (first | assumption | exact List.not_mem_nil | exact Fr.refl _ _ | ((repeat (first | assumption | apply cur_alloc | apply cur_setB | apply cur_drew | apply cur_drewN)); done) | omega | (simp only [gz, Value.cells, oneC]; first | done | omega) | ((simp only [List.mem_cons, List.not_mem_nil, or_false, gz]); omega) | rfl)) only [↓gsd, gs, ev, Nat.reduceAdd, Nat.reduceEqDiff, oneC, Value.cells, Option.isNone, gt, ↓hk7, ho2]
  generalize hW : World.alloc w2 _ = w3
  have hf3 : Fr [] w2 w3 := by rw [← hW]; (repeat (first | exact Fr.refl _ _ | assumption | with_reducible apply Fr.alloc | with_reducible apply Fr.drew | with_reducible refine Fr.setB ?_ _ _ (.inr (by first | omega | (simp only [gz]; omega))) | with_reducible refine Fr.setB ?_ _ _ (.inl (by first | assumption | simp)) | with_reducible refine Fr.trans' ?_ (by assumption)))
  have hz3 : w3.heap.size = w2.heap.size + 1 := by rw [← hW]; simp only [gz]
  have hr3 : w3.heap[w2.heap.size]? = some (.cells ([.int .i64 0, .slice none 0 0] : List Value).toArray 47 (0, 0)) := by rw [← hW]; exact get_alloc_new _ _
  clear hW
  have cw3 := cur w3
  have ho3 := hf3.getN ho2
  refine first_nil fun w4 hf4 => ?_
  have cw4 := cur w4
  have hz4 := hf4.size
  have ho4 := hf4.getN ho3
  have hr4 := hf4.getN hr3
  have lt4 := lt_of_get _ _ ho4
  have lr4 := lt_of_get _ _ hr4
  simp (maxSteps := 4000000) (disch := (first | assumption | exact List.not_mem_nil | exact Fr.refl _ _ | ((repeat (first | assumption | apply cur_alloc | apply cur_setB | apply cur_drew | apply cur_drewN)); done) | omega | (simp only [gz, Value.cells, oneC]; first | done | omega) | ((simp only [List.mem_cons, List.not_mem_nil, or_false, gz]); omega) | rfl)) only [↓gsd, gs, ev, Nat.reduceAdd, Nat.reduceEqDiff, oneC, Value.cells, Option.isNone, gt, ↓hk7, ho4, hr4]
  refine last_nil ?_
  simp (maxSteps := 4000000) (disch := (first | assumption | exact List.not_mem_nil | exact Fr.refl _ _ | ((repeat (first | assumption | apply cur_alloc | apply cur_setB | apply cur_drew | apply cur_drewN)); done) | omega | (simp only [gz, Value.cells, oneC]; first | done | omega) | ((simp only [List.mem_cons, List.not_mem_nil, or_false, gz]); omega) | rfl)) only [↓gsd, gs, ev, Nat.reduceAdd, Nat.reduceEqDiff, oneC, Value.cells, Option.isNone, gt, ↓hk7, ho4, hr4, bne_self_eq_false]
  refine from_nil ?_
  simp (maxSteps := 4000000) (disch := (first | assumption | exact List.not_mem_nil | exact Fr.refl _ _ | ((repeat (first | assumption | apply cur_alloc | apply cur_setB | apply cur_drew | apply cur_drewN)); done) | omega | (simp only [gz, Value.cells, oneC]; first | done | omega) | ((simp only [List.mem_cons, List.not_mem_nil, or_false, gz]); omega) | rfl)) only [↓gsd, gs, ev, Nat.reduceAdd, Nat.reduceEqDiff, oneC, Value.cells, Option.isNone, gt, ↓hk7, ho4, hr4, bne_self_eq_false]
  have d00 : decide (((0 : Nat) : Int) = 0) = true := rfl
  simp (maxSteps := 4000000) (disch := (first | assumption | exact List.not_mem_nil | exact Fr.refl _ _ | ((repeat (first | assumption | apply cur_alloc | apply cur_setB | apply cur_drew | apply cur_drewN)); done) | omega | (simp only [gz, Value.cells, oneC]; first | done | omega) | ((simp only [List.mem_cons, List.not_mem_nil, or_false, gz]); omega) | rfl)) only [↓gsd, gs, ev, Nat.reduceAdd, Nat.reduceEqDiff, oneC, Value.cells, Option.isNone, gt, ↓hk7, ho4, hr4, d00]
  refine clone_nil ?_
  simp (maxSteps := 4000000) (disch := (first | assumption | exact List.not_mem_nil | exact Fr.refl _ _ | ((repeat (first | assumption | apply cur_alloc | apply cur_setB | apply cur_drew | apply cur_drewN)); done) | omega | (simp only [gz, Value.cells, oneC]; first | done | omega) | ((simp only [List.mem_cons, List.not_mem_nil, or_false, gz]); omega) | rfl)) only [↓gsd, gs, ev, Nat.reduceAdd, Nat.reduceEqDiff, oneC, Value.cells, Option.isNone, gt, ↓hk7, ho4, hr4, bne_self_eq_false]
  generalize hW : World.alloc (World.alloc w4 _) _ = w5
  have hf5 : Fr [] w4 w5 := by rw [← hW]; (repeat (first | exact Fr.refl _ _ | assumption | with_reducible apply Fr.alloc | with_reducible apply Fr.drew | with_reducible refine Fr.setB ?_ _ _ (.inr (by first | omega | (simp only [gz]; omega))) | with_reducible refine Fr.setB ?_ _ _ (.inl (by first | assumption | simp)) | with_reducible refine Fr.trans' ?_ (by assumption)))
  have hz5 : w5.heap.size = w4.heap.size + 2 := by rw [← hW]; simp only [gz]
  have hl5 : LogAt w5 w4.heap.size [w4.heap.size] [] [] := by
    rw [← hW]
    refine ⟨⟨.slice none 0 0, [], ?_, Own.nil, rfl, fun i v ks hv => by simp at hv, fun b hb => by simp [Value.ownBlock] at hb⟩, by simp, fun x hx => by simp at hx; subst hx; simp only [gz]; omega, by simp, fun ks hks => by simp at hks⟩
    simp (maxSteps := 4000000) (disch := (first | assumption | exact List.not_mem_nil | exact Fr.refl _ _ | ((repeat (first | assumption | apply cur_alloc | apply cur_setB | apply cur_drew | apply cur_drewN)); done) | omega | (simp only [gz, Value.cells, oneC]; first | done | omega) | ((simp only [List.mem_cons, List.not_mem_nil, or_false, gz]); omega) | rfl)) only [↓gsd, gs, ev, Nat.reduceAdd, Nat.reduceEqDiff, oneC, Value.cells, Option.isNone]
  have hs5 : SlOf 1 encS w5 (.slice (some ⟨w4.heap.size + 1, 0, none⟩) 1 1) [⟨#[97]⟩] := by
    rw [← hW]
    have := sl_lit (w := w4.alloc (.cells ([.slice none 0 0] : List Value).toArray 56 (0, 0))) [⟨#[97]⟩]
    rw [size_alloc] at this
    exact this
  clear hW
  have cw5 := cur w5
  refine append_log hl5 hs5 (by decide) fun w6 W6 R6 h6 hf6 hW6 hR6 => ?_
  rw [fx3]
  have cw6 := cur w6
  simp (maxSteps := 4000000) (disch := (first | assumption | exact List.not_mem_nil | exact Fr.refl _ _ | ((repeat (first | assumption | apply cur_alloc | apply cur_setB | apply cur_drew | apply cur_drewN)); done) | omega | (simp only [gz, Value.cells, oneC]; first | done | omega) | ((simp only [List.mem_cons, List.not_mem_nil, or_false, gz]); omega) | rfl)) only [↓gsd, gs, ev, Nat.reduceAdd, Nat.reduceEqDiff, oneC, Value.cells, Option.isNone, gt, ↓hk7]
  refine hK _ (Fr.trans (((((hf0.trans' hf1).trans' hf2).trans' hf3).trans' hf4).trans' hf5) hf6 fun x hx => ?_)
  simp at hx
  have := hf0.size
  right; omega
end Go.Proofs.Ytenokheiindfkab
