/- TableFinds walked: the look over all entries. -/
import Derived.Test.YtldmkhakjnglmaaAI
set_option linter.unusedVariables false
set_option linter.unusedSimpArgs false
set_option maxRecDepth 10000
namespace Go.Proofs.Ytldmkhakjnglmaa
open Go.VW
set_option maxHeartbeats 8000000 in
theorem findsB0 {w : World} {y : Ent} {x : Int} {e : Env} {Q : Exit → Env → World → Prop} (hx : 0 ≤ x ∧ x ≤ 255) (e2 : e 2 = .int .u8 x) (e20 : e 20 = .int .i64 y.hi)
    (hQ : ∀ e', (∀ i, i ≠ 20 → i ≠ 68 → e' i = e i) → e' 20 = .int .i64 (endE y x) → Q .normal e' w) : W3 Try.prog 173 V4 c4_32 Q e w := by
  have cw := cur w
  have wx : IntKind.i64.wrap x = x := wrap64 (by omega) (by omega)
  have wx1 : IntKind.i64.wrap (x + 1) = x + 1 := wrap64 (by omega) (by omega)
  by_cases h : y.hi = 4611686018427387904
  · have d : decide (y.hi = 4611686018427387904) = true := decide_eq_true h
    have he : endE y x = x + 1 := by unfold endE; rw [if_pos h]
    rw [he] at hQ
    simp (maxSteps := 4000000) (disch := (first | assumption | exact List.not_mem_nil | exact Fr.refl _ _ | ((repeat (first | assumption | apply cur_alloc | apply cur_setB | apply cur_drew | apply cur_drewN)); done) | omega | (simp only [gz, Value.cells, oneC]; first | done | omega) | ((simp only [List.mem_cons, List.not_mem_nil, or_false, gz]); omega) | rfl)) only [↓gsd, gs, ev, Nat.reduceAdd, Nat.reduceEqDiff, oneC, Value.cells, Option.isNone, gt, frT_self, frT_drew, frT_drew0, frT_alloc, ↓hk4, e2, e20, d, wx, wx1]
    refine hQ _ (fun i h1 h2 => ?_) ?_
    · first | rw [p_ne (h := h1), p_ne (h := h2)] | rw [p_ne (h := h2), p_ne (h := h1)] | rw [p_ne (h := h2)] | rw [p_ne (h := h1)]
    · simp (maxSteps := 4000000) (disch := (first | assumption | exact List.not_mem_nil | exact Fr.refl _ _ | ((repeat (first | assumption | apply cur_alloc | apply cur_setB | apply cur_drew | apply cur_drewN)); done) | omega | (simp only [gz, Value.cells, oneC]; first | done | omega) | ((simp only [List.mem_cons, List.not_mem_nil, or_false, gz]); omega) | rfl)) only [↓gsd, gs, ev, Nat.reduceAdd, Nat.reduceEqDiff, oneC, Value.cells, Option.isNone]
  · have d : decide (y.hi = 4611686018427387904) = false := decide_eq_false h
    have he : endE y x = y.hi := by unfold endE; rw [if_neg h]
    rw [he] at hQ
    simp (maxSteps := 4000000) (disch := (first | assumption | exact List.not_mem_nil | exact Fr.refl _ _ | ((repeat (first | assumption | apply cur_alloc | apply cur_setB | apply cur_drew | apply cur_drewN)); done) | omega | (simp only [gz, Value.cells, oneC]; first | done | omega) | ((simp only [List.mem_cons, List.not_mem_nil, or_false, gz]); omega) | rfl)) only [↓gsd, gs, ev, Nat.reduceAdd, Nat.reduceEqDiff, oneC, Value.cells, Option.isNone, gt, frT_self, frT_drew, frT_drew0, frT_alloc, ↓hk4, e2, e20, d]
    refine hQ _ (fun i h1 h2 => ?_) ?_
    · first | rw [p_ne (h := h1), p_ne (h := h2)] | rw [p_ne (h := h2), p_ne (h := h1)] | rw [p_ne (h := h2)] | rw [p_ne (h := h1)]
    · simp (maxSteps := 4000000) (disch := (first | assumption | exact List.not_mem_nil | exact Fr.refl _ _ | ((repeat (first | assumption | apply cur_alloc | apply cur_setB | apply cur_drew | apply cur_drewN)); done) | omega | (simp only [gz, Value.cells, oneC]; first | done | omega) | ((simp only [List.mem_cons, List.not_mem_nil, or_false, gz]); omega) | rfl)) only [↓gsd, gs, ev, Nat.reduceAdd, Nat.reduceEqDiff, oneC, Value.cells, Option.isNone, e20]
set_option maxHeartbeats 8000000 in
theorem findsB1 {w : World} {y : Ent} {key : ByteArray} {x plo phi b : Int} {fb pb : Nat} {e : Env} {Q : Exit → Env → World → Prop} (gf : w.heap[fb]? = some (.cells (encFct y).toArray 34 (0, 0))) (gp : w.heap[pb]? = some (.cells ([.int .i64 plo, .int .i64 phi] : List Value).toArray 38 (0, 0)))
    (e1 : e 1 = .string key) (e12 : e 12 = .pointer (some ⟨pb, 0, none⟩)) (e17 : e 17 = .int .i64 b) (e19 : e 19 = .pointer (some ⟨fb, 0, none⟩)) (e20 : e 20 = .int .i64 (endE y x))
    (hQ : ∀ e', (∀ i, i ≠ 17 → i ≠ 93 → e' i = e i) → e' 17 = .int .i64 (bstep key x plo phi b y) → Q .normal e' w) : W3 Try.prog 173 V4 c4_29 Q e w := by
  have cw := cur w
  have hl := lt_of_get _ _ gf
  have hp := lt_of_get _ _ gp
  unfold encFct at gf
  by_cases h1 : y.key = key
  · have d1 : decide (y.key = key) = true := decide_eq_true h1
    by_cases h2 : max y.lo plo < min (endE y x) phi
    · have d2 : decide (max y.lo plo < min (endE y x) phi) = true := decide_eq_true h2
      by_cases h3 : b < y.lo
      · have d3 : decide (b < y.lo) = true := decide_eq_true h3
        have he : bstep key x plo phi b y = y.lo := by unfold bstep; rw [if_pos ⟨h1, h2, h3⟩]
        rw [he] at hQ
        simp (maxSteps := 4000000) (disch := (first | assumption | exact List.not_mem_nil | exact Fr.refl _ _ | ((repeat (first | assumption | apply cur_alloc | apply cur_setB | apply cur_drew | apply cur_drewN)); done) | omega | (simp only [gz, Value.cells, oneC]; first | done | omega) | ((simp only [List.mem_cons, List.not_mem_nil, or_false, gz]); omega) | rfl)) only [↓gsd, gs, ev, Nat.reduceAdd, Nat.reduceEqDiff, oneC, Value.cells, Option.isNone, gt, frT_self, frT_drew, frT_drew0, frT_alloc, ↓hk4, e1, e12, e17, e19, e20, gf, gp, d1, d2, d3]
        refine hQ _ (fun i h1 h2 => ?_) ?_
        · first | rw [p_ne (h := h1), p_ne (h := h2)] | rw [p_ne (h := h2), p_ne (h := h1)] | rw [p_ne (h := h2)] | rw [p_ne (h := h1)]
        · simp (maxSteps := 4000000) (disch := (first | assumption | exact List.not_mem_nil | exact Fr.refl _ _ | ((repeat (first | assumption | apply cur_alloc | apply cur_setB | apply cur_drew | apply cur_drewN)); done) | omega | (simp only [gz, Value.cells, oneC]; first | done | omega) | ((simp only [List.mem_cons, List.not_mem_nil, or_false, gz]); omega) | rfl)) only [↓gsd, gs, ev, Nat.reduceAdd, Nat.reduceEqDiff, oneC, Value.cells, Option.isNone]
      · have d3 : decide (b < y.lo) = false := decide_eq_false h3
        have he : bstep key x plo phi b y = b := by unfold bstep; rw [if_neg (fun q => h3 q.2.2)]
        rw [he] at hQ
        simp (maxSteps := 4000000) (disch := (first | assumption | exact List.not_mem_nil | exact Fr.refl _ _ | ((repeat (first | assumption | apply cur_alloc | apply cur_setB | apply cur_drew | apply cur_drewN)); done) | omega | (simp only [gz, Value.cells, oneC]; first | done | omega) | ((simp only [List.mem_cons, List.not_mem_nil, or_false, gz]); omega) | rfl)) only [↓gsd, gs, ev, Nat.reduceAdd, Nat.reduceEqDiff, oneC, Value.cells, Option.isNone, gt, frT_self, frT_drew, frT_drew0, frT_alloc, ↓hk4, e1, e12, e17, e19, e20, gf, gp, d1, d2, d3]
        refine hQ _ (fun i h1 h2 => ?_) ?_
        · first | rw [p_ne (h := h1), p_ne (h := h2)] | rw [p_ne (h := h2), p_ne (h := h1)] | rw [p_ne (h := h2)] | rw [p_ne (h := h1)]
        · simp (maxSteps := 4000000) (disch := (first | assumption | exact List.not_mem_nil | exact Fr.refl _ _ | ((repeat (first | assumption | apply cur_alloc | apply cur_setB | apply cur_drew | apply cur_drewN)); done) | omega | (simp only [gz, Value.cells, oneC]; first | done | omega) | ((simp only [List.mem_cons, List.not_mem_nil, or_false, gz]); omega) | rfl)) only [↓gsd, gs, ev, Nat.reduceAdd, Nat.reduceEqDiff, oneC, Value.cells, Option.isNone, e17]
    · have d2 : decide (max y.lo plo < min (endE y x) phi) = false := decide_eq_false h2
      have he : bstep key x plo phi b y = b := by unfold bstep; rw [if_neg (fun q => h2 q.2.1)]
      rw [he] at hQ
      simp (maxSteps := 4000000) (disch := (first | assumption | exact List.not_mem_nil | exact Fr.refl _ _ | ((repeat (first | assumption | apply cur_alloc | apply cur_setB | apply cur_drew | apply cur_drewN)); done) | omega | (simp only [gz, Value.cells, oneC]; first | done | omega) | ((simp only [List.mem_cons, List.not_mem_nil, or_false, gz]); omega) | rfl)) only [↓gsd, gs, ev, Nat.reduceAdd, Nat.reduceEqDiff, oneC, Value.cells, Option.isNone, gt, frT_self, frT_drew, frT_drew0, frT_alloc, ↓hk4, e1, e12, e17, e19, e20, gf, gp, d1, d2]
      refine hQ _ (fun i h1 h2 => ?_) ?_
      · first | rw [p_ne (h := h1), p_ne (h := h2)] | rw [p_ne (h := h2), p_ne (h := h1)] | rw [p_ne (h := h2)] | rw [p_ne (h := h1)]
      · simp (maxSteps := 4000000) (disch := (first | assumption | exact List.not_mem_nil | exact Fr.refl _ _ | ((repeat (first | assumption | apply cur_alloc | apply cur_setB | apply cur_drew | apply cur_drewN)); done) | omega | (simp only [gz, Value.cells, oneC]; first | done | omega) | ((simp only [List.mem_cons, List.not_mem_nil, or_false, gz]); omega) | rfl)) only [↓gsd, gs, ev, Nat.reduceAdd, Nat.reduceEqDiff, oneC, Value.cells, Option.isNone, e17]
  · have d1 : decide (y.key = key) = false := decide_eq_false h1
    have he : bstep key x plo phi b y = b := by unfold bstep; rw [if_neg (fun q => h1 q.1)]
    rw [he] at hQ
    simp (maxSteps := 4000000) (disch := (first | assumption | exact List.not_mem_nil | exact Fr.refl _ _ | ((repeat (first | assumption | apply cur_alloc | apply cur_setB | apply cur_drew | apply cur_drewN)); done) | omega | (simp only [gz, Value.cells, oneC]; first | done | omega) | ((simp only [List.mem_cons, List.not_mem_nil, or_false, gz]); omega) | rfl)) only [↓gsd, gs, ev, Nat.reduceAdd, Nat.reduceEqDiff, oneC, Value.cells, Option.isNone, gt, frT_self, frT_drew, frT_drew0, frT_alloc, ↓hk4, e1, e12, e17, e19, e20, gf, gp, d1]
    refine hQ _ (fun i h1 h2 => ?_) ?_
    · first | rw [p_ne (h := h1), p_ne (h := h2)] | rw [p_ne (h := h2), p_ne (h := h1)] | rw [p_ne (h := h2)] | rw [p_ne (h := h1)]
    · simp (maxSteps := 4000000) (disch := (first | assumption | exact List.not_mem_nil | exact Fr.refl _ _ | ((repeat (first | assumption | apply cur_alloc | apply cur_setB | apply cur_drew | apply cur_drewN)); done) | omega | (simp only [gz, Value.cells, oneC]; first | done | omega) | ((simp only [List.mem_cons, List.not_mem_nil, or_false, gz]); omega) | rfl)) only [↓gsd, gs, ev, Nat.reduceAdd, Nat.reduceEqDiff, oneC, Value.cells, Option.isNone, e17]
end Go.Proofs.Ytldmkhakjnglmaa
