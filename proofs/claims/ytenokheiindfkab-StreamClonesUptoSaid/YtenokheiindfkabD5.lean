/- The log: From. -/
import Derived.Test.YtenokheiindfkabD4
set_option linter.unusedVariables false
set_option linter.unusedSimpArgs false
set_option maxRecDepth 10000
namespace Go.Proofs.Ytenokheiindfkab
open Go.VW
theorem getL_at {L : List Ks} {i : Nat} {ks : Ks} (h : L[i]? = some ks) : getL L ((i : Int) + 1) = some ks := by
  unfold getL
  rw [if_neg (by omega)]
  have : ((i : Int) + 1 - 1).toNat = i := by omega
  rw [this, h]
theorem fresh_app {w w1 w2 : World} {v : Value} (h1 : ∀ b, v.ownBlock = some b → w.heap.size ≤ b) (hf : Fr (blkL v) w1 w2) (h : Fr [] w w1) : Fr [] w w2 := h.trans hf fun x hx => .inr (h1 x (mem_blkL.1 hx))
set_option maxHeartbeats 4000000 in
theorem from_log {w : World} {lb : Nat} {Wr Rd : List Nat} {L : List Ks} {n m : Int} {K : Value → World → Prop} (h : LogAt w lb Wr Rd L)
    (hK : ∀ v w', RcsAt w' (fun b => w.heap.size ≤ b) (fun b => w.heap.size ≤ b) v (fromL L n m) → Fr [] w w' → K v w') : CallsN Try.prog 14 [.pointer (some ⟨lb, 0, none⟩), .int .i64 n, .int .i64 m] w K := by
  have cw := cur w
  have hL := h.len
  obtain ⟨d, hd⟩ : ∃ d, d = (n - 1).toNat := ⟨_, rfl⟩
  have hmax : max n 1 = (d : Int) + 1 := by omega
  have hlen : ∀ j, (((recsL L).drop d).take j).length = min j (L.length - d) := fun j => by rw [List.length_take, List.length_drop, recsL_len]
  refine call14 ?_
  simp (maxSteps := 4000000) (disch := (first | assumption | exact List.not_mem_nil | exact Fr.refl _ _ | ((repeat (first | assumption | apply cur_alloc | apply cur_setB | apply cur_drew | apply cur_drewN)); done) | omega | (simp only [gz, Value.cells, oneC]; first | done | omega) | ((simp only [List.mem_cons, List.not_mem_nil, or_false, gz]); omega) | rfl)) only [↓gsd, gs, ev, Nat.reduceAdd, Nat.reduceEqDiff, oneC, Value.cells, Option.isNone, gt, ↓hk14, hmax]
  refine loop_intro (fun e w' => ∃ (j : Nat) (vo : Value), j ≤ m.toNat ∧ (j ≤ L.length - d) ∧ e 0 = .pointer (some ⟨lb, 0, none⟩) ∧ e 2 = .int .i64 m ∧ e 7 = vo ∧ e 1 = .int .i64 ((d : Int) + j + 1) ∧
      RcsAt w' (fun b => w.heap.size ≤ b) (fun b => w.heap.size ≤ b) vo (((recsL L).drop d).take j) ∧ Fr [] w w') (fun e _ => (L.length + 1 - (numOf (e 1)).toNat)) ?_ ?_
  · refine ⟨0, .slice none 0 0, Nat.zero_le _, Nat.zero_le _, ?_⟩
    simp (maxSteps := 4000000) (disch := (first | assumption | exact List.not_mem_nil | exact Fr.refl _ _ | ((repeat (first | assumption | apply cur_alloc | apply cur_setB | apply cur_drew | apply cur_drewN)); done) | omega | (simp only [gz, Value.cells, oneC]; first | done | omega) | ((simp only [List.mem_cons, List.not_mem_nil, or_false, gz]); omega) | rfl)) only [↓gsd, gs, ev, Nat.reduceAdd, Nat.reduceEqDiff, oneC, Value.cells, Option.isNone, Int.natCast_zero, Int.add_zero]
    exact ⟨RcsAt.nil, Fr.refl _ _⟩
  · rintro e w1 k ⟨j, vo, hj, hjl, e0, e2, e7, e1, hr, hf⟩ hk
    have cw1 := cur w1
    have hz1 := hf.size
    have h1 := h.frN hf
    obtain ⟨oa, oc, hvo⟩ := hr.form
    have hol := hlen j
    rw [Nat.min_eq_left hjl] at hol
    rw [hol] at hvo
    have hdone : ¬ ((d : Int) + j + 1 ≤ (L.length : Int) ∧ (j : Int) < m) → ((recsL L).drop d).take j = fromL L n m := by
      intro hh
      unfold fromL
      rw [← hd]
      by_cases q : (d : Int) + j + 1 ≤ (L.length : Int)
      · have : j = m.toNat := by omega
        rw [this]
      · rw [List.take_of_length_le (by rw [List.length_drop, recsL_len]; omega), List.take_of_length_le (by rw [List.length_drop, recsL_len]; omega)]
    by_cases c1 : (d : Int) + j + 1 ≤ (L.length : Int)
    · have d1 : decide ((d : Int) + j + 1 ≤ (L.length : Int)) = true := decide_eq_true c1
      by_cases c2 : (j : Int) < m
      · have d2 : decide ((j : Int) < m) = true := decide_eq_true c2
        simp (maxSteps := 4000000) (disch := (first | assumption | exact List.not_mem_nil | exact Fr.refl _ _ | ((repeat (first | assumption | apply cur_alloc | apply cur_setB | apply cur_drew | apply cur_drewN)); done) | omega | (simp only [gz, Value.cells, oneC]; first | done | omega) | ((simp only [List.mem_cons, List.not_mem_nil, or_false, gz]); omega) | rfl)) only [↓gsd, gs, ev, Nat.reduceAdd, Nat.reduceEqDiff, oneC, Value.cells, Option.isNone, gt, ↓hk14, e0, e1, e2, e7]
        refine last_spec h1 ?_
        simp (maxSteps := 4000000) (disch := (first | assumption | exact List.not_mem_nil | exact Fr.refl _ _ | ((repeat (first | assumption | apply cur_alloc | apply cur_setB | apply cur_drew | apply cur_drewN)); done) | omega | (simp only [gz, Value.cells, oneC]; first | done | omega) | ((simp only [List.mem_cons, List.not_mem_nil, or_false, gz]); omega) | rfl)) only [↓gsd, gs, ev, Nat.reduceAdd, Nat.reduceEqDiff, oneC, Value.cells, Option.isNone, gt, ↓hk14, e0, e1, e2, e7, hvo, d1, d2]
        obtain ⟨ks, hks⟩ : ∃ ks, L[d + j]? = some ks := ⟨L[d + j]'(by omega), List.getElem?_eq_getElem (by omega)⟩
        have hg : getL L ((d : Int) + j + 1) = some ks := by have := getL_at hks; rwa [Int.natCast_add] at this
        refine get_log h1 (fun e => by rw [hg] at e; cases e) fun ks' r w2 hg' hf2 hrc => ?_
        rw [hg] at hg'; cases hg'
        have cw2 := cur w2
        have hz2 := hf2.size
        unfold Rc.v encRc
        have hF2 := hf.trans' hf2
        simp (maxSteps := 4000000) (disch := (first | assumption | exact List.not_mem_nil | exact Fr.refl _ _ | ((repeat (first | assumption | apply cur_alloc | apply cur_setB | apply cur_drew | apply cur_drewN)); done) | omega | (simp only [gz, Value.cells, oneC]; first | done | omega) | ((simp only [List.mem_cons, List.not_mem_nil, or_false, gz]); omega) | rfl)) only [↓gsd, gs, ev, Nat.reduceAdd, Nat.reduceEqDiff, oneC, Value.cells, Option.isNone, gt, ↓hk14, e0, e1, e2, e7]
        generalize hW : World.alloc (World.alloc w2 _) _ = w3
        have hf3 : Fr [] w2 w3 := by rw [← hW]; (repeat (first | exact Fr.refl _ _ | assumption | with_reducible apply Fr.alloc | with_reducible apply Fr.drew | with_reducible refine Fr.setB ?_ _ _ (.inr (by first | omega | (simp only [gz]; omega))) | with_reducible refine Fr.setB ?_ _ _ (.inl (by first | assumption | simp)) | with_reducible refine Fr.trans' ?_ (by assumption)))
        have hz3 : w3.heap.size = w2.heap.size + 2 := by rw [← hW]; simp only [gz]
        have hsl : Sl 2 w3 (.slice (some ⟨w2.heap.size + 1, 0, none⟩) 1 1) 1 (encRc r) := by
          rw [← hW]
          refine ⟨rfl, .inr ⟨w2.heap.size + 1, 0, 1, (encRc r).toArray, 47, (0, 0), rfl, ?_, rfl⟩⟩
          unfold encRc
          simp (maxSteps := 4000000) (disch := (first | assumption | exact List.not_mem_nil | exact Fr.refl _ _ | ((repeat (first | assumption | apply cur_alloc | apply cur_setB | apply cur_drew | apply cur_drewN)); done) | omega | (simp only [gz, Value.cells, oneC]; first | done | omega) | ((simp only [List.mem_cons, List.not_mem_nil, or_false, gz]); omega) | rfl)) only [↓gsd, gs, ev, Nat.reduceAdd, Nat.reduceEqDiff, oneC, Value.cells, Option.isNone]
        clear hW
        have cw3 := cur w3
        have hrc3 : RcIs w3 (fun b => w.heap.size ≤ b) r ((d : Int) + j + 1, ks) := (hrc.mono (fun b hb => Nat.le_trans hz1 hb)).frN hf3
        obtain ⟨v4, w4, hr4, hrs4, hf4⟩ := RcsAt.app ((hr.frN hf2).frN hf3) hrc3 (by rw [hol]; omega) hsl (fun b hb => by omega)
        have cw4 := cur w4
        have hF4 : Fr [] w w4 := fresh_app hr.blk hf4 (hF2.trans' hf3)
        have wr : IntKind.i64.wrap ((d : Int) + j + 1 + 1) = (d : Int) + (j + 1 : Nat) + 1 := by rw [wrap64 (by omega) (by omega)]; omega
        simp (maxSteps := 4000000) (disch := (first | assumption | exact List.not_mem_nil | exact Fr.refl _ _ | ((repeat (first | assumption | apply cur_alloc | apply cur_setB | apply cur_drew | apply cur_drewN)); done) | omega | (simp only [gz, Value.cells, oneC]; first | done | omega) | ((simp only [List.mem_cons, List.not_mem_nil, or_false, gz]); omega) | rfl)) only [↓gsd, gs, ev, Nat.reduceAdd, Nat.reduceEqDiff, oneC, Value.cells, Option.isNone, gt, ↓hk14, e0, e1, e2, e7, hr4, wr]
        refine hk _ _ ⟨j + 1, v4, by omega, by omega, ?_⟩ ?_
        · simp (maxSteps := 4000000) (disch := (first | assumption | exact List.not_mem_nil | exact Fr.refl _ _ | ((repeat (first | assumption | apply cur_alloc | apply cur_setB | apply cur_drew | apply cur_drewN)); done) | omega | (simp only [gz, Value.cells, oneC]; first | done | omega) | ((simp only [List.mem_cons, List.not_mem_nil, or_false, gz]); omega) | rfl)) only [↓gsd, gs, ev, Nat.reduceAdd, Nat.reduceEqDiff, oneC, Value.cells, Option.isNone, e0, e1, e2, e7]
          refine ⟨?_, hF4⟩
          have : ((recsL L).drop d).take (j + 1) = ((recsL L).drop d).take j ++ [((d : Int) + j + 1, ks)] := by
            rw [List.take_add_one, List.getElem?_drop, recsL_get, hks]
            simp
          rw [this]; exact hrs4
        · simp (maxSteps := 4000000) (disch := (first | assumption | exact List.not_mem_nil | exact Fr.refl _ _ | ((repeat (first | assumption | apply cur_alloc | apply cur_setB | apply cur_drew | apply cur_drewN)); done) | omega | (simp only [gz, Value.cells, oneC]; first | done | omega) | ((simp only [List.mem_cons, List.not_mem_nil, or_false, gz]); omega) | rfl)) only [↓gsd, gs, ev, Nat.reduceAdd, Nat.reduceEqDiff, oneC, Value.cells, Option.isNone, e1, numOf]; omega
      · have d2 : decide ((j : Int) < m) = false := decide_eq_false c2
        simp (maxSteps := 4000000) (disch := (first | assumption | exact List.not_mem_nil | exact Fr.refl _ _ | ((repeat (first | assumption | apply cur_alloc | apply cur_setB | apply cur_drew | apply cur_drewN)); done) | omega | (simp only [gz, Value.cells, oneC]; first | done | omega) | ((simp only [List.mem_cons, List.not_mem_nil, or_false, gz]); omega) | rfl)) only [↓gsd, gs, ev, Nat.reduceAdd, Nat.reduceEqDiff, oneC, Value.cells, Option.isNone, gt, ↓hk14, e0, e1, e2, e7]
        refine last_spec h1 ?_
        simp (maxSteps := 4000000) (disch := (first | assumption | exact List.not_mem_nil | exact Fr.refl _ _ | ((repeat (first | assumption | apply cur_alloc | apply cur_setB | apply cur_drew | apply cur_drewN)); done) | omega | (simp only [gz, Value.cells, oneC]; first | done | omega) | ((simp only [List.mem_cons, List.not_mem_nil, or_false, gz]); omega) | rfl)) only [↓gsd, gs, ev, Nat.reduceAdd, Nat.reduceEqDiff, oneC, Value.cells, Option.isNone, gt, ↓hk14, e0, e1, e2, e7, hvo, d1, d2]
        rw [hdone (by omega)] at hr
        rw [← hvo]
        exact hK _ _ hr hf
    · have d1 : decide ((d : Int) + j + 1 ≤ (L.length : Int)) = false := decide_eq_false c1
      simp (maxSteps := 4000000) (disch := (first | assumption | exact List.not_mem_nil | exact Fr.refl _ _ | ((repeat (first | assumption | apply cur_alloc | apply cur_setB | apply cur_drew | apply cur_drewN)); done) | omega | (simp only [gz, Value.cells, oneC]; first | done | omega) | ((simp only [List.mem_cons, List.not_mem_nil, or_false, gz]); omega) | rfl)) only [↓gsd, gs, ev, Nat.reduceAdd, Nat.reduceEqDiff, oneC, Value.cells, Option.isNone, gt, ↓hk14, e0, e1, e2, e7]
      refine last_spec h1 ?_
      simp (maxSteps := 4000000) (disch := (first | assumption | exact List.not_mem_nil | exact Fr.refl _ _ | ((repeat (first | assumption | apply cur_alloc | apply cur_setB | apply cur_drew | apply cur_drewN)); done) | omega | (simp only [gz, Value.cells, oneC]; first | done | omega) | ((simp only [List.mem_cons, List.not_mem_nil, or_false, gz]); omega) | rfl)) only [↓gsd, gs, ev, Nat.reduceAdd, Nat.reduceEqDiff, oneC, Value.cells, Option.isNone, gt, ↓hk14, e0, e1, e2, e7, hvo, d1]
      rw [hdone (by omega)] at hr
      rw [← hvo]
      exact hK _ _ hr hf
end Go.Proofs.Ytenokheiindfkab
