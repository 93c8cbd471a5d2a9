/- GapPlays walked. -/
import Derived.Test.YtenokheiindfkaaV5
set_option linter.unusedVariables false
set_option linter.unusedSimpArgs false
set_option maxRecDepth 10000
namespace Go.Proofs.Ytenokheiindfkaa
open Go.VW
structure OpG where
  clr : Bool
  r : Rec
def encOp (o : OpG) : List Value := [.bool o.clr, .int .i64 o.r.n, .slice o.r.a o.r.l o.r.c]
theorem encOp_len (o : OpG) : (encOp o).length = 3 := rfl
theorem both_new {w0 w : World} {gb gm rb : Nat} {a m : Int} (hf : Fr [] w0 w) (hg : GapAtR w gb gm (GS.new a m)) (hr : RefAt w rb (.slice none 0 0) (GS.new a m)) (h1 : w0.heap.size ≤ gb) (h2 : w0.heap.size ≤ gm) (h3 : w0.heap.size ≤ rb) : Both w0 w gb rb (GS.new a m) :=
  ⟨hf, ⟨gm, _, hg, hr, h2, fun x hx => by simp [Value.ownBlock] at hx⟩, h1, h3, GS.new_wf _ _, fun p hp => by simp [GS.new] at hp, fun p hp => by simp [GS.new] at hp⟩
set_option maxHeartbeats 8000000 in
theorem plays_spec {a m : Int} {sv : Value} {ops : List OpG} {w : World} {K : Value → World → Prop} (h : SlOf 3 encOp w sv ops) (hr : ∀ o ∈ ops, RK w o.r) (hl : ops.length ≤ 9223372036854775807)
    (hK : ∀ w', Fr [] w w' → K (.bool true) w') : CallsN Try.prog 6 [.int .i64 a, .int .i64 m, sv] w K := by
  have cw := cur w
  obtain ⟨sa, sc, hsv⟩ := h.form
  refine call6 ?_
  simp (maxSteps := 4000000) (disch := (first | assumption | exact List.not_mem_nil | ((repeat (first | assumption | apply cur_alloc | apply cur_setB | apply cur_drew | apply cur_drewN)); done) | omega | (simp only [gz, Value.cells, oneC]; first | done | omega) | ((simp only [List.mem_cons, List.not_mem_nil, or_false, gz]); omega) | rfl)) only [↓gsd, gs, ev, Nat.reduceAdd, Nat.reduceEqDiff, oneC, Value.cells, Option.isNone, gt, ↓hk6]
  refine fixedG fun w1 hf1 => ?_
  have cw1 := cur w1
  have hz1 := hf1.size
  simp (maxSteps := 4000000) (disch := (first | assumption | exact List.not_mem_nil | ((repeat (first | assumption | apply cur_alloc | apply cur_setB | apply cur_drew | apply cur_drewN)); done) | omega | (simp only [gz, Value.cells, oneC]; first | done | omega) | ((simp only [List.mem_cons, List.not_mem_nil, or_false, gz]); omega) | rfl)) only [↓gsd, gs, ev, Nat.reduceAdd, Nat.reduceEqDiff, oneC, Value.cells, Option.isNone, gt, ↓hk6]
  refine newR fun gb gm w2 hf2 hgb hgm h2 => ?_
  have cw2 := cur w2
  have hz2 := hf2.size
  try simp (maxSteps := 4000000) (disch := (first | assumption | exact List.not_mem_nil | ((repeat (first | assumption | apply cur_alloc | apply cur_setB | apply cur_drew | apply cur_drewN)); done) | omega | (simp only [gz, Value.cells, oneC]; first | done | omega) | ((simp only [List.mem_cons, List.not_mem_nil, or_false, gz]); omega) | rfl)) only [↓gsd, gs, ev, Nat.reduceAdd, Nat.reduceEqDiff, oneC, Value.cells, Option.isNone, gt, ↓hk6]
  refine refNew fun rb w3 hf3 hrb h3 => ?_
  have cw3 := cur w3
  have hB := both_new (w0 := w) ((hf1.trans' hf2).trans' hf3) (h2.frN hf3) h3 (by omega) (by omega) (by omega)
  simp (maxSteps := 4000000) (disch := (first | assumption | exact List.not_mem_nil | ((repeat (first | assumption | apply cur_alloc | apply cur_setB | apply cur_drew | apply cur_drewN)); done) | omega | (simp only [gz, Value.cells, oneC]; first | done | omega) | ((simp only [List.mem_cons, List.not_mem_nil, or_false, gz]); omega) | rfl)) only [↓gsd, gs, ev, Nat.reduceAdd, Nat.reduceEqDiff, oneC, Value.cells, Option.isNone, gt, ↓hk6]
  refine loop_intro (fun e w' => ∃ (i : Nat) (g : GS Rec), i ≤ ops.length ∧ e 2 = sv ∧ e 7 = .pointer (some ⟨gb, 0, none⟩) ∧ e 8 = .pointer (some ⟨rb, 0, none⟩) ∧ e 9 = .int .i64 i ∧ Both w w' gb rb g) (fun e _ => ops.length - (numOf (e 9)).toNat) ?_ ?_
  · refine ⟨0, GS.new a m, Nat.zero_le _, ?_⟩
    simp (maxSteps := 4000000) (disch := (first | assumption | exact List.not_mem_nil | ((repeat (first | assumption | apply cur_alloc | apply cur_setB | apply cur_drew | apply cur_drewN)); done) | omega | (simp only [gz, Value.cells, oneC]; first | done | omega) | ((simp only [List.mem_cons, List.not_mem_nil, or_false, gz]); omega) | rfl)) only [↓gsd, gs, ev, Nat.reduceAdd, Nat.reduceEqDiff, oneC, Value.cells, Option.isNone, Int.natCast_zero]
    exact hB
  · rintro e w4 k ⟨i, g, hi, e2, e7, e8, e9, hB⟩ hk
    have cw4 := cur w4
    by_cases hil : i < ops.length
    · have d : decide ((i : Int) < (ops.length : Int)) = true := decide_eq_true (by omega)
      obtain ⟨o, ho⟩ : ∃ o, ops[i]? = some o := ⟨ops[i], List.getElem?_eq_getElem hil⟩
      obtain ⟨bb, off, cap, ob, hv1, hob, _, hrow, _⟩ := (h.frN hB.fr).read encOp_len i o ho
      simp only [encOp] at hrow
      have i0 : (0 : Int) ≤ (i : Int) := by omega
      have i1 : (i : Int) < (ops.length : Int) := by omega
      simp (maxSteps := 4000000) (disch := (first | assumption | exact List.not_mem_nil | ((repeat (first | assumption | apply cur_alloc | apply cur_setB | apply cur_drew | apply cur_drewN)); done) | omega | (simp only [gz, Value.cells, oneC]; first | done | omega) | ((simp only [List.mem_cons, List.not_mem_nil, or_false, gz]); omega) | rfl)) only [↓gsd, gs, ev, Nat.reduceAdd, Nat.reduceEqDiff, oneC, Value.cells, Option.isNone, gt, ↓hk6, e2, e7, e8, e9, hv1, d, i0, i1, Int.toNat_natCast, hob, hrow]
      refine step_spec hB (hr o (List.mem_of_getElem? ho)) fun w5 hB5 => ?_
      have cw5 := cur w5
      simp (maxSteps := 4000000) (disch := (first | assumption | exact List.not_mem_nil | ((repeat (first | assumption | apply cur_alloc | apply cur_setB | apply cur_drew | apply cur_drewN)); done) | omega | (simp only [gz, Value.cells, oneC]; first | done | omega) | ((simp only [List.mem_cons, List.not_mem_nil, or_false, gz]); omega) | rfl)) only [↓gsd, gs, ev, Nat.reduceAdd, Nat.reduceEqDiff, oneC, Value.cells, Option.isNone, gt, ↓hk6, e2, e7, e8, e9]
      refine hk _ _ ⟨i + 1, stepG g o.clr o.r, by omega, ?_⟩ ?_
      · simp (maxSteps := 4000000) (disch := (first | assumption | exact List.not_mem_nil | ((repeat (first | assumption | apply cur_alloc | apply cur_setB | apply cur_drew | apply cur_drewN)); done) | omega | (simp only [gz, Value.cells, oneC]; first | done | omega) | ((simp only [List.mem_cons, List.not_mem_nil, or_false, gz]); omega) | rfl)) only [↓gsd, gs, ev, Nat.reduceAdd, Nat.reduceEqDiff, oneC, Value.cells, Option.isNone, e2, e7, e8, e9, hv1, Int.natCast_add, Int.natCast_one]
        exact hB5
      · have e3 : ((i : Int) + 1).toNat = i + 1 := by omega
        simp (maxSteps := 4000000) (disch := (first | assumption | exact List.not_mem_nil | ((repeat (first | assumption | apply cur_alloc | apply cur_setB | apply cur_drew | apply cur_drewN)); done) | omega | (simp only [gz, Value.cells, oneC]; first | done | omega) | ((simp only [List.mem_cons, List.not_mem_nil, or_false, gz]); omega) | rfl)) only [↓gsd, gs, ev, Nat.reduceAdd, Nat.reduceEqDiff, oneC, Value.cells, Option.isNone, e9, numOf, Int.toNat_natCast, e3]; omega
    · have d : decide ((i : Int) < (ops.length : Int)) = false := decide_eq_false (by omega)
      obtain ⟨gm', vx', hg4, hr4, _, _⟩ := hB.ex
      obtain ⟨xa, xc, hvxf⟩ := hr4.own.sl.form
      have hh4 := hr4.head
      rw [hvxf] at hh4
      have hlt4 := lt_of_get _ _ hh4
      simp (maxSteps := 4000000) (disch := (first | assumption | exact List.not_mem_nil | ((repeat (first | assumption | apply cur_alloc | apply cur_setB | apply cur_drew | apply cur_drewN)); done) | omega | (simp only [gz, Value.cells, oneC]; first | done | omega) | ((simp only [List.mem_cons, List.not_mem_nil, or_false, gz]); omega) | rfl)) only [↓gsd, gs, ev, Nat.reduceAdd, Nat.reduceEqDiff, oneC, Value.cells, Option.isNone, gt, ↓hk6, e2, e7, e8, e9, hsv, d]
      refine draw_intro [] ?_
      simp (maxSteps := 4000000) (disch := (first | assumption | exact List.not_mem_nil | ((repeat (first | assumption | apply cur_alloc | apply cur_setB | apply cur_drew | apply cur_drewN)); done) | omega | (simp only [gz, Value.cells, oneC]; first | done | omega) | ((simp only [List.mem_cons, List.not_mem_nil, or_false, gz]); omega) | rfl)) only [↓gsd, gs, ev, Nat.reduceAdd, Nat.reduceEqDiff, oneC, Value.cells, Option.isNone, gt, ↓hk6, e2, e7, e8, e9, hh4]
      refine atR (hg4.frN (Fr.refl _ _).drew) ?_
      simp (maxSteps := 4000000) (disch := (first | assumption | exact List.not_mem_nil | ((repeat (first | assumption | apply cur_alloc | apply cur_setB | apply cur_drew | apply cur_drewN)); done) | omega | (simp only [gz, Value.cells, oneC]; first | done | omega) | ((simp only [List.mem_cons, List.not_mem_nil, or_false, gz]); omega) | rfl)) only [↓gsd, gs, ev, Nat.reduceAdd, Nat.reduceEqDiff, oneC, Value.cells, Option.isNone, gt, ↓hk6, e2, e7, e8, e9, hh4]
      exact ⟨Fr.refl _ _, hK _ (hB.fr.trans' (Fr.refl _ _).drew)⟩
end Go.Proofs.Ytenokheiindfkaa
