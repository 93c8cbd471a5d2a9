/- TableFinds walked: the puts. -/
import Derived.Test.YtldmkhakjnglmaaAH
set_option linter.unusedVariables false
set_option linter.unusedSimpArgs false
set_option maxRecDepth 10000
namespace Go.Proofs.Ytldmkhakjnglmaa
open Go.VW
theorem toList_bl (a : ByteArray) : a.toList = bl a := by rw [ByteArray.toList_eq]; rfl
theorem gts_eq (k l : ByteArray) : (!(Op.bytesLess k.toList l.toList || decide (k = l))) = true ↔ ltB l k := by
  rw [bytesLess_eq, toList_bl, toList_bl]
  simp only [Bool.not_eq_true', Bool.or_eq_false_iff, decide_eq_false_iff_not]
  constructor
  · rintro ⟨h1, h2⟩
    rcases ltB_tri k l with q | q | q
    · exact absurd q h1
    · exact absurd q h2
    · exact q
  · intro h
    exact ⟨fun q => ltB_irrefl _ (ltB_trans h q), fun q => by subst q; exact ltB_irrefl _ h⟩
theorem lts_eq (k l : ByteArray) : Op.bytesLess k.toList l.toList = true ↔ ltB k l := by
  rw [bytesLess_eq, toList_bl, toList_bl, decide_eq_true_eq]; rfl
set_option maxHeartbeats 16000000 in
theorem findsA {w0 w : World} {tb pb : Nat} {S : List Nat} {sv : Value} {l : Ents} {key x plo phi : Value} {e : Env} {Q : Exit → Env → World → Prop} (h : SlOf 8 encEnt w0 sv l) (hl : l.length ≤ 1048576) (h0 : TabAt w tb S tF0) (hS : ∀ y ∈ S, w0.heap.size ≤ y) (hpS : pb ∉ S) (hf : Fr [] w0 w) {pc : Array Value}
    (hp : w.heap[pb]? = some (.cells pc 38 (0, 0))) (e0 : e 0 = sv) (e1 : e 1 = key) (e2 : e 2 = x) (e11 : e 11 = .pointer (some ⟨tb, 0, none⟩)) (e12 : e 12 = .pointer (some ⟨pb, 0, none⟩))
    (hQ : ∀ (e' : Env) (w' : World) (S' : List Nat) (T : Tab), e' 1 = key → e' 2 = x → e' 11 = .pointer (some ⟨tb, 0, none⟩) → e' 12 = .pointer (some ⟨pb, 0, none⟩) → TabAt w' tb S' T → TabI T 1048576 → Fr [] w0 w' → w'.heap[pb]? = some (.cells pc 38 (0, 0)) → Q .normal e' w') : W3 Try.prog 173 V4 c4_37 Q e w := by
  have cw := cur w
  obtain ⟨oa, oc, hsa⟩ := h.form
  simp (maxSteps := 4000000) (disch := (first | assumption | exact List.not_mem_nil | exact Fr.refl _ _ | ((repeat (first | assumption | apply cur_alloc | apply cur_setB | apply cur_drew | apply cur_drewN)); done) | omega | (simp only [gz, Value.cells, oneC]; first | done | omega) | ((simp only [List.mem_cons, List.not_mem_nil, or_false, gz]); omega) | rfl)) only [↓gsd, gs, ev, Nat.reduceAdd, Nat.reduceEqDiff, oneC, Value.cells, Option.isNone, gt, frT_self, frT_drew, frT_drew0, frT_alloc, ↓hk4, e0, e1, e2, e11, e12]
  refine loop_intro (fun e w' => ∃ (i : Nat) (S' : List Nat) (T : Tab), i ≤ l.length ∧ e 0 = sv ∧ e 1 = key ∧ e 2 = x ∧ e 11 = .pointer (some ⟨tb, 0, none⟩) ∧ e 12 = .pointer (some ⟨pb, 0, none⟩) ∧ e 13 = .int .i64 i ∧ TabAt w' tb S' T ∧ TabI T i ∧ (∀ y ∈ S', w0.heap.size ≤ y) ∧ pb ∉ S' ∧ w'.heap[pb]? = some (.cells pc 38 (0, 0)) ∧ Fr [] w0 w') (fun e _ => l.length - (numOf (e 13)).toNat) ?_ ?_
  · refine ⟨0, S, tF0, Nat.zero_le _, ?_⟩
    simp (maxSteps := 4000000) (disch := (first | assumption | exact List.not_mem_nil | exact Fr.refl _ _ | ((repeat (first | assumption | apply cur_alloc | apply cur_setB | apply cur_drew | apply cur_drewN)); done) | omega | (simp only [gz, Value.cells, oneC]; first | done | omega) | ((simp only [List.mem_cons, List.not_mem_nil, or_false, gz]); omega) | rfl)) only [↓gsd, gs, ev, Nat.reduceAdd, Nat.reduceEqDiff, oneC, Value.cells, Option.isNone, e0, e1, e2, e11, e12, Int.natCast_zero]
    exact ⟨h0, TabI.new, hS, hpS, hp, hf⟩
  rintro e w1 k ⟨i, S', T, hi, e0, e1, e2, e11, e12, e13, hT, hI, hS', hp', hpc, hf1⟩ hk
  have cw1 := cur w1
  by_cases hil : i < l.length
  · have d : decide ((i : Int) < (l.length : Int)) = true := decide_eq_true (by omega)
    obtain ⟨y, hy⟩ : ∃ y, l[i]? = some y := ⟨l[i], List.getElem?_eq_getElem hil⟩
    obtain ⟨bb, off, cap, ob, hv1, hob, _, hrow, _⟩ := (SlOf.frN h hf1).read encEnt_len i y hy
    have i0 : (0 : Int) ≤ (i : Int) := by omega
    have i1 : (i : Int) < (l.length : Int) := by omega
    have i3 : ((i : Int) + 1).toNat = i + 1 := by omega
    simp (maxSteps := 4000000) (disch := (first | assumption | exact List.not_mem_nil | exact Fr.refl _ _ | ((repeat (first | assumption | apply cur_alloc | apply cur_setB | apply cur_drew | apply cur_drewN)); done) | omega | (simp only [gz, Value.cells, oneC]; first | done | omega) | ((simp only [List.mem_cons, List.not_mem_nil, or_false, gz]); omega) | rfl)) only [↓gsd, gs, ev, Nat.reduceAdd, Nat.reduceEqDiff, oneC, Value.cells, Option.isNone, gt, frT_self, frT_drew, frT_drew0, frT_alloc, ↓hk4, e0, e1, e2, e11, e12, e13, hv1, d, i0, i1, Int.toNat_natCast, hob, hrow]
    refine put_spec (e := y) hT hI.wf (by omega) fun w2 S2 hT2 hs2 hn2 hf2 => ?_
    have cw2 := cur w2
    have hz1 := hf1.size
    have hpl := lt_of_get _ _ hpc
    simp (maxSteps := 4000000) (disch := (first | assumption | exact List.not_mem_nil | exact Fr.refl _ _ | ((repeat (first | assumption | apply cur_alloc | apply cur_setB | apply cur_drew | apply cur_drewN)); done) | omega | (simp only [gz, Value.cells, oneC]; first | done | omega) | ((simp only [List.mem_cons, List.not_mem_nil, or_false, gz]); omega) | rfl)) only [↓gsd, gs, ev, Nat.reduceAdd, Nat.reduceEqDiff, oneC, Value.cells, Option.isNone, gt, frT_self, frT_drew, frT_drew0, frT_alloc, ↓hk4, e0, e1, e2, e11, e12, e13]
    refine hk _ _ ⟨i + 1, S2, T.putR y, by omega, ?_⟩ ?_
    · simp (maxSteps := 4000000) (disch := (first | assumption | exact List.not_mem_nil | exact Fr.refl _ _ | ((repeat (first | assumption | apply cur_alloc | apply cur_setB | apply cur_drew | apply cur_drewN)); done) | omega | (simp only [gz, Value.cells, oneC]; first | done | omega) | ((simp only [List.mem_cons, List.not_mem_nil, or_false, gz]); omega) | rfl)) only [↓gsd, gs, ev, Nat.reduceAdd, Nat.reduceEqDiff, oneC, Value.cells, Option.isNone, e0, e1, e2, e11, e12, e13, hv1, Int.natCast_add i 1, Int.natCast_one]
      refine ⟨hT2, hI.putR hT.nd y, fun z hz => ?_, fun hz => ?_, hf2.get hpc hp', hf1.trans hf2 fun z hz => .inr (hS' z hz)⟩
      · rcases hn2 z hz with q | q
        · exact hS' z q
        · omega
      · rcases hn2 pb hz with q | q
        · exact hp' q
        · omega
    · simp (maxSteps := 4000000) (disch := (first | assumption | exact List.not_mem_nil | exact Fr.refl _ _ | ((repeat (first | assumption | apply cur_alloc | apply cur_setB | apply cur_drew | apply cur_drewN)); done) | omega | (simp only [gz, Value.cells, oneC]; first | done | omega) | ((simp only [List.mem_cons, List.not_mem_nil, or_false, gz]); omega) | rfl)) only [↓gsd, gs, ev, Nat.reduceAdd, Nat.reduceEqDiff, oneC, Value.cells, Option.isNone, e13, numOf, Int.toNat_natCast, i3]; omega
  · have d : decide ((i : Int) < (l.length : Int)) = false := decide_eq_false (by omega)
    simp (maxSteps := 4000000) (disch := (first | assumption | exact List.not_mem_nil | exact Fr.refl _ _ | ((repeat (first | assumption | apply cur_alloc | apply cur_setB | apply cur_drew | apply cur_drewN)); done) | omega | (simp only [gz, Value.cells, oneC]; first | done | omega) | ((simp only [List.mem_cons, List.not_mem_nil, or_false, gz]); omega) | rfl)) only [↓gsd, gs, ev, Nat.reduceAdd, Nat.reduceEqDiff, oneC, Value.cells, Option.isNone, gt, frT_self, frT_drew, frT_drew0, frT_alloc, ↓hk4, e0, e1, e2, e11, e12, e13, hsa, d]
    exact hQ _ _ S' T (by simp (maxSteps := 4000000) (disch := (first | assumption | exact List.not_mem_nil | exact Fr.refl _ _ | ((repeat (first | assumption | apply cur_alloc | apply cur_setB | apply cur_drew | apply cur_drewN)); done) | omega | (simp only [gz, Value.cells, oneC]; first | done | omega) | ((simp only [List.mem_cons, List.not_mem_nil, or_false, gz]); omega) | rfl)) only [↓gsd, gs, ev, Nat.reduceAdd, Nat.reduceEqDiff, oneC, Value.cells, Option.isNone, e1]) (by simp (maxSteps := 4000000) (disch := (first | assumption | exact List.not_mem_nil | exact Fr.refl _ _ | ((repeat (first | assumption | apply cur_alloc | apply cur_setB | apply cur_drew | apply cur_drewN)); done) | omega | (simp only [gz, Value.cells, oneC]; first | done | omega) | ((simp only [List.mem_cons, List.not_mem_nil, or_false, gz]); omega) | rfl)) only [↓gsd, gs, ev, Nat.reduceAdd, Nat.reduceEqDiff, oneC, Value.cells, Option.isNone, e2]) (by simp (maxSteps := 4000000) (disch := (first | assumption | exact List.not_mem_nil | exact Fr.refl _ _ | ((repeat (first | assumption | apply cur_alloc | apply cur_setB | apply cur_drew | apply cur_drewN)); done) | omega | (simp only [gz, Value.cells, oneC]; first | done | omega) | ((simp only [List.mem_cons, List.not_mem_nil, or_false, gz]); omega) | rfl)) only [↓gsd, gs, ev, Nat.reduceAdd, Nat.reduceEqDiff, oneC, Value.cells, Option.isNone, e11]) (by simp (maxSteps := 4000000) (disch := (first | assumption | exact List.not_mem_nil | exact Fr.refl _ _ | ((repeat (first | assumption | apply cur_alloc | apply cur_setB | apply cur_drew | apply cur_drewN)); done) | omega | (simp only [gz, Value.cells, oneC]; first | done | omega) | ((simp only [List.mem_cons, List.not_mem_nil, or_false, gz]); omega) | rfl)) only [↓gsd, gs, ev, Nat.reduceAdd, Nat.reduceEqDiff, oneC, Value.cells, Option.isNone, e12]) hT ⟨hI.wf.mono (by omega), hI.ent, hI.key, by have := hI.len; omega⟩ hf1 hpc
end Go.Proofs.Ytldmkhakjnglmaa
