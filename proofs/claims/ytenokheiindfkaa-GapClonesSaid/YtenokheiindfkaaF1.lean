/- Records: one, Same, SameAll. -/
import Derived.Test.YtenokheiindfkaaWR
set_option linter.unusedVariables false
set_option linter.unusedSimpArgs false
set_option maxRecDepth 10000
namespace Go.Proofs.Ytenokheiindfkaa
open Go.VW
def encS (s : ByteArray) : List Value := [.string s]
theorem encS_len (s : ByteArray) : (encS s).length = 1 := rfl
theorem encR_len (r : Rec) : (encR r).length = 2 := rfl
def RecK (w : World) (r : Rec) (ks : List ByteArray) : Prop := SlOf 1 encS w (.slice r.a r.l r.c) ks
theorem RecK.frN {w w' : World} {r : Rec} {ks : List ByteArray} (h : RecK w r ks) (hf : Fr [] w w') : RecK w' r ks := SlOf.frN h hf
theorem one_spec {n : Int} {s : ByteArray} {w : World} {K : Value → World → Prop} (hK : ∀ b w', Fr [] w w' → w.heap.size ≤ b → b < w'.heap.size → RecK w' ⟨n, some ⟨b, 0, none⟩, 1, 1⟩ [s] → K (recV ⟨n, some ⟨b, 0, none⟩, 1, 1⟩) w') :
    CallsN Try.prog 59 [.int .i64 n, .string s] w K := by
  have cw := cur w
  refine call59 ?_
  simp (maxSteps := 4000000) (disch := (first | assumption | exact List.not_mem_nil | ((repeat (first | assumption | apply cur_alloc | apply cur_setB | apply cur_drew | apply cur_drewN)); done) | omega | (simp only [gz, Value.cells, oneC]; first | done | omega) | ((simp only [List.mem_cons, List.not_mem_nil, or_false, gz]); omega) | rfl)) only [↓gsd, gs, ev, Nat.reduceAdd, Nat.reduceEqDiff, oneC, Value.cells, Option.isNone, gt, ↓hk59]
  refine hK (w.heap.size + 1) _ (by (repeat (first | exact Fr.refl _ _ | assumption | with_reducible apply Fr.alloc | with_reducible apply Fr.drew | with_reducible refine Fr.setB ?_ _ _ (.inr (by first | omega | (simp only [gz]; omega))) | with_reducible refine Fr.setB ?_ _ _ (.inl (by first | assumption | simp)) | with_reducible refine Fr.trans' ?_ (by assumption)))) (by omega) (by simp only [gz]; omega) ?_
  refine ⟨rfl, .inr ⟨w.heap.size + 1, 0, 1, (#[.string s] : Array Value), 9, (0, 0), rfl, ?_, rfl⟩⟩
  simp (maxSteps := 4000000) (disch := (first | assumption | exact List.not_mem_nil | ((repeat (first | assumption | apply cur_alloc | apply cur_setB | apply cur_drew | apply cur_drewN)); done) | omega | (simp only [gz, Value.cells, oneC]; first | done | omega) | ((simp only [List.mem_cons, List.not_mem_nil, or_false, gz]); omega) | rfl)) only [↓gsd, gs, ev, Nat.reduceAdd, Nat.reduceEqDiff, oneC, Value.cells, Option.isNone]
theorem same_true {r r' : Rec} {ks : List ByteArray} {w : World} {K : Value → World → Prop} (hn : r.n = r'.n) (h : RecK w r ks) (h' : RecK w r' ks) (hl : r.l ≤ 9223372036854775807)
    (hK : ∀ w', Fr [] w w' → K (.bool true) w') : CallsN Try.prog 86 [recV r, recV r'] w K := by
  have cw := cur w
  obtain ⟨n, a, l, c⟩ := r
  obtain ⟨n', a', l', c'⟩ := r'
  simp only at hn hl
  subst hn
  obtain ⟨_, _, e1⟩ := SlOf.form h
  obtain ⟨_, _, e2⟩ := SlOf.form h'
  simp only [Value.slice.injEq] at e1 e2
  obtain ⟨rfl, rfl, rfl⟩ := e1
  obtain ⟨rfl, e2, rfl⟩ := e2
  subst e2
  refine call86 ?_
  simp (maxSteps := 4000000) (disch := (first | assumption | exact List.not_mem_nil | ((repeat (first | assumption | apply cur_alloc | apply cur_setB | apply cur_drew | apply cur_drewN)); done) | omega | (simp only [gz, Value.cells, oneC]; first | done | omega) | ((simp only [List.mem_cons, List.not_mem_nil, or_false, gz]); omega) | rfl)) only [↓gsd, gs, ev, Nat.reduceAdd, Nat.reduceEqDiff, oneC, Value.cells, Option.isNone, gt, ↓hk86]
  refine loop_intro (fun e w' => ∃ i : Nat, i ≤ ks.length ∧ e 2 = .pointer (some ⟨w.heap.size, 0, none⟩) ∧ e 3 = .pointer (some ⟨w.heap.size + 1, 0, none⟩) ∧ e 5 = .int .i64 i ∧
      w'.heap[w.heap.size]? = some (.cells ([.int .i64 n, .slice a ks.length c] : List Value).toArray 54 (0, 0)) ∧ w'.heap[w.heap.size + 1]? = some (.cells ([.int .i64 n, .slice a' ks.length c'] : List Value).toArray 54 (0, 0)) ∧ Fr [] w w')
    (fun e _ => ks.length - (numOf (e 5)).toNat) ?_ ?_
  · refine ⟨0, Nat.zero_le _, ?_⟩
    simp (maxSteps := 4000000) (disch := (first | assumption | exact List.not_mem_nil | ((repeat (first | assumption | apply cur_alloc | apply cur_setB | apply cur_drew | apply cur_drewN)); done) | omega | (simp only [gz, Value.cells, oneC]; first | done | omega) | ((simp only [List.mem_cons, List.not_mem_nil, or_false, gz]); omega) | rfl)) only [↓gsd, gs, ev, Nat.reduceAdd, Nat.reduceEqDiff, oneC, Value.cells, Option.isNone, Int.natCast_zero]
    (repeat (first | exact Fr.refl _ _ | assumption | with_reducible apply Fr.alloc | with_reducible apply Fr.drew | with_reducible refine Fr.setB ?_ _ _ (.inr (by first | omega | (simp only [gz]; omega))) | with_reducible refine Fr.setB ?_ _ _ (.inl (by first | assumption | simp)) | with_reducible refine Fr.trans' ?_ (by assumption)))
  · rintro e w1 k ⟨i, hi, e2, e3, e5, g2, g3, hf⟩ hk
    have cw1 := cur w1
    have hz1 := hf.size
    have hlt2 := lt_of_get _ _ g2
    have hlt3 := lt_of_get _ _ g3
    by_cases hil : i < ks.length
    · have d : decide ((i : Int) < (ks.length : Int)) = true := decide_eq_true (by omega)
      obtain ⟨s, hs⟩ : ∃ s, ks[i]? = some s := ⟨ks[i], List.getElem?_eq_getElem hil⟩
      obtain ⟨b1, o1, p1, ob1, hv1, hb1, _, _, hc1⟩ := (h.frN hf).read encS_len i s hs
      obtain ⟨b2, o2, p2, ob2, hv2, hb2, _, _, hc2⟩ := (h'.frN hf).read encS_len i s hs
      simp only [Value.slice.injEq] at hv1 hv2
      obtain ⟨rfl, _, rfl⟩ := hv1
      obtain ⟨rfl, _, rfl⟩ := hv2
      have hd1 := fun orig K => hc1 0 (.string s) orig K rfl
      have hd2 := fun orig K => hc2 0 (.string s) orig K rfl
      simp only [Nat.mul_one, Nat.add_zero] at hd1 hd2
      have i0 : (0 : Int) ≤ (i : Int) := by omega
      have i1 : (i : Int) < (ks.length : Int) := by omega
      simp (maxSteps := 4000000) (disch := (first | assumption | exact List.not_mem_nil | ((repeat (first | assumption | apply cur_alloc | apply cur_setB | apply cur_drew | apply cur_drewN)); done) | omega | (simp only [gz, Value.cells, oneC]; first | done | omega) | ((simp only [List.mem_cons, List.not_mem_nil, or_false, gz]); omega) | rfl)) only [↓gsd, gs, ev, Nat.reduceAdd, Nat.reduceEqDiff, oneC, Value.cells, Option.isNone, gt, ↓hk86, e2, e3, e5, g2, g3, d]
      refine draw_intro [] ?_
      simp (maxSteps := 4000000) (disch := (first | assumption | exact List.not_mem_nil | ((repeat (first | assumption | apply cur_alloc | apply cur_setB | apply cur_drew | apply cur_drewN)); done) | omega | (simp only [gz, Value.cells, oneC]; first | done | omega) | ((simp only [List.mem_cons, List.not_mem_nil, or_false, gz]); omega) | rfl)) only [↓gsd, gs, ev, Nat.reduceAdd, Nat.reduceEqDiff, oneC, Value.cells, Option.isNone, gt, ↓hk86, e2, e3, e5, g2, g3, i0, i1, Int.toNat_natCast, Nat.mul_one, hb1, hb2, hd1, hd2]
      refine hk _ _ ⟨i + 1, by omega, ?_⟩ ?_
      · simp (maxSteps := 4000000) (disch := (first | assumption | exact List.not_mem_nil | ((repeat (first | assumption | apply cur_alloc | apply cur_setB | apply cur_drew | apply cur_drewN)); done) | omega | (simp only [gz, Value.cells, oneC]; first | done | omega) | ((simp only [List.mem_cons, List.not_mem_nil, or_false, gz]); omega) | rfl)) only [↓gsd, gs, ev, Nat.reduceAdd, Nat.reduceEqDiff, oneC, Value.cells, Option.isNone, e2, e3, e5, g2, g3, Int.natCast_add, Int.natCast_one]
        (repeat (first | exact Fr.refl _ _ | assumption | with_reducible apply Fr.alloc | with_reducible apply Fr.drew | with_reducible refine Fr.setB ?_ _ _ (.inr (by first | omega | (simp only [gz]; omega))) | with_reducible refine Fr.setB ?_ _ _ (.inl (by first | assumption | simp)) | with_reducible refine Fr.trans' ?_ (by assumption)))
      · have e3 : ((i : Int) + 1).toNat = i + 1 := by omega
        simp (maxSteps := 4000000) (disch := (first | assumption | exact List.not_mem_nil | ((repeat (first | assumption | apply cur_alloc | apply cur_setB | apply cur_drew | apply cur_drewN)); done) | omega | (simp only [gz, Value.cells, oneC]; first | done | omega) | ((simp only [List.mem_cons, List.not_mem_nil, or_false, gz]); omega) | rfl)) only [↓gsd, gs, ev, Nat.reduceAdd, Nat.reduceEqDiff, oneC, Value.cells, Option.isNone, e5, numOf, Int.toNat_natCast, e3]; omega
    · have d : decide ((i : Int) < (ks.length : Int)) = false := decide_eq_false (by omega)
      simp (maxSteps := 4000000) (disch := (first | assumption | exact List.not_mem_nil | ((repeat (first | assumption | apply cur_alloc | apply cur_setB | apply cur_drew | apply cur_drewN)); done) | omega | (simp only [gz, Value.cells, oneC]; first | done | omega) | ((simp only [List.mem_cons, List.not_mem_nil, or_false, gz]); omega) | rfl)) only [↓gsd, gs, ev, Nat.reduceAdd, Nat.reduceEqDiff, oneC, Value.cells, Option.isNone, gt, ↓hk86, e2, e3, e5, g2, g3, d]
      exact hK _ hf
theorem sameAll_true {va vb : Value} {rs rs' : List Rec} {w : World} {K : Value → World → Prop} (ha : SlOf 2 encR w va rs) (hb : SlOf 2 encR w vb rs') (hl : rs.length = rs'.length) (hm : rs.length ≤ 9223372036854775806)
    (he : ∀ (i : Nat) r r', rs[i]? = some r → rs'[i]? = some r' → r.n = r'.n ∧ ∃ ks, RecK w r ks ∧ RecK w r' ks ∧ r.l ≤ 9223372036854775807)
    (hK : ∀ w', Fr [] w w' → K (.bool true) w') : CallsN Try.prog 61 [va, vb] w K := by
  have cw := cur w
  obtain ⟨aa, ac, hva⟩ := ha.form
  obtain ⟨ba, bc, hvb⟩ := hb.form
  have d0 : decide ((rs.length : Int) = (rs'.length : Int)) = true := decide_eq_true (by omega)
  refine call61 ?_
  simp (maxSteps := 4000000) (disch := (first | assumption | exact List.not_mem_nil | ((repeat (first | assumption | apply cur_alloc | apply cur_setB | apply cur_drew | apply cur_drewN)); done) | omega | (simp only [gz, Value.cells, oneC]; first | done | omega) | ((simp only [List.mem_cons, List.not_mem_nil, or_false, gz]); omega) | rfl)) only [↓gsd, gs, ev, Nat.reduceAdd, Nat.reduceEqDiff, oneC, Value.cells, Option.isNone, gt, ↓hk61, hva, hvb, d0]
  rw [← hva, ← hvb]
  refine loop_intro (fun e w' => ∃ i : Nat, i ≤ rs.length ∧ e 0 = va ∧ e 1 = vb ∧ e 5 = .int .i64 i ∧ Fr [] w w')
    (fun e _ => rs.length - (numOf (e 5)).toNat) ?_ ?_
  · refine ⟨0, Nat.zero_le _, ?_⟩
    simp (maxSteps := 4000000) (disch := (first | assumption | exact List.not_mem_nil | ((repeat (first | assumption | apply cur_alloc | apply cur_setB | apply cur_drew | apply cur_drewN)); done) | omega | (simp only [gz, Value.cells, oneC]; first | done | omega) | ((simp only [List.mem_cons, List.not_mem_nil, or_false, gz]); omega) | rfl)) only [↓gsd, gs, ev, Nat.reduceAdd, Nat.reduceEqDiff, oneC, Value.cells, Option.isNone, Int.natCast_zero]
    (repeat (first | exact Fr.refl _ _ | assumption | with_reducible apply Fr.alloc | with_reducible apply Fr.drew | with_reducible refine Fr.setB ?_ _ _ (.inr (by first | omega | (simp only [gz]; omega))) | with_reducible refine Fr.setB ?_ _ _ (.inl (by first | assumption | simp)) | with_reducible refine Fr.trans' ?_ (by assumption)))
  · rintro e w1 k ⟨i, hi, e0, e1, e5, hf⟩ hk
    have cw1 := cur w1
    have hz1 := hf.size
    by_cases hil : i < rs.length
    · have d : decide ((i : Int) < (rs.length : Int)) = true := decide_eq_true (by omega)
      obtain ⟨r, hr⟩ : ∃ r, rs[i]? = some r := ⟨rs[i], List.getElem?_eq_getElem hil⟩
      obtain ⟨r', hr'⟩ : ∃ r', rs'[i]? = some r' := ⟨rs'[i], List.getElem?_eq_getElem (by omega)⟩
      obtain ⟨b1, o1, p1, ob1, hv1, hb1, _, hw1, hc1⟩ := (ha.frN hf).read encR_len i r hr
      obtain ⟨b2, o2, p2, ob2, hv2, hb2, _, hw2, hc2⟩ := (hb.frN hf).read encR_len i r' hr'
      obtain ⟨hn, ks, hk1, hk2, hll⟩ := he i r r' hr hr'
      have i0 : (0 : Int) ≤ (i : Int) := by omega
      have i1 : (i : Int) < (rs.length : Int) := by omega
      have i2 : (i : Int) < (rs'.length : Int) := by omega
      simp (maxSteps := 4000000) (disch := (first | assumption | exact List.not_mem_nil | ((repeat (first | assumption | apply cur_alloc | apply cur_setB | apply cur_drew | apply cur_drewN)); done) | omega | (simp only [gz, Value.cells, oneC]; first | done | omega) | ((simp only [List.mem_cons, List.not_mem_nil, or_false, gz]); omega) | rfl)) only [↓gsd, gs, ev, Nat.reduceAdd, Nat.reduceEqDiff, oneC, Value.cells, Option.isNone, gt, ↓hk61, e0, e1, e5, hv1, d]
      refine draw_intro [] ?_
      simp (maxSteps := 4000000) (disch := (first | assumption | exact List.not_mem_nil | ((repeat (first | assumption | apply cur_alloc | apply cur_setB | apply cur_drew | apply cur_drewN)); done) | omega | (simp only [gz, Value.cells, oneC]; first | done | omega) | ((simp only [List.mem_cons, List.not_mem_nil, or_false, gz]); omega) | rfl)) only [↓gsd, gs, ev, Nat.reduceAdd, Nat.reduceEqDiff, oneC, Value.cells, Option.isNone, gt, ↓hk61, e0, e1, e5, hv1, hv2, i0, i1, i2, Int.toNat_natCast, hb1, hb2, hw1, hw2]
      refine same_true (r := r) (r' := r') hn ((hk1.frN hf).frN (Fr.refl _ _).drew) ((hk2.frN hf).frN (Fr.refl _ _).drew) hll fun w2 hf2 => ?_
      have cw2 := cur w2
      have hz2 := hf2.size
      refine ⟨hf2, ?_⟩
      simp (maxSteps := 4000000) (disch := (first | assumption | exact List.not_mem_nil | ((repeat (first | assumption | apply cur_alloc | apply cur_setB | apply cur_drew | apply cur_drewN)); done) | omega | (simp only [gz, Value.cells, oneC]; first | done | omega) | ((simp only [List.mem_cons, List.not_mem_nil, or_false, gz]); omega) | rfl)) only [↓gsd, gs, ev, Nat.reduceAdd, Nat.reduceEqDiff, oneC, Value.cells, Option.isNone, gt, ↓hk61, e0, e1, e5]
      refine hk _ _ ⟨i + 1, by omega, ?_⟩ ?_
      · simp (maxSteps := 4000000) (disch := (first | assumption | exact List.not_mem_nil | ((repeat (first | assumption | apply cur_alloc | apply cur_setB | apply cur_drew | apply cur_drewN)); done) | omega | (simp only [gz, Value.cells, oneC]; first | done | omega) | ((simp only [List.mem_cons, List.not_mem_nil, or_false, gz]); omega) | rfl)) only [↓gsd, gs, ev, Nat.reduceAdd, Nat.reduceEqDiff, oneC, Value.cells, Option.isNone, e0, e1, e5, hv1, hv2, Int.natCast_add, Int.natCast_one]
        exact hf.trans' ((Fr.refl _ _).drew.trans' hf2)
      · have e3 : ((i : Int) + 1).toNat = i + 1 := by omega
        simp (maxSteps := 4000000) (disch := (first | assumption | exact List.not_mem_nil | ((repeat (first | assumption | apply cur_alloc | apply cur_setB | apply cur_drew | apply cur_drewN)); done) | omega | (simp only [gz, Value.cells, oneC]; first | done | omega) | ((simp only [List.mem_cons, List.not_mem_nil, or_false, gz]); omega) | rfl)) only [↓gsd, gs, ev, Nat.reduceAdd, Nat.reduceEqDiff, oneC, Value.cells, Option.isNone, e5, numOf, Int.toNat_natCast, e3]; omega
    · have d : decide ((i : Int) < (rs.length : Int)) = false := decide_eq_false (by omega)
      simp (maxSteps := 4000000) (disch := (first | assumption | exact List.not_mem_nil | ((repeat (first | assumption | apply cur_alloc | apply cur_setB | apply cur_drew | apply cur_drewN)); done) | omega | (simp only [gz, Value.cells, oneC]; first | done | omega) | ((simp only [List.mem_cons, List.not_mem_nil, or_false, gz]); omega) | rfl)) only [↓gsd, gs, ev, Nat.reduceAdd, Nat.reduceEqDiff, oneC, Value.cells, Option.isNone, gt, ↓hk61, e0, e1, e5, hva, d]
      exact hK _ hf
end Go.Proofs.Ytenokheiindfkaa
