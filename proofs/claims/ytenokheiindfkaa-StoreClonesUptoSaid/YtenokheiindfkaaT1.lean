/- The reference: GoodKey, GoodValue, Check, SameTexts, SameVersions, New. -/
import Derived.Test.YtenokheiindfkaaS7
import Derived.Test.YtenokheiindfkaaG7
set_option linter.unusedVariables false
set_option linter.unusedSimpArgs false
set_option maxRecDepth 10000
namespace Go.Proofs.Ytenokheiindfkaa
open Go.VW
abbrev Ks := List ByteArray
def encS (s : ByteArray) : List Value := [.string s]
theorem encS_len (s : ByteArray) : (encS s).length = 1 := rfl
theorem size0 {x : ByteArray} (h : x.size = 0) : x = ⟨#[]⟩ := by
  cases x with
  | mk d =>
    have : d.size = 0 := h
    rw [Array.eq_empty_of_size_eq_zero this]
theorem goodKey_iff (k : ByteArray) : goodKey k = (!decide (k = ⟨#[]⟩) && decide ((k.size : Int) ≤ 32)) := by
  unfold goodKey
  by_cases h : k = ⟨#[]⟩
  · subst h; rfl
  · have : ¬ k.size = 0 := fun e => h (size0 e)
    rw [decide_eq_false h, decide_eq_true (by omega : (1 : Int) ≤ (k.size : Int))]; rfl
theorem r5goodKey {key : ByteArray} {w : World} {K : Value → World → Prop} (hK : K (.bool (goodKey key)) w) : CallsN Try.prog 94 [.string key] w K := by
  have cw := cur w
  rw [goodKey_iff] at hK
  refine call94 ?_
  by_cases h : key = ⟨#[]⟩
  · have d : decide (key = ⟨#[]⟩) = true := decide_eq_true h
    rw [d] at hK
    simp (maxSteps := 4000000) (disch := (first | assumption | exact List.not_mem_nil | exact Fr.refl _ _ | ((repeat (first | assumption | apply cur_alloc | apply cur_setB | apply cur_drew | apply cur_drewN)); done) | omega | (simp only [gz, Value.cells, oneC]; first | done | omega) | ((simp only [List.mem_cons, List.not_mem_nil, or_false, gz]); omega) | rfl)) only [↓gsd, gs, ev, Nat.reduceAdd, Nat.reduceEqDiff, oneC, Value.cells, Option.isNone, gt, ↓hk94, d]
    exact hK
  · have d : decide (key = ⟨#[]⟩) = false := decide_eq_false h
    rw [d] at hK
    simp (maxSteps := 4000000) (disch := (first | assumption | exact List.not_mem_nil | exact Fr.refl _ _ | ((repeat (first | assumption | apply cur_alloc | apply cur_setB | apply cur_drew | apply cur_drewN)); done) | omega | (simp only [gz, Value.cells, oneC]; first | done | omega) | ((simp only [List.mem_cons, List.not_mem_nil, or_false, gz]); omega) | rfl)) only [↓gsd, gs, ev, Nat.reduceAdd, Nat.reduceEqDiff, oneC, Value.cells, Option.isNone, gt, ↓hk94, d]
    exact hK
def goodVal (h : Bool) (d : ByteArray) : Bool := decide ((d.size : Int) ≤ 256) && (h || decide (d = ⟨#[]⟩))
theorem r5goodVal {h : Bool} {d : ByteArray} {w : World} {K : Value → World → Prop} (hK : ∀ w', Fr [] w w' → K (.bool (goodVal h d)) w') : CallsN Try.prog 100 [.agg ([.bool h, .string d] : List Value).toArray] w K := by
  have cw := cur w
  refine call100 ?_
  cases h with
  | true =>
    have e : goodVal true d = decide ((d.size : Int) ≤ 256) := by simp [goodVal]
    rw [e] at hK
    simp (maxSteps := 4000000) (disch := (first | assumption | exact List.not_mem_nil | exact Fr.refl _ _ | ((repeat (first | assumption | apply cur_alloc | apply cur_setB | apply cur_drew | apply cur_drewN)); done) | omega | (simp only [gz, Value.cells, oneC]; first | done | omega) | ((simp only [List.mem_cons, List.not_mem_nil, or_false, gz]); omega) | rfl)) only [↓gsd, gs, ev, Nat.reduceAdd, Nat.reduceEqDiff, oneC, Value.cells, Option.isNone, gt, ↓hk100]
    exact hK _ (by (repeat (first | exact Fr.refl _ _ | assumption | with_reducible apply Fr.alloc | with_reducible apply Fr.drew | with_reducible refine Fr.setB ?_ _ _ (.inr (by first | omega | (simp only [gz]; omega))) | with_reducible refine Fr.setB ?_ _ _ (.inl (by first | assumption | simp)) | with_reducible refine Fr.trans' ?_ (by assumption))))
  | false =>
    have e : goodVal false d = decide (d = ⟨#[]⟩) := by
      unfold goodVal
      by_cases hd : d = ⟨#[]⟩
      · subst hd; rfl
      · rw [decide_eq_false hd]; simp
    rw [e] at hK
    simp (maxSteps := 4000000) (disch := (first | assumption | exact List.not_mem_nil | exact Fr.refl _ _ | ((repeat (first | assumption | apply cur_alloc | apply cur_setB | apply cur_drew | apply cur_drewN)); done) | omega | (simp only [gz, Value.cells, oneC]; first | done | omega) | ((simp only [List.mem_cons, List.not_mem_nil, or_false, gz]); omega) | rfl)) only [↓gsd, gs, ev, Nat.reduceAdd, Nat.reduceEqDiff, oneC, Value.cells, Option.isNone, gt, ↓hk100]
    exact hK _ (by (repeat (first | exact Fr.refl _ _ | assumption | with_reducible apply Fr.alloc | with_reducible apply Fr.drew | with_reducible refine Fr.setB ?_ _ _ (.inr (by first | omega | (simp only [gz]; omega))) | with_reducible refine Fr.setB ?_ _ _ (.inl (by first | assumption | simp)) | with_reducible refine Fr.trans' ?_ (by assumption))))
theorem goodWr_eq (x : Wr) : goodWr x = (goodKey x.key && goodVal x.has x.data) := rfl
theorem chk_bad {ws : List Wr} (h0 : ¬ (ws.length = 0 ∨ 8 < ws.length)) {x : Wr} (hx : x ∈ ws) (hb : goodWr x = false) : chk ws = 1 := by
  unfold chk
  rw [if_neg h0, if_neg]
  intro h
  rw [List.all_eq_true] at h
  rw [h x hx] at hb; cases hb
theorem chk_end {ws : List Wr} (h0 : ¬ (ws.length = 0 ∨ 8 < ws.length)) (hb : ∀ (j : Nat) y, j < ws.length → ws[j]? = some y → goodWr y = true) : chk ws = if (ws.map (·.key)).Nodup then 0 else 22 := by
  unfold chk
  rw [if_neg h0, if_pos]
  rw [List.all_eq_true]
  intro x hx
  obtain ⟨j, hj⟩ := List.getElem?_of_mem hx
  exact hb j x (List.getElem?_eq_some_iff.1 hj).1 hj
theorem nodup_of {ks : Ks} (h : ∀ j k y z, k < j → j < ks.length → ks[j]? = some y → ks[k]? = some z → z ≠ y) : ks.Nodup := by
  rw [List.Nodup, List.pairwise_iff_getElem]
  intro i j hi hj hij
  exact h j i _ _ hij hj (List.getElem?_eq_getElem hj) (List.getElem?_eq_getElem hi)
theorem not_nodup {ks : Ks} {j k : Nat} {y : ByteArray} (hkj : k < j) (hj : ks[j]? = some y) (hk : ks[k]? = some y) : ¬ ks.Nodup := by
  intro h
  rw [List.Nodup, List.pairwise_iff_getElem] at h
  obtain ⟨h1, h2⟩ := List.getElem?_eq_some_iff.1 hj
  obtain ⟨h3, h4⟩ := List.getElem?_eq_some_iff.1 hk
  exact h k j h3 h1 hkj (by rw [h2, h4])
theorem SlOf.wval {w : World} {v : Value} {ws : List Wr} {i : Nat} {x : Wr} (h : SlOf 3 encWr w v ws) (hx : ws[i]? = some x) : ∃ b off cap o, v = .slice (some ⟨b, off, none⟩) ws.length cap ∧ w.heap[b]? = some o ∧ b < w.heap.size ∧ (∀ orig K, ldV orig (some o) (off + i * 3) K = K (.string x.key)) ∧
    (∀ orig K, ldnV orig 2 (some o) (off + i * 3 + 1) K = K (.agg ([.bool x.has, .string x.data] : List Value).toArray)) ∧ ∀ orig K, ldnV orig 3 (some o) (off + i * 3) K = K (.agg (encWr x).toArray) := by
  obtain ⟨b, off, cap, o, hv, ho, hl, hr, hc⟩ := h.read encWr_len i x hx
  refine ⟨b, off, cap, o, hv, ho, hl, fun orig K => by have := hc 0 (.string x.key) orig K rfl; simpa using this, fun orig K => ?_, hr⟩
  obtain ⟨b', off', cap', c, et, fr, hv', hb, hg, hd⟩ := h.elem encWr_len i x hx
  rw [hv] at hv'
  simp only [Value.slice.injEq, Option.some.injEq, Addr.mk.injEq] at hv'
  obtain ⟨⟨rfl, rfl, _⟩, _, _⟩ := hv'
  rw [hb] at ho
  cases ho
  have e : (c.toList.drop (off + i * 3 + 1)).take 2 = [.bool x.has, .string x.data] := by
    have : (c.toList.drop (off + i * 3 + 1)).take 2 = ((c.toList.drop (off + i * 3)).take 3).drop 1 := by
      rw [List.drop_take, List.drop_drop]
    rw [this, hd]; rfl
  rw [ldnV_cells _ _ _ _ _ _ _ (by rw [e]; rfl), e]
set_option maxHeartbeats 8000000 in
theorem r5check {w : World} {v : Value} {ws : List Wr} {K : Value → World → Prop} (h : SlOf 3 encWr w v ws) (hl : ws.length ≤ 9223372036854775807)
    (hK : ∀ w', Fr [] w w' → K (.int .i64 (chk ws)) w') : CallsN Try.prog 82 [v] w K := by
  have cw := cur w
  obtain ⟨a, c, hv⟩ := SlOf.form h
  refine call82 ?_
  by_cases hA : ws.length = 0 ∨ 8 < ws.length
  · have hc : chk ws = 1 := by unfold chk; rw [if_pos hA]
    rw [hc] at hK
    by_cases h0 : ws.length = 0
    · have d0 : decide ((ws.length : Int) < 1) = true := decide_eq_true (by omega)
      simp (maxSteps := 4000000) (disch := (first | assumption | exact List.not_mem_nil | exact Fr.refl _ _ | ((repeat (first | assumption | apply cur_alloc | apply cur_setB | apply cur_drew | apply cur_drewN)); done) | omega | (simp only [gz, Value.cells, oneC]; first | done | omega) | ((simp only [List.mem_cons, List.not_mem_nil, or_false, gz]); omega) | rfl)) only [↓gsd, gs, ev, Nat.reduceAdd, Nat.reduceEqDiff, oneC, Value.cells, Option.isNone, gt, ↓hk82, hv, d0]
      exact hK _ (Fr.refl _ _)
    · have d0 : decide ((ws.length : Int) < 1) = false := decide_eq_false (by omega)
      have d1 : decide ((8 : Int) < (ws.length : Int)) = true := decide_eq_true (by omega)
      simp (maxSteps := 4000000) (disch := (first | assumption | exact List.not_mem_nil | exact Fr.refl _ _ | ((repeat (first | assumption | apply cur_alloc | apply cur_setB | apply cur_drew | apply cur_drewN)); done) | omega | (simp only [gz, Value.cells, oneC]; first | done | omega) | ((simp only [List.mem_cons, List.not_mem_nil, or_false, gz]); omega) | rfl)) only [↓gsd, gs, ev, Nat.reduceAdd, Nat.reduceEqDiff, oneC, Value.cells, Option.isNone, gt, ↓hk82, hv, d0, d1]
      exact hK _ (Fr.refl _ _)
  have d0 : decide ((ws.length : Int) < 1) = false := decide_eq_false (by omega)
  have d1 : decide ((8 : Int) < (ws.length : Int)) = false := decide_eq_false (by omega)
  simp (maxSteps := 4000000) (disch := (first | assumption | exact List.not_mem_nil | exact Fr.refl _ _ | ((repeat (first | assumption | apply cur_alloc | apply cur_setB | apply cur_drew | apply cur_drewN)); done) | omega | (simp only [gz, Value.cells, oneC]; first | done | omega) | ((simp only [List.mem_cons, List.not_mem_nil, or_false, gz]); omega) | rfl)) only [↓gsd, gs, ev, Nat.reduceAdd, Nat.reduceEqDiff, oneC, Value.cells, Option.isNone, gt, ↓hk82, hv, d0, d1]
  rw [← hv]
  refine loop_intro (fun e w' => ∃ i : Nat, i ≤ ws.length ∧ e 0 = v ∧ e 3 = .int .i64 i ∧ (∀ (j : Nat) y, j < i → ws[j]? = some y → goodWr y = true) ∧ Fr [] w w')
    (fun e _ => ws.length - (numOf (e 3)).toNat) ?_ ?_
  · refine ⟨0, Nat.zero_le _, ?_⟩
    simp (maxSteps := 4000000) (disch := (first | assumption | exact List.not_mem_nil | exact Fr.refl _ _ | ((repeat (first | assumption | apply cur_alloc | apply cur_setB | apply cur_drew | apply cur_drewN)); done) | omega | (simp only [gz, Value.cells, oneC]; first | done | omega) | ((simp only [List.mem_cons, List.not_mem_nil, or_false, gz]); omega) | rfl)) only [↓gsd, gs, ev, Nat.reduceAdd, Nat.reduceEqDiff, oneC, Value.cells, Option.isNone, Int.natCast_zero]
    exact ⟨fun j y hj => absurd hj (by omega), Fr.refl _ _⟩
  rintro e w1 k ⟨i, hi, e0, e3, hno, hf⟩ hk
  have cw1 := cur w1
  have hz1 := hf.size
  by_cases hlt : i < ws.length
  · have el : decide ((i : Int) < (ws.length : Int)) = true := decide_eq_true (by omega)
    have i0 : (0 : Int) ≤ (i : Int) := by omega
    have i1 : (i : Int) < (ws.length : Int) := by omega
    have i3 : ((i : Int) + 1).toNat = i + 1 := by omega
    obtain ⟨x, hx⟩ : ∃ x, ws[i]? = some x := ⟨ws[i], List.getElem?_eq_getElem hlt⟩
    obtain ⟨b, off, cap, o, hvb, hob, hbl, hc0, hc1, _⟩ := SlOf.wval (h.frN hf) hx
    simp (maxSteps := 4000000) (disch := (first | assumption | exact List.not_mem_nil | exact Fr.refl _ _ | ((repeat (first | assumption | apply cur_alloc | apply cur_setB | apply cur_drew | apply cur_drewN)); done) | omega | (simp only [gz, Value.cells, oneC]; first | done | omega) | ((simp only [List.mem_cons, List.not_mem_nil, or_false, gz]); omega) | rfl)) only [↓gsd, gs, ev, Nat.reduceAdd, Nat.reduceEqDiff, oneC, Value.cells, Option.isNone, gt, ↓hk82, e0, e3, el, hvb, i0, i1, Int.toNat_natCast, hob, hc0]
    refine r5goodKey ?_
    by_cases hg : goodKey x.key = true
    · simp (maxSteps := 4000000) (disch := (first | assumption | exact List.not_mem_nil | exact Fr.refl _ _ | ((repeat (first | assumption | apply cur_alloc | apply cur_setB | apply cur_drew | apply cur_drewN)); done) | omega | (simp only [gz, Value.cells, oneC]; first | done | omega) | ((simp only [List.mem_cons, List.not_mem_nil, or_false, gz]); omega) | rfl)) only [↓gsd, gs, ev, Nat.reduceAdd, Nat.reduceEqDiff, oneC, Value.cells, Option.isNone, gt, ↓hk82, e0, e3, hvb, i0, i1, Int.toNat_natCast, hob, hc1, hg]
      refine r5goodVal fun w2 hf2 => ?_
      have cw2 := cur w2
      have hF := hf.trans' hf2
      by_cases hgv : goodVal x.has x.data = true
      · simp (maxSteps := 4000000) (disch := (first | assumption | exact List.not_mem_nil | exact Fr.refl _ _ | ((repeat (first | assumption | apply cur_alloc | apply cur_setB | apply cur_drew | apply cur_drewN)); done) | omega | (simp only [gz, Value.cells, oneC]; first | done | omega) | ((simp only [List.mem_cons, List.not_mem_nil, or_false, gz]); omega) | rfl)) only [↓gsd, gs, ev, Nat.reduceAdd, Nat.reduceEqDiff, oneC, Value.cells, Option.isNone, gt, ↓hk82, e0, e3, hgv]
        refine hk _ _ ⟨i + 1, by omega, ?_⟩ ?_
        · simp (maxSteps := 4000000) (disch := (first | assumption | exact List.not_mem_nil | exact Fr.refl _ _ | ((repeat (first | assumption | apply cur_alloc | apply cur_setB | apply cur_drew | apply cur_drewN)); done) | omega | (simp only [gz, Value.cells, oneC]; first | done | omega) | ((simp only [List.mem_cons, List.not_mem_nil, or_false, gz]); omega) | rfl)) only [↓gsd, gs, ev, Nat.reduceAdd, Nat.reduceEqDiff, oneC, Value.cells, Option.isNone, e0, e3, hvb, Int.natCast_add, Int.natCast_one]
          refine ⟨fun j y hj hy => ?_, hF⟩
          by_cases hji : j = i
          · subst hji; rw [hx] at hy; cases hy
            rw [goodWr_eq, hg, hgv]; rfl
          · exact hno j y (by omega) hy
        · simp (maxSteps := 4000000) (disch := (first | assumption | exact List.not_mem_nil | exact Fr.refl _ _ | ((repeat (first | assumption | apply cur_alloc | apply cur_setB | apply cur_drew | apply cur_drewN)); done) | omega | (simp only [gz, Value.cells, oneC]; first | done | omega) | ((simp only [List.mem_cons, List.not_mem_nil, or_false, gz]); omega) | rfl)) only [↓gsd, gs, ev, Nat.reduceAdd, Nat.reduceEqDiff, oneC, Value.cells, Option.isNone, e3, numOf, Int.toNat_natCast, i3]; omega
      · have hgv' : goodVal x.has x.data = false := by simpa using hgv
        rw [chk_bad hA (List.mem_of_getElem? hx) (by rw [goodWr_eq, hgv']; simp)] at hK
        simp (maxSteps := 4000000) (disch := (first | assumption | exact List.not_mem_nil | exact Fr.refl _ _ | ((repeat (first | assumption | apply cur_alloc | apply cur_setB | apply cur_drew | apply cur_drewN)); done) | omega | (simp only [gz, Value.cells, oneC]; first | done | omega) | ((simp only [List.mem_cons, List.not_mem_nil, or_false, gz]); omega) | rfl)) only [↓gsd, gs, ev, Nat.reduceAdd, Nat.reduceEqDiff, oneC, Value.cells, Option.isNone, gt, ↓hk82, e0, e3, hgv']
        exact hK _ hF
    · have hg' : goodKey x.key = false := by simpa using hg
      rw [chk_bad hA (List.mem_of_getElem? hx) (by rw [goodWr_eq, hg']; rfl)] at hK
      simp (maxSteps := 4000000) (disch := (first | assumption | exact List.not_mem_nil | exact Fr.refl _ _ | ((repeat (first | assumption | apply cur_alloc | apply cur_setB | apply cur_drew | apply cur_drewN)); done) | omega | (simp only [gz, Value.cells, oneC]; first | done | omega) | ((simp only [List.mem_cons, List.not_mem_nil, or_false, gz]); omega) | rfl)) only [↓gsd, gs, ev, Nat.reduceAdd, Nat.reduceEqDiff, oneC, Value.cells, Option.isNone, gt, ↓hk82, e0, e3, hg']
      exact hK _ hf
  have el : decide ((i : Int) < (ws.length : Int)) = false := decide_eq_false (by omega)
  have hend := chk_end hA (fun j y hj => hno j y (by omega))
  rw [hend] at hK
  simp (maxSteps := 4000000) (disch := (first | assumption | exact List.not_mem_nil | exact Fr.refl _ _ | ((repeat (first | assumption | apply cur_alloc | apply cur_setB | apply cur_drew | apply cur_drewN)); done) | omega | (simp only [gz, Value.cells, oneC]; first | done | omega) | ((simp only [List.mem_cons, List.not_mem_nil, or_false, gz]); omega) | rfl)) only [↓gsd, gs, ev, Nat.reduceAdd, Nat.reduceEqDiff, oneC, Value.cells, Option.isNone, gt, ↓hk82, e0, e3, hv, el]
  refine loop_intro (fun e w' => ∃ i : Nat, i ≤ ws.length ∧ e 0 = v ∧ e 4 = .int .i64 i ∧ (∀ j k y z, k < j → j < i → (ws.map (·.key))[j]? = some y → (ws.map (·.key))[k]? = some z → z ≠ y) ∧ Fr [] w w')
    (fun e _ => ws.length - (numOf (e 4)).toNat) ?_ ?_
  · refine ⟨0, Nat.zero_le _, ?_⟩
    simp (maxSteps := 4000000) (disch := (first | assumption | exact List.not_mem_nil | exact Fr.refl _ _ | ((repeat (first | assumption | apply cur_alloc | apply cur_setB | apply cur_drew | apply cur_drewN)); done) | omega | (simp only [gz, Value.cells, oneC]; first | done | omega) | ((simp only [List.mem_cons, List.not_mem_nil, or_false, gz]); omega) | rfl)) only [↓gsd, gs, ev, Nat.reduceAdd, Nat.reduceEqDiff, oneC, Value.cells, Option.isNone, e0, Int.natCast_zero]
    exact ⟨fun j k y z _ hj => absurd hj (by omega), hf⟩
  rintro e w2 k ⟨i, hi, e0, e4, hno2, hf2⟩ hk
  have cw2 := cur w2
  by_cases hlt : i < ws.length
  · have el : decide ((i : Int) < (ws.length : Int)) = true := decide_eq_true (by omega)
    have i0 : (0 : Int) ≤ (i : Int) := by omega
    have i1 : (i : Int) < (ws.length : Int) := by omega
    have i3 : ((i : Int) + 1).toNat = i + 1 := by omega
    obtain ⟨x, hx⟩ : ∃ x, ws[i]? = some x := ⟨ws[i], List.getElem?_eq_getElem hlt⟩
    have E4 := e4
    simp (maxSteps := 4000000) (disch := (first | assumption | exact List.not_mem_nil | exact Fr.refl _ _ | ((repeat (first | assumption | apply cur_alloc | apply cur_setB | apply cur_drew | apply cur_drewN)); done) | omega | (simp only [gz, Value.cells, oneC]; first | done | omega) | ((simp only [List.mem_cons, List.not_mem_nil, or_false, gz]); omega) | rfl)) only [↓gsd, gs, ev, Nat.reduceAdd, Nat.reduceEqDiff, oneC, Value.cells, Option.isNone, gt, ↓hk82, e0, e4, el, hv]
    refine loop_intro (fun e w' => ∃ j : Nat, j ≤ i ∧ e 0 = v ∧ e 4 = .int .i64 i ∧ e 5 = .int .i64 j ∧ (∀ k z, k < j → (ws.map (·.key))[k]? = some z → z ≠ x.key) ∧ Fr [] w w')
      (fun e _ => i - (numOf (e 5)).toNat) ?_ ?_
    · refine ⟨0, Nat.zero_le _, ?_⟩
      simp (maxSteps := 4000000) (disch := (first | assumption | exact List.not_mem_nil | exact Fr.refl _ _ | ((repeat (first | assumption | apply cur_alloc | apply cur_setB | apply cur_drew | apply cur_drewN)); done) | omega | (simp only [gz, Value.cells, oneC]; first | done | omega) | ((simp only [List.mem_cons, List.not_mem_nil, or_false, gz]); omega) | rfl)) only [↓gsd, gs, ev, Nat.reduceAdd, Nat.reduceEqDiff, oneC, Value.cells, Option.isNone, e0, e4, Int.natCast_zero]
      exact ⟨fun k z hj => absurd hj (by omega), hf2⟩
    rintro e w3 k' ⟨j, hj, e0, e4, e5, hno3, hf3⟩ hk'
    have cw3 := cur w3
    by_cases hjl : j < i
    · have dj : decide ((j : Int) < (i : Int)) = true := decide_eq_true (by omega)
      have j0 : (0 : Int) ≤ (j : Int) := by omega
      have j1 : (j : Int) < (ws.length : Int) := by omega
      have j3 : ((j : Int) + 1).toNat = j + 1 := by omega
      obtain ⟨y, hy⟩ : ∃ y, ws[j]? = some y := ⟨ws[j]'(by omega), List.getElem?_eq_getElem (by omega)⟩
      obtain ⟨b, off, cap, o, hvb, hob, hbl, hc0, _⟩ := SlOf.wval (h.frN hf3) hx
      obtain ⟨b2, off2, cap2, o2, hvb2, hob2, hbl2, hc2, _⟩ := SlOf.wval (h.frN hf3) hy
      rw [hvb] at hvb2
      simp only [Value.slice.injEq, Option.some.injEq, Addr.mk.injEq] at hvb2
      obtain ⟨⟨rfl, rfl, _⟩, _, rfl⟩ := hvb2
      have : o = o2 := Option.some.inj (hob.symm.trans hob2)
      subst this
      have hxk : (ws.map (·.key))[i]? = some x.key := by rw [List.getElem?_map, hx]; rfl
      have hyk : (ws.map (·.key))[j]? = some y.key := by rw [List.getElem?_map, hy]; rfl
      by_cases hyx : y.key = x.key
      · have dy : decide (y.key = x.key) = true := decide_eq_true hyx
        rw [if_neg (not_nodup hjl hxk (hyx ▸ hyk))] at hK
        simp (maxSteps := 4000000) (disch := (first | assumption | exact List.not_mem_nil | exact Fr.refl _ _ | ((repeat (first | assumption | apply cur_alloc | apply cur_setB | apply cur_drew | apply cur_drewN)); done) | omega | (simp only [gz, Value.cells, oneC]; first | done | omega) | ((simp only [List.mem_cons, List.not_mem_nil, or_false, gz]); omega) | rfl)) only [↓gsd, gs, ev, Nat.reduceAdd, Nat.reduceEqDiff, oneC, Value.cells, Option.isNone, gt, frT_self, frT_drew, frT_drew0, frT_alloc, ↓hk82, e0, e4, e5, dj, hvb, i0, i1, j0, j1, Int.toNat_natCast, hob, hc0, hc2, dy]
        exact hK _ hf3.drew
      · have dy : decide (y.key = x.key) = false := decide_eq_false hyx
        simp (maxSteps := 4000000) (disch := (first | assumption | exact List.not_mem_nil | exact Fr.refl _ _ | ((repeat (first | assumption | apply cur_alloc | apply cur_setB | apply cur_drew | apply cur_drewN)); done) | omega | (simp only [gz, Value.cells, oneC]; first | done | omega) | ((simp only [List.mem_cons, List.not_mem_nil, or_false, gz]); omega) | rfl)) only [↓gsd, gs, ev, Nat.reduceAdd, Nat.reduceEqDiff, oneC, Value.cells, Option.isNone, gt, frT_self, frT_drew, frT_drew0, frT_alloc, ↓hk82, e0, e4, e5, dj, hvb, i0, i1, j0, j1, Int.toNat_natCast, hob, hc0, hc2, dy]
        refine hk' _ _ ⟨j + 1, by omega, ?_⟩ ?_
        · simp (maxSteps := 4000000) (disch := (first | assumption | exact List.not_mem_nil | exact Fr.refl _ _ | ((repeat (first | assumption | apply cur_alloc | apply cur_setB | apply cur_drew | apply cur_drewN)); done) | omega | (simp only [gz, Value.cells, oneC]; first | done | omega) | ((simp only [List.mem_cons, List.not_mem_nil, or_false, gz]); omega) | rfl)) only [↓gsd, gs, ev, Nat.reduceAdd, Nat.reduceEqDiff, oneC, Value.cells, Option.isNone, e0, e4, e5, hvb, Int.natCast_add, Int.natCast_one]
          refine ⟨fun k z hkj hz => ?_, hf3.drew⟩
          by_cases hkj' : k = j
          · subst hkj'; rw [hyk] at hz; cases hz; exact hyx
          · exact hno3 k z (by omega) hz
        · simp (maxSteps := 4000000) (disch := (first | assumption | exact List.not_mem_nil | exact Fr.refl _ _ | ((repeat (first | assumption | apply cur_alloc | apply cur_setB | apply cur_drew | apply cur_drewN)); done) | omega | (simp only [gz, Value.cells, oneC]; first | done | omega) | ((simp only [List.mem_cons, List.not_mem_nil, or_false, gz]); omega) | rfl)) only [↓gsd, gs, ev, Nat.reduceAdd, Nat.reduceEqDiff, oneC, Value.cells, Option.isNone, e5, numOf, Int.toNat_natCast, j3]; omega
    · have dj : decide ((j : Int) < (i : Int)) = false := decide_eq_false (by omega)
      simp (maxSteps := 4000000) (disch := (first | assumption | exact List.not_mem_nil | exact Fr.refl _ _ | ((repeat (first | assumption | apply cur_alloc | apply cur_setB | apply cur_drew | apply cur_drewN)); done) | omega | (simp only [gz, Value.cells, oneC]; first | done | omega) | ((simp only [List.mem_cons, List.not_mem_nil, or_false, gz]); omega) | rfl)) only [↓gsd, gs, ev, Nat.reduceAdd, Nat.reduceEqDiff, oneC, Value.cells, Option.isNone, gt, ↓hk82, e0, e4, e5, dj]
      refine hk _ _ ⟨i + 1, by omega, ?_⟩ ?_
      · simp (maxSteps := 4000000) (disch := (first | assumption | exact List.not_mem_nil | exact Fr.refl _ _ | ((repeat (first | assumption | apply cur_alloc | apply cur_setB | apply cur_drew | apply cur_drewN)); done) | omega | (simp only [gz, Value.cells, oneC]; first | done | omega) | ((simp only [List.mem_cons, List.not_mem_nil, or_false, gz]); omega) | rfl)) only [↓gsd, gs, ev, Nat.reduceAdd, Nat.reduceEqDiff, oneC, Value.cells, Option.isNone, e0, e4, e5, Int.natCast_add, Int.natCast_one]
        refine ⟨fun j' k y z hkj hj' hy hz => ?_, hf3⟩
        by_cases hji : j' = i
        · subst hji
          rw [List.getElem?_map, hx] at hy
          simp only [Option.map_some, Option.some.injEq] at hy
          subst hy
          exact hno3 k z (by omega) hz
        · exact hno2 j' k y z hkj (by omega) hy hz
      · simp (maxSteps := 4000000) (disch := (first | assumption | exact List.not_mem_nil | exact Fr.refl _ _ | ((repeat (first | assumption | apply cur_alloc | apply cur_setB | apply cur_drew | apply cur_drewN)); done) | omega | (simp only [gz, Value.cells, oneC]; first | done | omega) | ((simp only [List.mem_cons, List.not_mem_nil, or_false, gz]); omega) | rfl)) only [↓gsd, gs, ev, Nat.reduceAdd, Nat.reduceEqDiff, oneC, Value.cells, Option.isNone, e4, E4, numOf, Int.toNat_natCast, i3]; omega
  · have el : decide ((i : Int) < (ws.length : Int)) = false := decide_eq_false (by omega)
    rw [if_pos (nodup_of fun j k y z hkj hj => hno2 j k y z hkj (by rw [List.length_map] at hj; omega))] at hK
    simp (maxSteps := 4000000) (disch := (first | assumption | exact List.not_mem_nil | exact Fr.refl _ _ | ((repeat (first | assumption | apply cur_alloc | apply cur_setB | apply cur_drew | apply cur_drewN)); done) | omega | (simp only [gz, Value.cells, oneC]; first | done | omega) | ((simp only [List.mem_cons, List.not_mem_nil, or_false, gz]); omega) | rfl)) only [↓gsd, gs, ev, Nat.reduceAdd, Nat.reduceEqDiff, oneC, Value.cells, Option.isNone, gt, ↓hk82, e0, e4, hv, el]
    exact hK _ hf2
end Go.Proofs.Ytenokheiindfkaa
