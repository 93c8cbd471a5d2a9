/- Table: All. -/
import Derived.Test.YtldmkhakjnglmaaAK
set_option linter.unusedVariables false
set_option linter.unusedSimpArgs false
set_option maxRecDepth 10000
namespace Go.Proofs.Ytldmkhakjnglmaa
open Go.VW
theorem own_ne {k k' n n' : Nat} {e e' : TypeId} {w : World} {v v' : Value} {cs cs' : List Value} (h : Own k e w v n cs) (h' : Own k' e' w v' n' cs') (he : e ≠ e') : ∀ b, v.ownBlock = some b → v'.ownBlock ≠ some b := by
  intro b hb hb'
  rcases h.2 with ⟨rfl, _⟩ | ⟨g, cap, cur, rfl, _, hg, _⟩
  · simp [Value.ownBlock] at hb
  · rcases h'.2 with ⟨rfl, _⟩ | ⟨g', cap', cur', rfl, _, hg', _⟩
    · simp [Value.ownBlock] at hb'
    · simp [Value.ownBlock] at hb hb'
      subst hb; subst hb'
      rw [hg] at hg'
      cases hg'
      exact he rfl
abbrev encS (k : ByteArray) : List Value := [.string k]
theorem encS_len (k : ByteArray) : (encS k).length = 1 := rfl
theorem cellsS (l : List ByteArray) : cellsOf encS l = l.map Value.string := by
  induction l with
  | nil => rfl
  | cons x l ih => simp only [cellsOf, List.flatMap_cons, encS, List.map_cons] at *; rw [ih]; rfl
def allE (T : Tab) (ks : List ByteArray) : Ents := ks.flatMap T.row
theorem allE_snoc (T : Tab) (ks : List ByteArray) (k : ByteArray) : allE T (ks ++ [k]) = allE T ks ++ T.row k := by unfold allE; simp
set_option maxHeartbeats 8000000 in
theorem all_specM {w : World} {tb bm : Nat} {S : List Nat} {T : Tab} {es : List (ByteArray × Value)} {K : Value → World → Prop} (h1 : w.heap[tb]? = some (.cells ([.map (some bm), .int .i64 T.n, .int .i64 T.bytes] : List Value).toArray 56 (0, 0))) (hr : RowsM w S bm T.rows es) (h4 : ∀ x ∈ S, x < w.heap.size)
    (hk : ∀ k ∈ T.rows.map (·.1), k.size ≤ 32) (hn : T.rows.length ≤ 1000000000) (hB : (allE T (keysOf (T.rows.map (·.1)))).length ≤ 1700000000000)
    (hK : ∀ v w', Own 8 36 w' v (allE T (keysOf (T.rows.map (·.1)))).length (cellsOf encEnt (allE T (keysOf (T.rows.map (·.1))))) → (∀ g, v.ownBlock = some g → w.heap.size ≤ g) → Fr [] w w' → K v w') : CallsN Try.prog 14 [.pointer (some ⟨tb, 0, none⟩)] w K := by
  have cw := cur w
  have hlt := lt_of_get _ _ h1
  refine call14 ?_
  simp (maxSteps := 4000000) (disch := (first | assumption | exact List.not_mem_nil | exact Fr.refl _ _ | ((repeat (first | assumption | apply cur_alloc | apply cur_setB | apply cur_drew | apply cur_drewN)); done) | omega | (simp only [gz, Value.cells, oneC]; first | done | omega) | ((simp only [List.mem_cons, List.not_mem_nil, or_false, gz]); omega) | rfl)) only [↓gsd, gs, ev, Nat.reduceAdd, Nat.reduceEqDiff, oneC, Value.cells, Option.isNone, gt, frT_self, frT_drew, frT_drew0, frT_alloc, ↓hk14, h1]
  refine keysEnt ?_
  try simp (maxSteps := 4000000) (disch := (first | assumption | exact List.not_mem_nil | exact Fr.refl _ _ | ((repeat (first | assumption | apply cur_alloc | apply cur_setB | apply cur_drew | apply cur_drewN)); done) | omega | (simp only [gz, Value.cells, oneC]; first | done | omega) | ((simp only [List.mem_cons, List.not_mem_nil, or_false, gz]); omega) | rfl)) only [↓gsd, gs, ev, Nat.reduceAdd, Nat.reduceEqDiff, oneC, Value.cells, Option.isNone, gt, frT_self, frT_drew, frT_drew0, frT_alloc, ↓hk14]
  have hlen : es.length = T.rows.length := by have := congrArg List.length hr.keys; simpa using this
  refine sortedEnt hr.map (fun p hp => ?_) (by omega) fun v w1 hown hf hfr => ?_
  · have := hk p.1 (by rw [← hr.keys]; exact List.mem_map.2 ⟨p, hp, rfl⟩)
    unfold maxLen; omega
  have cw1 := cur w1
  have hz1 := hf.size
  have e : es.map (fun p => bl p.1) = (T.rows.map (·.1)).map bl := by rw [← hr.keys, List.map_map]; rfl
  have hl2 : (keysOf (T.rows.map (·.1))).length = es.length := by rw [keysOf_len, List.length_map, hlen]
  rw [e, keysOf_enc, ← hl2, ← cellsS] at hown
  generalize keysOf (T.rows.map (·.1)) = ks at hown hB hK hl2
  have hsl : SlOf 1 encS w1 v ks := hown.sl
  obtain ⟨va, vc, hvf⟩ := hsl.form
  simp (maxSteps := 4000000) (disch := (first | assumption | exact List.not_mem_nil | exact Fr.refl _ _ | ((repeat (first | assumption | apply cur_alloc | apply cur_setB | apply cur_drew | apply cur_drewN)); done) | omega | (simp only [gz, Value.cells, oneC]; first | done | omega) | ((simp only [List.mem_cons, List.not_mem_nil, or_false, gz]); omega) | rfl)) only [↓gsd, gs, ev, Nat.reduceAdd, Nat.reduceEqDiff, oneC, Value.cells, Option.isNone, gt, frT_self, frT_drew, frT_drew0, frT_alloc, ↓hk14, hvf]
  rw [← hvf]
  refine loop_intro (fun e w' => ∃ (i : Nat) (vo : Value), i ≤ ks.length ∧ e 0 = .pointer (some ⟨tb, 0, none⟩) ∧ e 3 = vo ∧ e 13 = v ∧ e 14 = .int .i64 ks.length ∧ e 15 = .int .i64 i ∧ Own 8 36 w' vo (allE T (ks.take i)).length (cellsOf encEnt (allE T (ks.take i))) ∧ (∀ g, vo.ownBlock = some g → w.heap.size ≤ g) ∧ Own 1 9 w' v ks.length (cellsOf encS ks) ∧ Fr [] w w')
    (fun e _ => ks.length - (numOf (e 15)).toNat) ?_ ?_
  · refine ⟨0, sliceZ, Nat.zero_le _, ?_⟩
    simp (maxSteps := 4000000) (disch := (first | assumption | exact List.not_mem_nil | exact Fr.refl _ _ | ((repeat (first | assumption | apply cur_alloc | apply cur_setB | apply cur_drew | apply cur_drewN)); done) | omega | (simp only [gz, Value.cells, oneC]; first | done | omega) | ((simp only [List.mem_cons, List.not_mem_nil, or_false, gz]); omega) | rfl)) only [↓gsd, gs, ev, Nat.reduceAdd, Nat.reduceEqDiff, oneC, Value.cells, Option.isNone, hvf, Int.natCast_zero]
    exact ⟨Own.nil, fun g hg => by simp [Value.ownBlock] at hg, hvf ▸ hown, hf⟩
  rintro e w2 kk ⟨i, vo, hi, e0, e3, e13, e14, e15, ho, hbo, hown2, hf2⟩ hkk
  have cw2 := cur w2
  obtain ⟨oa, oc, hvo⟩ := ho.sl.form
  by_cases hil : i < ks.length
  · have d : decide ((i : Int) < (ks.length : Int)) = true := decide_eq_true (by omega)
    obtain ⟨k, hki⟩ : ∃ k, ks[i]? = some k := ⟨ks[i], List.getElem?_eq_getElem hil⟩
    have hf12 : Fr [] w w2 := hf2
    obtain ⟨bb, off, cap, ob, hv1, hob, _, _, hc⟩ := (show SlOf 1 encS w2 v ks from hown2.sl).read encS_len i k hki
    have hc' := fun orig K => hc 0 (.string k) orig K rfl
    simp only [Nat.mul_one, Nat.add_zero] at hc'
    have i0 : (0 : Int) ≤ (i : Int) := by omega
    have i1 : (i : Int) < (ks.length : Int) := by omega
    have wr : IntKind.i64.wrap ((i : Int) + 1) = (i : Int) + 1 := wrap64 (by omega) (by omega)
    have i3 : ((i : Int) + 1).toNat = i + 1 := by omega
    have hh2 := hf2.getN h1
    have hlt2 := lt_of_get _ _ hh2
    have hr2 : RowsM w2 S bm T.rows es := hr.fr h4 hf2 (by simp)
    obtain ⟨ents, clock, hbm, _⟩ := id hr2.map.ex
    have hm := hr2.map
    rw [hbm] at hm
    have hmv := fun orig K => mapV_at inj_string hm orig K
    obtain ⟨g1, _⟩ := hr2.get k
    change Own 8 36 w2 ((aget es k).getD sliceZ) (T.row k).length (cellsOf encEnt (T.row k)) at g1
    have htk : ks.take (i + 1) = ks.take i ++ [k] := by rw [List.take_add_one, hki]; rfl
    have hsum : (allE T (ks.take i)).length + (T.row k).length ≤ 1700000000000 := by
      have : allE T ks = allE T (ks.take (i + 1)) ++ allE T (ks.drop (i + 1)) := by unfold allE; rw [← List.flatMap_append, List.take_append_drop]
      rw [this, htk, allE_snoc] at hB
      simp only [List.length_append] at hB
      omega
    obtain ⟨v3, w3, hr3, hown3, hf3, hbk3⟩ := ap27 (ty := 27) ho g1.sl (cellsE_one _) (by omega)
    have cw3 := cur w3
    rw [hvo] at hr3
    simp (maxSteps := 4000000) (disch := (first | assumption | exact List.not_mem_nil | exact Fr.refl _ _ | ((repeat (first | assumption | apply cur_alloc | apply cur_setB | apply cur_drew | apply cur_drewN)); done) | omega | (simp only [gz, Value.cells, oneC]; first | done | omega) | ((simp only [List.mem_cons, List.not_mem_nil, or_false, gz]); omega) | rfl)) only [↓gsd, gs, ev, Nat.reduceAdd, Nat.reduceEqDiff, oneC, Value.cells, Option.isNone, gt, frT_self, frT_drew, frT_drew0, frT_alloc, ↓hk14, e0, e3, e13, e14, e15, hv1, hvo, d, i0, i1, Int.toNat_natCast, Nat.mul_one, hob, hc', hh2, hbm, hmv, hr3]
    refine hkk _ _ ⟨i + 1, v3, by omega, ?_⟩ ?_
    · simp (maxSteps := 4000000) (disch := (first | assumption | exact List.not_mem_nil | exact Fr.refl _ _ | ((repeat (first | assumption | apply cur_alloc | apply cur_setB | apply cur_drew | apply cur_drewN)); done) | omega | (simp only [gz, Value.cells, oneC]; first | done | omega) | ((simp only [List.mem_cons, List.not_mem_nil, or_false, gz]); omega) | rfl)) only [↓gsd, gs, ev, Nat.reduceAdd, Nat.reduceEqDiff, oneC, Value.cells, Option.isNone, e0, e3, e13, e14, e15, hv1, wr, Int.natCast_add i 1, Int.natCast_one]
      refine ⟨?_, fun g hg => ?_, by rw [← hv1]; exact hown2.fr hf3 fun x hx e => own_ne hown2 ho (by decide) x e (mem_blkL.1 hx), hf2.trans hf3 fun y hy => .inr (hbo y (mem_blkL.1 hy))⟩
      · rw [htk, allE_snoc, cellsOf_append, List.length_append]; exact hown3
      · rcases hbk3 with q | ⟨b', q1, q2⟩
        · exact hbo g (q ▸ hg)
        · rw [q1] at hg; cases hg; have := hf2.size; omega
    · simp (maxSteps := 4000000) (disch := (first | assumption | exact List.not_mem_nil | exact Fr.refl _ _ | ((repeat (first | assumption | apply cur_alloc | apply cur_setB | apply cur_drew | apply cur_drewN)); done) | omega | (simp only [gz, Value.cells, oneC]; first | done | omega) | ((simp only [List.mem_cons, List.not_mem_nil, or_false, gz]); omega) | rfl)) only [↓gsd, gs, ev, Nat.reduceAdd, Nat.reduceEqDiff, oneC, Value.cells, Option.isNone, e15, wr, numOf, Int.toNat_natCast, i3]; omega
  · have d : decide ((i : Int) < (ks.length : Int)) = false := decide_eq_false (by omega)
    have hi' : ks.take i = ks := List.take_of_length_le (by omega)
    rw [hi'] at ho
    simp (maxSteps := 4000000) (disch := (first | assumption | exact List.not_mem_nil | exact Fr.refl _ _ | ((repeat (first | assumption | apply cur_alloc | apply cur_setB | apply cur_drew | apply cur_drewN)); done) | omega | (simp only [gz, Value.cells, oneC]; first | done | omega) | ((simp only [List.mem_cons, List.not_mem_nil, or_false, gz]); omega) | rfl)) only [↓gsd, gs, ev, Nat.reduceAdd, Nat.reduceEqDiff, oneC, Value.cells, Option.isNone, gt, frT_self, frT_drew, frT_drew0, frT_alloc, ↓hk14, e0, e3, e13, e14, e15, d]
    exact hK _ _ ho hbo hf2
theorem all_spec {w : World} {tb : Nat} {S : List Nat} {T : Tab} {K : Value → World → Prop} (h : TabAt w tb S T) (hne : T.rows ≠ []) (hk : ∀ k ∈ T.rows.map (·.1), k.size ≤ 32) (hn : T.rows.length ≤ 1000000000)
    (hB : (allE T (keysOf (T.rows.map (·.1)))).length ≤ 1700000000000)
    (hK : ∀ v w', Own 8 36 w' v (allE T (keysOf (T.rows.map (·.1)))).length (cellsOf encEnt (allE T (keysOf (T.rows.map (·.1))))) → (∀ g, v.ownBlock = some g → w.heap.size ≤ g) → Fr [] w w' → K v w') : CallsN Try.prog 14 [.pointer (some ⟨tb, 0, none⟩)] w K := by
  obtain ⟨⟨mb, h1, h2⟩, h3, h4⟩ := h
  cases mb with
  | none => exact absurd h2 hne
  | some bm =>
    obtain ⟨es, hr⟩ := h2
    exact all_specM h1 hr h4 hk hn hB hK
end Go.Proofs.Ytldmkhakjnglmaa
