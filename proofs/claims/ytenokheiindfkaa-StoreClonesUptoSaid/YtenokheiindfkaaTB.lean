/- StorePlays walked, for scripts of at most 1048576 steps. -/
import Derived.Test.YtenokheiindfkaaTA
import Derived.Test.YtenokheiindfkaaS8
set_option linter.unusedVariables false
set_option linter.unusedSimpArgs false
set_option maxRecDepth 10000
namespace Go.Proofs.Ytenokheiindfkaa
open Go.VW
theorem nodup_sub_len {α : Type} : ∀ (l m : List α), l.Nodup → (∀ x ∈ l, x ∈ m) → l.length ≤ m.length
  | [], m, _, _ => Nat.zero_le _
  | x :: l, m, hn, hs => by
    obtain ⟨s, t, rfl⟩ := List.append_of_mem (hs x (List.mem_cons_self ..))
    rw [List.nodup_cons] at hn
    have := nodup_sub_len l (s ++ t) hn.2 fun y hy => by
      have h1 := hs y (List.mem_cons_of_mem _ hy)
      have hne : y ≠ x := fun e => hn.1 (e ▸ hy)
      simp only [List.mem_append, List.mem_cons] at h1 ⊢
      rcases h1 with h | h | h
      · exact .inl h
      · exact absurd h hne
      · exact .inr h
    simp only [List.length_append, List.length_cons] at this ⊢
    omega
/-- The keys of both, the same. -/
theorem keys_same {w0 w : World} {b bm rb : Nat} {own : List (List Wr)} (h : Both5 w0 w b bm rb own) (hL : own.length ≤ 2097152) : ∃ (st : St) (v : Value), StoreAt w b bm st ∧ (st.WF ∧ st.last = own.length) ∧ R5At w rb v st.most own ∧ (∀ k ∈ st.rows.map (·.1), k.size ≤ 32) ∧ st.rows.length ≤ 100000000 ∧ (past own).length ≤ 100000000 ∧
    (keysOf (st.rows.map (·.1))).Pairwise ltB ∧ (∀ s, s ∈ keysOf (st.rows.map (·.1)) ↔ s ∈ pKeys (past own)) ∧ (∀ s ∈ pKeys (past own), s ≠ ⟨#[]⟩) ∧ (keysOf (st.rows.map (·.1))).length ≤ 100000000 := by
  obtain ⟨⟨st, v, h1, hwf, hx, h2, hv0⟩, _⟩ := h
  have hpl := past_len8 own hx.chk
  have hmem : ∀ s, s ∈ keysOf (st.rows.map (·.1)) ↔ s ∈ pKeys (past own) := fun s => by rw [keysOf_mem, hx.keys, pKeys_hv hx.chk]
  have hgood : ∀ s ∈ pKeys (past own), 1 ≤ s.size ∧ s.size ≤ 32 := fun s hs => by
    unfold pKeys at hs
    obtain ⟨p, hp, rfl⟩ := List.mem_map.1 hs
    exact goodKey_size (past_key hx.chk p hp)
  have hlen : st.rows.length ≤ (past own).length := by
    have := nodup_sub_len (st.rows.map (·.1)) (pKeys (past own)) hx.nd (fun k hk => (hmem k).1 ((keysOf_mem _ k).2 hk))
    simpa [pKeys] using this
  refine ⟨st, v, h1, ⟨hwf, hx.last⟩, h2, fun k hk => (hgood k ((hmem k).1 ((keysOf_mem _ k).2 hk))).2, by omega, by omega, keysOf_lt hx.nd, hmem, fun s hs e => ?_, ?_⟩
  · have := (hgood s hs).1
    rw [e] at this
    revert this; decide
  · rw [keysOf_len, List.length_map]; omega
set_option maxHeartbeats 16000000 in
theorem plays5 {w : World} {n : Int} {sv : Value} {ops : List Op5} {K : Value → World → Prop} (h : SlOf 4 encOp5 w sv ops) (ho : ∀ o ∈ ops, ∃ ws, o.ok w ws) (hl : ops.length ≤ 1048576)
    (hK : ∀ w', Fr [] w w' → K (.bool true) w') : CallsN Try.prog 12 [.int .i64 n, sv] w K := by
  have cw := cur w
  obtain ⟨sa, sc, hsv⟩ := h.form
  refine call12 ?_
  simp (maxSteps := 4000000) (disch := (first | assumption | exact List.not_mem_nil | exact Fr.refl _ _ | ((repeat (first | assumption | apply cur_alloc | apply cur_setB | apply cur_drew | apply cur_drewN)); done) | omega | (simp only [gz, Value.cells, oneC]; first | done | omega) | ((simp only [List.mem_cons, List.not_mem_nil, or_false, gz]); omega) | rfl)) only [↓gsd, gs, ev, Nat.reduceAdd, Nat.reduceEqDiff, oneC, Value.cells, Option.isNone, gt, frT_self, frT_drew, frT_drew0, frT_alloc, ↓hk12]
  refine fixed_spec fun w1 hf1 => ?_
  have cw1 := cur w1
  have hz1 := hf1.size
  simp (maxSteps := 4000000) (disch := (first | assumption | exact List.not_mem_nil | exact Fr.refl _ _ | ((repeat (first | assumption | apply cur_alloc | apply cur_setB | apply cur_drew | apply cur_drewN)); done) | omega | (simp only [gz, Value.cells, oneC]; first | done | omega) | ((simp only [List.mem_cons, List.not_mem_nil, or_false, gz]); omega) | rfl)) only [↓gsd, gs, ev, Nat.reduceAdd, Nat.reduceEqDiff, oneC, Value.cells, Option.isNone, gt, frT_self, frT_drew, frT_drew0, frT_alloc, ↓hk12]
  refine new_spec fun b bm w2 hf2 hb hbm h2 => ?_
  have cw2 := cur w2
  have hz2 := hf2.size
  try simp (maxSteps := 4000000) (disch := (first | assumption | exact List.not_mem_nil | exact Fr.refl _ _ | ((repeat (first | assumption | apply cur_alloc | apply cur_setB | apply cur_drew | apply cur_drewN)); done) | omega | (simp only [gz, Value.cells, oneC]; first | done | omega) | ((simp only [List.mem_cons, List.not_mem_nil, or_false, gz]); omega) | rfl)) only [↓gsd, gs, ev, Nat.reduceAdd, Nat.reduceEqDiff, oneC, Value.cells, Option.isNone, gt, frT_self, frT_drew, frT_drew0, frT_alloc, ↓hk12]
  refine r5new fun rb w3 hf3 hrb h3 => ?_
  have cw3 := cur w3
  try simp (maxSteps := 4000000) (disch := (first | assumption | exact List.not_mem_nil | exact Fr.refl _ _ | ((repeat (first | assumption | apply cur_alloc | apply cur_setB | apply cur_drew | apply cur_drewN)); done) | omega | (simp only [gz, Value.cells, oneC]; first | done | omega) | ((simp only [List.mem_cons, List.not_mem_nil, or_false, gz]); omega) | rfl)) only [↓gsd, gs, ev, Nat.reduceAdd, Nat.reduceEqDiff, oneC, Value.cells, Option.isNone, gt, frT_self, frT_drew, frT_drew0, frT_alloc, ↓hk12]
  have hB0 : Both5 w w3 b bm rb [] := ⟨⟨St.new n, _, h2.frN hf3, St.new_wf n, HistX.new n, h3, fun g hg => by simp [Value.ownBlock] at hg⟩, by omega, by omega, by omega, (hf1.trans' hf2).trans' hf3⟩
  refine loop_intro (fun e w' => ∃ (i : Nat) (own : List (List Wr)), i ≤ ops.length ∧ e 1 = sv ∧ e 5 = .pointer (some ⟨b, 0, none⟩) ∧ e 6 = .pointer (some ⟨rb, 0, none⟩) ∧ e 7 = .int .i64 i ∧ own.length ≤ i ∧ Both5 w w' b bm rb own) (fun e _ => ops.length - (numOf (e 7)).toNat) ?_ ?_
  · refine ⟨0, [], Nat.zero_le _, ?_⟩
    simp (maxSteps := 4000000) (disch := (first | assumption | exact List.not_mem_nil | exact Fr.refl _ _ | ((repeat (first | assumption | apply cur_alloc | apply cur_setB | apply cur_drew | apply cur_drewN)); done) | omega | (simp only [gz, Value.cells, oneC]; first | done | omega) | ((simp only [List.mem_cons, List.not_mem_nil, or_false, gz]); omega) | rfl)) only [↓gsd, gs, ev, Nat.reduceAdd, Nat.reduceEqDiff, oneC, Value.cells, Option.isNone, Int.natCast_zero]
    exact ⟨Nat.le_refl _, hB0⟩
  rintro e w4 k ⟨i, own, hi, e1, e5, e6, e7, hLi, hB⟩ hk
  have cw4 := cur w4
  by_cases hil : i < ops.length
  · have d : decide ((i : Int) < (ops.length : Int)) = true := decide_eq_true (by omega)
    obtain ⟨o, hoi⟩ : ∃ o, ops[i]? = some o := ⟨ops[i], List.getElem?_eq_getElem hil⟩
    obtain ⟨ws, hok⟩ := ho o (List.mem_of_getElem? hoi)
    obtain ⟨bb, off, cap, ob, hv1, hob, _, hrow, _⟩ := (h.frN hB.fr).read encOp5_len i o hoi
    have i0 : (0 : Int) ≤ (i : Int) := by omega
    have i1 : (i : Int) < (ops.length : Int) := by omega
    have i3 : ((i : Int) + 1).toNat = i + 1 := by omega
    simp (maxSteps := 4000000) (disch := (first | assumption | exact List.not_mem_nil | exact Fr.refl _ _ | ((repeat (first | assumption | apply cur_alloc | apply cur_setB | apply cur_drew | apply cur_drewN)); done) | omega | (simp only [gz, Value.cells, oneC]; first | done | omega) | ((simp only [List.mem_cons, List.not_mem_nil, or_false, gz]); omega) | rfl)) only [↓gsd, gs, ev, Nat.reduceAdd, Nat.reduceEqDiff, oneC, Value.cells, Option.isNone, gt, frT_self, frT_drew, frT_drew0, frT_alloc, ↓hk12, e1, e5, e6, e7, hv1, d, i0, i1, Int.toNat_natCast, hob, hrow]
    refine step5_spec hB hok (by omega) fun w5 own' hB5 hL' _ => ?_
    have cw5 := cur w5
    simp (maxSteps := 4000000) (disch := (first | assumption | exact List.not_mem_nil | exact Fr.refl _ _ | ((repeat (first | assumption | apply cur_alloc | apply cur_setB | apply cur_drew | apply cur_drewN)); done) | omega | (simp only [gz, Value.cells, oneC]; first | done | omega) | ((simp only [List.mem_cons, List.not_mem_nil, or_false, gz]); omega) | rfl)) only [↓gsd, gs, ev, Nat.reduceAdd, Nat.reduceEqDiff, oneC, Value.cells, Option.isNone, gt, frT_self, frT_drew, frT_drew0, frT_alloc, ↓hk12, e1, e5, e6, e7]
    refine hk _ _ ⟨i + 1, own', by omega, ?_⟩ ?_
    · simp (maxSteps := 4000000) (disch := (first | assumption | exact List.not_mem_nil | exact Fr.refl _ _ | ((repeat (first | assumption | apply cur_alloc | apply cur_setB | apply cur_drew | apply cur_drewN)); done) | omega | (simp only [gz, Value.cells, oneC]; first | done | omega) | ((simp only [List.mem_cons, List.not_mem_nil, or_false, gz]); omega) | rfl)) only [↓gsd, gs, ev, Nat.reduceAdd, Nat.reduceEqDiff, oneC, Value.cells, Option.isNone, e1, e5, e6, e7, hv1, Int.natCast_add i 1, Int.natCast_one]
      exact ⟨by omega, hB5⟩
    · simp (maxSteps := 4000000) (disch := (first | assumption | exact List.not_mem_nil | exact Fr.refl _ _ | ((repeat (first | assumption | apply cur_alloc | apply cur_setB | apply cur_drew | apply cur_drewN)); done) | omega | (simp only [gz, Value.cells, oneC]; first | done | omega) | ((simp only [List.mem_cons, List.not_mem_nil, or_false, gz]); omega) | rfl)) only [↓gsd, gs, ev, Nat.reduceAdd, Nat.reduceEqDiff, oneC, Value.cells, Option.isNone, e7, numOf, Int.toNat_natCast, i3]; omega
  · have d : decide ((i : Int) < (ops.length : Int)) = false := decide_eq_false (by omega)
    obtain ⟨st, v, k1, _, k2, k3, k4, k5, k6, k7, k8, k9'⟩ := keys_same hB (by omega)
    simp (maxSteps := 4000000) (disch := (first | assumption | exact List.not_mem_nil | exact Fr.refl _ _ | ((repeat (first | assumption | apply cur_alloc | apply cur_setB | apply cur_drew | apply cur_drewN)); done) | omega | (simp only [gz, Value.cells, oneC]; first | done | omega) | ((simp only [List.mem_cons, List.not_mem_nil, or_false, gz]); omega) | rfl)) only [↓gsd, gs, ev, Nat.reduceAdd, Nat.reduceEqDiff, oneC, Value.cells, Option.isNone, gt, frT_self, frT_drew, frT_drew0, frT_alloc, ↓hk12, e1, e5, e6, e7, hsv, d]
    refine keys_spec k1 k3 k4 fun vk w5 hown5 hfr5 hf5 => ?_
    have cw5 := cur w5
    try simp (maxSteps := 4000000) (disch := (first | assumption | exact List.not_mem_nil | exact Fr.refl _ _ | ((repeat (first | assumption | apply cur_alloc | apply cur_setB | apply cur_drew | apply cur_drewN)); done) | omega | (simp only [gz, Value.cells, oneC]; first | done | omega) | ((simp only [List.mem_cons, List.not_mem_nil, or_false, gz]); omega) | rfl)) only [↓gsd, gs, ev, Nat.reduceAdd, Nat.reduceEqDiff, oneC, Value.cells, Option.isNone, gt, frT_self, frT_drew, frT_drew0, frT_alloc, ↓hk12, e1, e5, e6, e7]
    refine r5keys (k2.frN hf5) k5 k6 k7 k8 k9' fun vo w6 hown6 hfr6 hf6 => ?_
    have cw6 := cur w6
    try simp (maxSteps := 4000000) (disch := (first | assumption | exact List.not_mem_nil | exact Fr.refl _ _ | ((repeat (first | assumption | apply cur_alloc | apply cur_setB | apply cur_drew | apply cur_drewN)); done) | omega | (simp only [gz, Value.cells, oneC]; first | done | omega) | ((simp only [List.mem_cons, List.not_mem_nil, or_false, gz]); omega) | rfl)) only [↓gsd, gs, ev, Nat.reduceAdd, Nat.reduceEqDiff, oneC, Value.cells, Option.isNone, gt, frT_self, frT_drew, frT_drew0, frT_alloc, ↓hk12, e1, e5, e6, e7]
    have hS : ∀ l : List ByteArray, cellsOf encS l = l.map Value.string := fun l => by
      induction l with
      | nil => rfl
      | cons x l ih => simp only [cellsOf, List.flatMap_cons, encS, List.map_cons] at *; rw [ih]; rfl
    rw [← hS] at hown5
    refine r5sameT (show SlOf 1 encS w6 vk _ from hown5.sl.frN hf6) (show SlOf 1 encS w6 vo _ from hown6.sl) (by omega) fun w7 hf7 => ?_
    have cw7 := cur w7
    try simp (maxSteps := 4000000) (disch := (first | assumption | exact List.not_mem_nil | exact Fr.refl _ _ | ((repeat (first | assumption | apply cur_alloc | apply cur_setB | apply cur_drew | apply cur_drewN)); done) | omega | (simp only [gz, Value.cells, oneC]; first | done | omega) | ((simp only [List.mem_cons, List.not_mem_nil, or_false, gz]); omega) | rfl)) only [↓gsd, gs, ev, Nat.reduceAdd, Nat.reduceEqDiff, oneC, Value.cells, Option.isNone, gt, frT_self, frT_drew, frT_drew0, frT_alloc, ↓hk12, e1, e5, e6, e7]
    exact hK _ (((hB.fr.trans' hf5).trans' hf6).trans' hf7)
end Go.Proofs.Ytenokheiindfkaa
