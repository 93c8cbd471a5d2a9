/- StoreClones: the versions that were answered are written over; the clone's own way; the end. -/
import Derived.Test.YtenokheiindfkaaU2
set_option linter.unusedVariables false
set_option linter.unusedSimpArgs false
set_option maxRecDepth 10000
namespace Go.Proofs.Ytenokheiindfkaa
open Go.VW
theorem own_form {k n : Nat} {e : TypeId} {w : World} {v : Value} {cs : List Value} (h : Own k e w v n cs) (hn : 0 < n) : ∃ g cap, v = .slice (some ⟨g, 0, none⟩) n cap := by
  rcases h.2 with ⟨_, h0⟩ | ⟨g, cap, cur', rfl, _⟩
  · omega
  · exact ⟨g, cap, rfl⟩
set_option maxHeartbeats 32000000 in
theorem clonesB {w : World} {b bm : Nat} {st : St} {sb kv p8 p16 p17 : Value} {S : List ByteArray} {e : Env} {Q : Exit → Env → World → Prop} (h1 : StoreAt w b bm st) (hwf : st.WF) (hk : SlOf 1 encS w kv S) (hS : S.length ≤ 100000000)
    (e2 : e 2 = sb) (e7 : e 7 = .pointer (some ⟨b, 0, none⟩)) (e8 : e 8 = p8) (e16 : e 16 = p16) (e17 : e 17 = p17) (e18 : e 18 = kv)
    (hQ : ∀ (e' : Env) (w' : World), e' 2 = sb → e' 7 = .pointer (some ⟨b, 0, none⟩) → e' 8 = p8 → e' 16 = p16 → e' 17 = p17 → e' 18 = kv → Fr [] w w' → Q .normal e' w') : W3 Try.prog 216 V13 c13_35 Q e w := by
  have cw := cur w
  obtain ⟨oa, oc, hsa⟩ := hk.form
  have hm2 := hwf.m2
  simp (maxSteps := 4000000) (disch := (first | assumption | exact List.not_mem_nil | exact Fr.refl _ _ | ((repeat (first | assumption | apply cur_alloc | apply cur_setB | apply cur_drew | apply cur_drewN)); done) | omega | (simp only [gz, Value.cells, oneC]; first | done | omega) | ((simp only [List.mem_cons, List.not_mem_nil, or_false, gz]); omega) | rfl)) only [↓gsd, gs, ev, Nat.reduceAdd, Nat.reduceEqDiff, oneC, Value.cells, Option.isNone, gt, ↓hk13, e2, e7, e8, e16, e17, e18]
  refine loop_intro (fun e w' => ∃ (i : Nat), i ≤ S.length ∧ e 2 = sb ∧ e 7 = .pointer (some ⟨b, 0, none⟩) ∧ e 8 = p8 ∧ e 16 = p16 ∧ e 17 = p17 ∧ e 18 = kv ∧ e 19 = .int .i64 i ∧ Fr [] w w') (fun e _ => S.length - (numOf (e 19)).toNat) ?_ ?_
  · refine ⟨0, Nat.zero_le _, ?_⟩
    simp (maxSteps := 4000000) (disch := (first | assumption | exact List.not_mem_nil | exact Fr.refl _ _ | ((repeat (first | assumption | apply cur_alloc | apply cur_setB | apply cur_drew | apply cur_drewN)); done) | omega | (simp only [gz, Value.cells, oneC]; first | done | omega) | ((simp only [List.mem_cons, List.not_mem_nil, or_false, gz]); omega) | rfl)) only [↓gsd, gs, ev, Nat.reduceAdd, Nat.reduceEqDiff, oneC, Value.cells, Option.isNone, e2, e7, e8, e16, e17, e18, Int.natCast_zero]
    exact Fr.refl _ _
  rintro e w4 k ⟨i, hi, e2, e7, e8, e16, e17, e18, e19, hf⟩ hkk
  have cw4 := cur w4
  by_cases hil : i < S.length
  case neg =>
    have d : decide ((i : Int) < (S.length : Int)) = false := decide_eq_false (by omega)
    simp (maxSteps := 4000000) (disch := (first | assumption | exact List.not_mem_nil | exact Fr.refl _ _ | ((repeat (first | assumption | apply cur_alloc | apply cur_setB | apply cur_drew | apply cur_drewN)); done) | omega | (simp only [gz, Value.cells, oneC]; first | done | omega) | ((simp only [List.mem_cons, List.not_mem_nil, or_false, gz]); omega) | rfl)) only [↓gsd, gs, ev, Nat.reduceAdd, Nat.reduceEqDiff, oneC, Value.cells, Option.isNone, gt, ↓hk13, e2, e7, e8, e16, e17, e18, e19, hsa, d]
    exact hQ _ _ (by simp (maxSteps := 4000000) (disch := (first | assumption | exact List.not_mem_nil | exact Fr.refl _ _ | ((repeat (first | assumption | apply cur_alloc | apply cur_setB | apply cur_drew | apply cur_drewN)); done) | omega | (simp only [gz, Value.cells, oneC]; first | done | omega) | ((simp only [List.mem_cons, List.not_mem_nil, or_false, gz]); omega) | rfl)) only [↓gsd, gs, ev, Nat.reduceAdd, Nat.reduceEqDiff, oneC, Value.cells, Option.isNone, e2]) (by simp (maxSteps := 4000000) (disch := (first | assumption | exact List.not_mem_nil | exact Fr.refl _ _ | ((repeat (first | assumption | apply cur_alloc | apply cur_setB | apply cur_drew | apply cur_drewN)); done) | omega | (simp only [gz, Value.cells, oneC]; first | done | omega) | ((simp only [List.mem_cons, List.not_mem_nil, or_false, gz]); omega) | rfl)) only [↓gsd, gs, ev, Nat.reduceAdd, Nat.reduceEqDiff, oneC, Value.cells, Option.isNone, e7]) (by simp (maxSteps := 4000000) (disch := (first | assumption | exact List.not_mem_nil | exact Fr.refl _ _ | ((repeat (first | assumption | apply cur_alloc | apply cur_setB | apply cur_drew | apply cur_drewN)); done) | omega | (simp only [gz, Value.cells, oneC]; first | done | omega) | ((simp only [List.mem_cons, List.not_mem_nil, or_false, gz]); omega) | rfl)) only [↓gsd, gs, ev, Nat.reduceAdd, Nat.reduceEqDiff, oneC, Value.cells, Option.isNone, e8]) (by simp (maxSteps := 4000000) (disch := (first | assumption | exact List.not_mem_nil | exact Fr.refl _ _ | ((repeat (first | assumption | apply cur_alloc | apply cur_setB | apply cur_drew | apply cur_drewN)); done) | omega | (simp only [gz, Value.cells, oneC]; first | done | omega) | ((simp only [List.mem_cons, List.not_mem_nil, or_false, gz]); omega) | rfl)) only [↓gsd, gs, ev, Nat.reduceAdd, Nat.reduceEqDiff, oneC, Value.cells, Option.isNone, e16]) (by simp (maxSteps := 4000000) (disch := (first | assumption | exact List.not_mem_nil | exact Fr.refl _ _ | ((repeat (first | assumption | apply cur_alloc | apply cur_setB | apply cur_drew | apply cur_drewN)); done) | omega | (simp only [gz, Value.cells, oneC]; first | done | omega) | ((simp only [List.mem_cons, List.not_mem_nil, or_false, gz]); omega) | rfl)) only [↓gsd, gs, ev, Nat.reduceAdd, Nat.reduceEqDiff, oneC, Value.cells, Option.isNone, e17]) (by simp (maxSteps := 4000000) (disch := (first | assumption | exact List.not_mem_nil | exact Fr.refl _ _ | ((repeat (first | assumption | apply cur_alloc | apply cur_setB | apply cur_drew | apply cur_drewN)); done) | omega | (simp only [gz, Value.cells, oneC]; first | done | omega) | ((simp only [List.mem_cons, List.not_mem_nil, or_false, gz]); omega) | rfl)) only [↓gsd, gs, ev, Nat.reduceAdd, Nat.reduceEqDiff, oneC, Value.cells, Option.isNone, e18, hsa]) hf
  have d : decide ((i : Int) < (S.length : Int)) = true := decide_eq_true (by omega)
  obtain ⟨x, hxi⟩ : ∃ x, S[i]? = some x := ⟨S[i], List.getElem?_eq_getElem hil⟩
  have i0 : (0 : Int) ≤ (i : Int) := by omega
  have i1 : (i : Int) < (S.length : Int) := by omega
  have i3 : ((i : Int) + 1).toNat = i + 1 := by omega
  obtain ⟨bb, off, cap, ob, hv1, hob, hbb, _, hc⟩ := (hk.frN hf).read encS_len i x hxi
  have hc' := fun orig K => hc 0 (.string x) orig K rfl
  simp only [Nat.mul_one, Nat.add_zero] at hc'
  simp (maxSteps := 4000000) (disch := (first | assumption | exact List.not_mem_nil | exact Fr.refl _ _ | ((repeat (first | assumption | apply cur_alloc | apply cur_setB | apply cur_drew | apply cur_drewN)); done) | omega | (simp only [gz, Value.cells, oneC]; first | done | omega) | ((simp only [List.mem_cons, List.not_mem_nil, or_false, gz]); omega) | rfl)) only [↓gsd, gs, ev, Nat.reduceAdd, Nat.reduceEqDiff, oneC, Value.cells, Option.isNone, gt, ↓hk13, e2, e7, e8, e16, e17, e18, e19, hv1, d, i0, i1, Int.toNat_natCast, Nat.mul_one, hob, hc']
  refine versions_spec (h1.frN hf) (by have := (hwf.row x).1; omega) fun v w5 hown hbv hf5 => ?_
  have cw5 := cur w5
  have hz5 := hf5.size
  have hF5 := hf.trans' hf5
  have hrl : (st.row x).list.length ≤ 64 := by have := (hwf.row x).1; omega
  generalize (st.row x).list = vs at hown hrl
  simp (maxSteps := 4000000) (disch := (first | assumption | exact List.not_mem_nil | exact Fr.refl _ _ | ((repeat (first | assumption | apply cur_alloc | apply cur_setB | apply cur_drew | apply cur_drewN)); done) | omega | (simp only [gz, Value.cells, oneC]; first | done | omega) | ((simp only [List.mem_cons, List.not_mem_nil, or_false, gz]); omega) | rfl)) only [↓gsd, gs, ev, Nat.reduceAdd, Nat.reduceEqDiff, oneC, Value.cells, Option.isNone, gt, ↓hk13, e2, e7, e8, e16, e17, e18, e19]
  have E19 := e19
  obtain ⟨va, vc, hvf⟩ := hown.sl.form
  refine loop_intro (fun e w' => ∃ (j : Nat) (vs' : List Ver), j ≤ vs.length ∧ e 2 = sb ∧ e 7 = .pointer (some ⟨b, 0, none⟩) ∧ e 8 = p8 ∧ e 16 = p16 ∧ e 17 = p17 ∧ e 18 = kv ∧ e 19 = .int .i64 i ∧ e 20 = v ∧ e 21 = .int .i64 j ∧
      vs'.length = vs.length ∧ Own 3 106 w' v vs.length (cellsOf encVer vs') ∧ Fr (blkL v) w5 w') (fun e _ => vs.length - (numOf (e 21)).toNat) ?_ ?_
  · refine ⟨0, vs, Nat.zero_le _, ?_⟩
    simp (maxSteps := 4000000) (disch := (first | assumption | exact List.not_mem_nil | exact Fr.refl _ _ | ((repeat (first | assumption | apply cur_alloc | apply cur_setB | apply cur_drew | apply cur_drewN)); done) | omega | (simp only [gz, Value.cells, oneC]; first | done | omega) | ((simp only [List.mem_cons, List.not_mem_nil, or_false, gz]); omega) | rfl)) only [↓gsd, gs, ev, Nat.reduceAdd, Nat.reduceEqDiff, oneC, Value.cells, Option.isNone, e2, e7, e8, e16, e17, e18, e19, hv1, Int.natCast_zero]
    exact ⟨hown, Fr.refl _ _⟩
  rintro e wa k' ⟨j, vs', hj, e2, e7, e8, e16, e17, e18, e19, e20, e21, hvs', hownj, hfa⟩ hk'
  have cwa := cur wa
  have hza := hfa.size
  have hFa : Fr [] w wa := hF5.trans hfa fun y hy => .inr (by have := hbv y (mem_blkL.1 hy); have := hf.size; omega)
  by_cases hjl : j < vs.length
  · have dj : decide ((j : Int) < (vs.length : Int)) = true := decide_eq_true (by omega)
    have j0 : (0 : Int) ≤ (j : Int) := by omega
    have j1 : (j : Int) < (vs.length : Int) := by omega
    have j3 : ((j : Int) + 1).toNat = j + 1 := by omega
    obtain ⟨g, cap', hvg⟩ := own_form hownj (by omega)
    rw [hvg] at hownj
    obtain ⟨oo, oo', ho, hlto, hst, hown'⟩ := own_storeN encVer_len (fun _ => rfl) hownj hvs' hjl (⟨-1, false, ⟨#[]⟩⟩ : Ver)
    have hst' := fun orig K => hst orig K
    unfold encVer at hst'
    simp (maxSteps := 4000000) (disch := (first | assumption | exact List.not_mem_nil | exact Fr.refl _ _ | ((repeat (first | assumption | apply cur_alloc | apply cur_setB | apply cur_drew | apply cur_drewN)); done) | omega | (simp only [gz, Value.cells, oneC]; first | done | omega) | ((simp only [List.mem_cons, List.not_mem_nil, or_false, gz]); omega) | rfl)) only [↓gsd, gs, ev, Nat.reduceAdd, Nat.reduceEqDiff, oneC, Value.cells, Option.isNone, gt, ↓hk13, e2, e7, e8, e16, e17, e18, e19, e20, e21, hvg, dj, j0, j1, Int.toNat_natCast, ho, hst']
    refine hk' _ _ ⟨j + 1, vs'.set j ⟨-1, false, ⟨#[]⟩⟩, by omega, ?_⟩ ?_
    · simp (maxSteps := 4000000) (disch := (first | assumption | exact List.not_mem_nil | exact Fr.refl _ _ | ((repeat (first | assumption | apply cur_alloc | apply cur_setB | apply cur_drew | apply cur_drewN)); done) | omega | (simp only [gz, Value.cells, oneC]; first | done | omega) | ((simp only [List.mem_cons, List.not_mem_nil, or_false, gz]); omega) | rfl)) only [↓gsd, gs, ev, Nat.reduceAdd, Nat.reduceEqDiff, oneC, Value.cells, Option.isNone, e2, e7, e8, e16, e17, e18, e19, e20, e21, hvg, Int.natCast_add j 1, Int.natCast_one]
      refine ⟨by simp [hvs'], hown', ?_⟩
      rw [← hvg]
      exact hfa.setB _ _ (.inl (mem_blkL.2 (by rw [hvg]; rfl)))
    · simp (maxSteps := 4000000) (disch := (first | assumption | exact List.not_mem_nil | exact Fr.refl _ _ | ((repeat (first | assumption | apply cur_alloc | apply cur_setB | apply cur_drew | apply cur_drewN)); done) | omega | (simp only [gz, Value.cells, oneC]; first | done | omega) | ((simp only [List.mem_cons, List.not_mem_nil, or_false, gz]); omega) | rfl)) only [↓gsd, gs, ev, Nat.reduceAdd, Nat.reduceEqDiff, oneC, Value.cells, Option.isNone, e21, numOf, Int.toNat_natCast, j3]; omega
  · have dj : decide ((j : Int) < (vs.length : Int)) = false := decide_eq_false (by omega)
    simp (maxSteps := 4000000) (disch := (first | assumption | exact List.not_mem_nil | exact Fr.refl _ _ | ((repeat (first | assumption | apply cur_alloc | apply cur_setB | apply cur_drew | apply cur_drewN)); done) | omega | (simp only [gz, Value.cells, oneC]; first | done | omega) | ((simp only [List.mem_cons, List.not_mem_nil, or_false, gz]); omega) | rfl)) only [↓gsd, gs, ev, Nat.reduceAdd, Nat.reduceEqDiff, oneC, Value.cells, Option.isNone, gt, ↓hk13, e2, e7, e8, e16, e17, e18, e19, e20, e21, hvf, dj]
    generalize hW : World.alloc wa _ = wb
    have hfb : Fr [] wa wb := by rw [← hW]; (repeat (first | exact Fr.refl _ _ | assumption | with_reducible apply Fr.alloc | with_reducible apply Fr.drew | with_reducible refine Fr.setB ?_ _ _ (.inr (by first | omega | (simp only [gz]; omega))) | with_reducible refine Fr.setB ?_ _ _ (.inl (by first | assumption | simp)) | with_reducible refine Fr.trans' ?_ (by assumption)))
    have hzb : wb.heap.size = wa.heap.size + 1 := by rw [← hW]; simp only [gz]
    have hsl : SlOf 3 encVer wb (.slice (some ⟨wa.heap.size, 0, none⟩) 1 1) [(⟨-2, false, ⟨#[]⟩⟩ : Ver)] := by
      rw [← hW]
      exact ⟨rfl, .inr ⟨wa.heap.size, 0, 1, _, 106, (0, 0), rfl, get_alloc_new _ _, rfl⟩⟩
    clear hW
    have cwb := cur wb
    obtain ⟨v7, w7, hr7, hown7, hf7, hbk7⟩ := ap46 (ty := 46) (Go.Proofs.Ytenokheiindfkaa.Own.frN hownj hfb) hsl (cells_oneC (enc := encVer) (fun _ => rfl) [_]) (by simp; omega)
    have cw7 := cur w7
    rw [hvf] at hr7
    simp (maxSteps := 4000000) (disch := (first | assumption | exact List.not_mem_nil | exact Fr.refl _ _ | ((repeat (first | assumption | apply cur_alloc | apply cur_setB | apply cur_drew | apply cur_drewN)); done) | omega | (simp only [gz, Value.cells, oneC]; first | done | omega) | ((simp only [List.mem_cons, List.not_mem_nil, or_false, gz]); omega) | rfl)) only [↓gsd, gs, ev, Nat.reduceAdd, Nat.reduceEqDiff, oneC, Value.cells, Option.isNone, gt, ↓hk13, e2, e7, e8, e16, e17, e18, e19, e20, e21, hr7]
    refine hkk _ _ ⟨i + 1, by omega, ?_⟩ ?_
    · simp (maxSteps := 4000000) (disch := (first | assumption | exact List.not_mem_nil | exact Fr.refl _ _ | ((repeat (first | assumption | apply cur_alloc | apply cur_setB | apply cur_drew | apply cur_drewN)); done) | omega | (simp only [gz, Value.cells, oneC]; first | done | omega) | ((simp only [List.mem_cons, List.not_mem_nil, or_false, gz]); omega) | rfl)) only [↓gsd, gs, ev, Nat.reduceAdd, Nat.reduceEqDiff, oneC, Value.cells, Option.isNone, e2, e7, e8, e16, e17, e18, e19, Int.natCast_add i 1, Int.natCast_one]
      exact (hFa.trans' hfb).trans hf7 fun y hy => .inr (by have := hbv y (mem_blkL.1 hy); have := hf.size; omega)
    · simp (maxSteps := 4000000) (disch := (first | assumption | exact List.not_mem_nil | exact Fr.refl _ _ | ((repeat (first | assumption | apply cur_alloc | apply cur_setB | apply cur_drew | apply cur_drewN)); done) | omega | (simp only [gz, Value.cells, oneC]; first | done | omega) | ((simp only [List.mem_cons, List.not_mem_nil, or_false, gz]); omega) | rfl)) only [↓gsd, gs, ev, Nat.reduceAdd, Nat.reduceEqDiff, oneC, Value.cells, Option.isNone, e19, E19, numOf, Int.toNat_natCast, i3]; omega
set_option maxHeartbeats 16000000 in
theorem clonesC {w0 wC w : World} {tb tm ub : Nat} {pv p7 p8 kv : Value} {ops : List Op5} {own : List (List Wr)} {e : Env} {K : Value → World → Prop} {Q : Exit → Env → World → Prop} (hB : Both5 wC w tb tm ub own) (hC : Fr [] w0 wC) (h : SlOf 4 encOp5 w0 pv ops) (ho : ∀ o ∈ ops, ∃ ws, o.ok w0 ws) (hL : own.length + ops.length ≤ 1048576)
    (e2 : e 2 = pv) (e7 : e 7 = p7) (e8 : e 8 = p8) (e16 : e 16 = .pointer (some ⟨tb, 0, none⟩)) (e17 : e 17 = .pointer (some ⟨ub, 0, none⟩)) (e18 : e 18 = kv)
    (hQ : ∀ (e' : Env) (w' : World) (own' : List (List Wr)), e' 7 = p7 → e' 8 = p8 → e' 16 = .pointer (some ⟨tb, 0, none⟩) → e' 17 = .pointer (some ⟨ub, 0, none⟩) → e' 18 = kv → own'.length ≤ 1048576 → Both5 wC w' tb tm ub own' → Keep9 w w' → Q .normal e' w') : W3 Try.prog 216 V13 c13_23 Q e w := by
  have cw := cur w
  obtain ⟨pa, pc, hpv⟩ := h.form
  simp (maxSteps := 4000000) (disch := (first | assumption | exact List.not_mem_nil | exact Fr.refl _ _ | ((repeat (first | assumption | apply cur_alloc | apply cur_setB | apply cur_drew | apply cur_drewN)); done) | omega | (simp only [gz, Value.cells, oneC]; first | done | omega) | ((simp only [List.mem_cons, List.not_mem_nil, or_false, gz]); omega) | rfl)) only [↓gsd, gs, ev, Nat.reduceAdd, Nat.reduceEqDiff, oneC, Value.cells, Option.isNone, gt, ↓hk13, e2, e7, e8, e16, e17, e18]
  refine loop_intro (fun e w' => ∃ (i : Nat) (own' : List (List Wr)), i ≤ ops.length ∧ e 2 = pv ∧ e 7 = p7 ∧ e 8 = p8 ∧ e 16 = .pointer (some ⟨tb, 0, none⟩) ∧ e 17 = .pointer (some ⟨ub, 0, none⟩) ∧ e 18 = kv ∧ e 22 = .int .i64 i ∧ own'.length ≤ own.length + i ∧ Both5 wC w' tb tm ub own' ∧ Keep9 w w') (fun e _ => ops.length - (numOf (e 22)).toNat) ?_ ?_
  · refine ⟨0, own, Nat.zero_le _, ?_⟩
    simp (maxSteps := 4000000) (disch := (first | assumption | exact List.not_mem_nil | exact Fr.refl _ _ | ((repeat (first | assumption | apply cur_alloc | apply cur_setB | apply cur_drew | apply cur_drewN)); done) | omega | (simp only [gz, Value.cells, oneC]; first | done | omega) | ((simp only [List.mem_cons, List.not_mem_nil, or_false, gz]); omega) | rfl)) only [↓gsd, gs, ev, Nat.reduceAdd, Nat.reduceEqDiff, oneC, Value.cells, Option.isNone, e2, e7, e8, e16, e17, e18, Int.natCast_zero]
    exact ⟨Nat.le_refl _, hB, Keep9.refl _⟩
  rintro e w1 k ⟨i, own', hi, e2, e7, e8, e16, e17, e18, e22, hL', hB', hK9⟩ hk
  have cw1 := cur w1
  by_cases hil : i < ops.length
  · have d : decide ((i : Int) < (ops.length : Int)) = true := decide_eq_true (by omega)
    obtain ⟨o, hoi⟩ : ∃ o, ops[i]? = some o := ⟨ops[i], List.getElem?_eq_getElem hil⟩
    obtain ⟨ws, hok⟩ := ho o (List.mem_of_getElem? hoi)
    obtain ⟨bb, off, cap, ob, hv1, hob, _, hrow, _⟩ := (h.frN (hC.trans' hB'.fr)).read encOp5_len i o hoi
    have i0 : (0 : Int) ≤ (i : Int) := by omega
    have i1 : (i : Int) < (ops.length : Int) := by omega
    have i3 : ((i : Int) + 1).toNat = i + 1 := by omega
    simp (maxSteps := 4000000) (disch := (first | assumption | exact List.not_mem_nil | exact Fr.refl _ _ | ((repeat (first | assumption | apply cur_alloc | apply cur_setB | apply cur_drew | apply cur_drewN)); done) | omega | (simp only [gz, Value.cells, oneC]; first | done | omega) | ((simp only [List.mem_cons, List.not_mem_nil, or_false, gz]); omega) | rfl)) only [↓gsd, gs, ev, Nat.reduceAdd, Nat.reduceEqDiff, oneC, Value.cells, Option.isNone, gt, ↓hk13, e2, e7, e8, e16, e17, e18, e22, hv1, d, i0, i1, Int.toNat_natCast, hob, hrow]
    refine step5_spec hB' ⟨hok.sl.frN hC, hok.len⟩ (by omega) fun w5 own5 hB5 hL5 hk5 => ?_
    have cw5 := cur w5
    simp (maxSteps := 4000000) (disch := (first | assumption | exact List.not_mem_nil | exact Fr.refl _ _ | ((repeat (first | assumption | apply cur_alloc | apply cur_setB | apply cur_drew | apply cur_drewN)); done) | omega | (simp only [gz, Value.cells, oneC]; first | done | omega) | ((simp only [List.mem_cons, List.not_mem_nil, or_false, gz]); omega) | rfl)) only [↓gsd, gs, ev, Nat.reduceAdd, Nat.reduceEqDiff, oneC, Value.cells, Option.isNone, gt, ↓hk13, e2, e7, e8, e16, e17, e18, e22]
    refine hk _ _ ⟨i + 1, own5, by omega, ?_⟩ ?_
    · simp (maxSteps := 4000000) (disch := (first | assumption | exact List.not_mem_nil | exact Fr.refl _ _ | ((repeat (first | assumption | apply cur_alloc | apply cur_setB | apply cur_drew | apply cur_drewN)); done) | omega | (simp only [gz, Value.cells, oneC]; first | done | omega) | ((simp only [List.mem_cons, List.not_mem_nil, or_false, gz]); omega) | rfl)) only [↓gsd, gs, ev, Nat.reduceAdd, Nat.reduceEqDiff, oneC, Value.cells, Option.isNone, e2, e7, e8, e16, e17, e18, e22, hv1, Int.natCast_add i 1, Int.natCast_one]
      exact ⟨by omega, hB5, hK9.trans hk5⟩
    · simp (maxSteps := 4000000) (disch := (first | assumption | exact List.not_mem_nil | exact Fr.refl _ _ | ((repeat (first | assumption | apply cur_alloc | apply cur_setB | apply cur_drew | apply cur_drewN)); done) | omega | (simp only [gz, Value.cells, oneC]; first | done | omega) | ((simp only [List.mem_cons, List.not_mem_nil, or_false, gz]); omega) | rfl)) only [↓gsd, gs, ev, Nat.reduceAdd, Nat.reduceEqDiff, oneC, Value.cells, Option.isNone, e22, numOf, Int.toNat_natCast, i3]; omega
  · have d : decide ((i : Int) < (ops.length : Int)) = false := decide_eq_false (by omega)
    simp (maxSteps := 4000000) (disch := (first | assumption | exact List.not_mem_nil | exact Fr.refl _ _ | ((repeat (first | assumption | apply cur_alloc | apply cur_setB | apply cur_drew | apply cur_drewN)); done) | omega | (simp only [gz, Value.cells, oneC]; first | done | omega) | ((simp only [List.mem_cons, List.not_mem_nil, or_false, gz]); omega) | rfl)) only [↓gsd, gs, ev, Nat.reduceAdd, Nat.reduceEqDiff, oneC, Value.cells, Option.isNone, gt, ↓hk13, e2, e7, e8, e16, e17, e18, e22, hpv, d]
    exact hQ _ _ own' (by simp (maxSteps := 4000000) (disch := (first | assumption | exact List.not_mem_nil | exact Fr.refl _ _ | ((repeat (first | assumption | apply cur_alloc | apply cur_setB | apply cur_drew | apply cur_drewN)); done) | omega | (simp only [gz, Value.cells, oneC]; first | done | omega) | ((simp only [List.mem_cons, List.not_mem_nil, or_false, gz]); omega) | rfl)) only [↓gsd, gs, ev, Nat.reduceAdd, Nat.reduceEqDiff, oneC, Value.cells, Option.isNone, e7]) (by simp (maxSteps := 4000000) (disch := (first | assumption | exact List.not_mem_nil | exact Fr.refl _ _ | ((repeat (first | assumption | apply cur_alloc | apply cur_setB | apply cur_drew | apply cur_drewN)); done) | omega | (simp only [gz, Value.cells, oneC]; first | done | omega) | ((simp only [List.mem_cons, List.not_mem_nil, or_false, gz]); omega) | rfl)) only [↓gsd, gs, ev, Nat.reduceAdd, Nat.reduceEqDiff, oneC, Value.cells, Option.isNone, e8]) (by simp (maxSteps := 4000000) (disch := (first | assumption | exact List.not_mem_nil | exact Fr.refl _ _ | ((repeat (first | assumption | apply cur_alloc | apply cur_setB | apply cur_drew | apply cur_drewN)); done) | omega | (simp only [gz, Value.cells, oneC]; first | done | omega) | ((simp only [List.mem_cons, List.not_mem_nil, or_false, gz]); omega) | rfl)) only [↓gsd, gs, ev, Nat.reduceAdd, Nat.reduceEqDiff, oneC, Value.cells, Option.isNone, e16]) (by simp (maxSteps := 4000000) (disch := (first | assumption | exact List.not_mem_nil | exact Fr.refl _ _ | ((repeat (first | assumption | apply cur_alloc | apply cur_setB | apply cur_drew | apply cur_drewN)); done) | omega | (simp only [gz, Value.cells, oneC]; first | done | omega) | ((simp only [List.mem_cons, List.not_mem_nil, or_false, gz]); omega) | rfl)) only [↓gsd, gs, ev, Nat.reduceAdd, Nat.reduceEqDiff, oneC, Value.cells, Option.isNone, e17]) (by simp (maxSteps := 4000000) (disch := (first | assumption | exact List.not_mem_nil | exact Fr.refl _ _ | ((repeat (first | assumption | apply cur_alloc | apply cur_setB | apply cur_drew | apply cur_drewN)); done) | omega | (simp only [gz, Value.cells, oneC]; first | done | omega) | ((simp only [List.mem_cons, List.not_mem_nil, or_false, gz]); omega) | rfl)) only [↓gsd, gs, ev, Nat.reduceAdd, Nat.reduceEqDiff, oneC, Value.cells, Option.isNone, e18]) (by omega) hB' hK9
set_option maxHeartbeats 32000000 in
theorem clonesE {w0 wC w : World} {b bm rb tb tm ub : Nat} {kv : Value} {S : List ByteArray} {own own' : List (List Wr)} {e : Env} {Q : Exit → Env → World → Prop} (hB : Both5 w0 w b bm rb own) (hB' : Both5 wC w tb tm ub own') (hL : own.length ≤ 1048576) (hL' : own'.length ≤ 1048576) (hk : SlOf 1 encS w kv S) (hS : S.length ≤ 100000000)
    (e7 : e 7 = .pointer (some ⟨b, 0, none⟩)) (e8 : e 8 = .pointer (some ⟨rb, 0, none⟩)) (e16 : e 16 = .pointer (some ⟨tb, 0, none⟩)) (e17 : e 17 = .pointer (some ⟨ub, 0, none⟩)) (e18 : e 18 = kv)
    (hQ : ∀ (e' : Env) (w' : World), e' 7 = .pointer (some ⟨b, 0, none⟩) → e' 8 = .pointer (some ⟨rb, 0, none⟩) → e' 18 = kv → Fr [] w w' → Q .normal e' w') : W3 Try.prog 216 V13 c13_11 Q e w := by
  have cw := cur w
  obtain ⟨oa, oc, hsa⟩ := hk.form
  simp (maxSteps := 4000000) (disch := (first | assumption | exact List.not_mem_nil | exact Fr.refl _ _ | ((repeat (first | assumption | apply cur_alloc | apply cur_setB | apply cur_drew | apply cur_drewN)); done) | omega | (simp only [gz, Value.cells, oneC]; first | done | omega) | ((simp only [List.mem_cons, List.not_mem_nil, or_false, gz]); omega) | rfl)) only [↓gsd, gs, ev, Nat.reduceAdd, Nat.reduceEqDiff, oneC, Value.cells, Option.isNone, gt, ↓hk13, e7, e8, e16, e17, e18]
  refine loop_intro (fun e w' => ∃ (i : Nat), i ≤ S.length ∧ e 7 = .pointer (some ⟨b, 0, none⟩) ∧ e 8 = .pointer (some ⟨rb, 0, none⟩) ∧ e 16 = .pointer (some ⟨tb, 0, none⟩) ∧ e 17 = .pointer (some ⟨ub, 0, none⟩) ∧ e 18 = kv ∧ e 23 = .int .i64 i ∧ Fr [] w w') (fun e _ => S.length - (numOf (e 23)).toNat) ?_ ?_
  · refine ⟨0, Nat.zero_le _, ?_⟩
    simp (maxSteps := 4000000) (disch := (first | assumption | exact List.not_mem_nil | exact Fr.refl _ _ | ((repeat (first | assumption | apply cur_alloc | apply cur_setB | apply cur_drew | apply cur_drewN)); done) | omega | (simp only [gz, Value.cells, oneC]; first | done | omega) | ((simp only [List.mem_cons, List.not_mem_nil, or_false, gz]); omega) | rfl)) only [↓gsd, gs, ev, Nat.reduceAdd, Nat.reduceEqDiff, oneC, Value.cells, Option.isNone, e7, e8, e16, e17, e18, Int.natCast_zero]
    exact Fr.refl _ _
  rintro e w4 k ⟨i, hi, e7, e8, e16, e17, e18, e23, hf⟩ hkk
  have cw4 := cur w4
  by_cases hil : i < S.length
  case neg =>
    have d : decide ((i : Int) < (S.length : Int)) = false := decide_eq_false (by omega)
    simp (maxSteps := 4000000) (disch := (first | assumption | exact List.not_mem_nil | exact Fr.refl _ _ | ((repeat (first | assumption | apply cur_alloc | apply cur_setB | apply cur_drew | apply cur_drewN)); done) | omega | (simp only [gz, Value.cells, oneC]; first | done | omega) | ((simp only [List.mem_cons, List.not_mem_nil, or_false, gz]); omega) | rfl)) only [↓gsd, gs, ev, Nat.reduceAdd, Nat.reduceEqDiff, oneC, Value.cells, Option.isNone, gt, frT_self, frT_drew, frT_drew0, frT_alloc, ↓hk13, e7, e8, e16, e17, e18, e23, hsa, d]
    exact hQ _ _ (by simp (maxSteps := 4000000) (disch := (first | assumption | exact List.not_mem_nil | exact Fr.refl _ _ | ((repeat (first | assumption | apply cur_alloc | apply cur_setB | apply cur_drew | apply cur_drewN)); done) | omega | (simp only [gz, Value.cells, oneC]; first | done | omega) | ((simp only [List.mem_cons, List.not_mem_nil, or_false, gz]); omega) | rfl)) only [↓gsd, gs, ev, Nat.reduceAdd, Nat.reduceEqDiff, oneC, Value.cells, Option.isNone, e7]) (by simp (maxSteps := 4000000) (disch := (first | assumption | exact List.not_mem_nil | exact Fr.refl _ _ | ((repeat (first | assumption | apply cur_alloc | apply cur_setB | apply cur_drew | apply cur_drewN)); done) | omega | (simp only [gz, Value.cells, oneC]; first | done | omega) | ((simp only [List.mem_cons, List.not_mem_nil, or_false, gz]); omega) | rfl)) only [↓gsd, gs, ev, Nat.reduceAdd, Nat.reduceEqDiff, oneC, Value.cells, Option.isNone, e8]) (by simp (maxSteps := 4000000) (disch := (first | assumption | exact List.not_mem_nil | exact Fr.refl _ _ | ((repeat (first | assumption | apply cur_alloc | apply cur_setB | apply cur_drew | apply cur_drewN)); done) | omega | (simp only [gz, Value.cells, oneC]; first | done | omega) | ((simp only [List.mem_cons, List.not_mem_nil, or_false, gz]); omega) | rfl)) only [↓gsd, gs, ev, Nat.reduceAdd, Nat.reduceEqDiff, oneC, Value.cells, Option.isNone, e18, hsa]) hf
  have d : decide ((i : Int) < (S.length : Int)) = true := decide_eq_true (by omega)
  obtain ⟨x, hxi⟩ : ∃ x, S[i]? = some x := ⟨S[i], List.getElem?_eq_getElem hil⟩
  have i0 : (0 : Int) ≤ (i : Int) := by omega
  have i1 : (i : Int) < (S.length : Int) := by omega
  have i3 : ((i : Int) + 1).toNat = i + 1 := by omega
  have hread : ∀ w', Fr [] w w' → ∃ bb off cap ob, kv = .slice (some ⟨bb, off, none⟩) S.length cap ∧ w'.heap[bb]? = some ob ∧ bb < w'.heap.size ∧ ∀ orig K, ldV orig (some ob) (off + i) K = K (.string x) := fun w' hf' => by
    obtain ⟨bb, off, cap, ob, hv1, hob, hbb, _, hc⟩ := (hk.frN hf').read encS_len i x hxi
    have hc' := fun orig K => hc 0 (.string x) orig K rfl
    simp only [Nat.mul_one, Nat.add_zero] at hc'
    exact ⟨bb, off, cap, ob, hv1, hob, hbb, hc'⟩
  obtain ⟨bb, off, cap, ob, hv1, hob, hbb, hc'⟩ := hread w4 hf
  have hkeep : ∀ w', Fr [] w w' → w'.heap[bb]? = some ob ∧ bb < w'.heap.size := fun w' hf' => by
    have hb0 : bb < w.heap.size := by
      obtain ⟨bb', off', cap', hv', hlt'⟩ := Sl.lt hk (by omega)
      rw [hv1] at hv'
      simp only [Value.slice.injEq, Option.some.injEq, Addr.mk.injEq] at hv'
      rw [hv'.1.1]; exact hlt'
    have e1 := hf'.keepN bb hb0
    have e2 := hf.keepN bb hb0
    rw [e1, ← e2]
    exact ⟨hob, Nat.lt_of_lt_of_le hb0 hf'.size⟩
  simp (maxSteps := 4000000) (disch := (first | assumption | exact List.not_mem_nil | exact Fr.refl _ _ | ((repeat (first | assumption | apply cur_alloc | apply cur_setB | apply cur_drew | apply cur_drewN)); done) | omega | (simp only [gz, Value.cells, oneC]; first | done | omega) | ((simp only [List.mem_cons, List.not_mem_nil, or_false, gz]); omega) | rfl)) only [↓gsd, gs, ev, Nat.reduceAdd, Nat.reduceEqDiff, oneC, Value.cells, Option.isNone, gt, frT_self, frT_drew, frT_drew0, frT_alloc, ↓hk13, e7, e8, e16, e17, e18, e23, hv1, d, i0, i1, Int.toNat_natCast, Nat.mul_one, hob, hc']
  have hf4 : Fr [] w w4.drew := hf.drew
  refine step5_read (hB.frN hf4) (.inr rfl) hL fun w5 hf5 => ?_
  have cw5 := cur w5
  have hF5 := hf4.trans' hf5
  obtain ⟨hob5, hbb5⟩ := hkeep w5 hF5
  simp (maxSteps := 4000000) (disch := (first | assumption | exact List.not_mem_nil | exact Fr.refl _ _ | ((repeat (first | assumption | apply cur_alloc | apply cur_setB | apply cur_drew | apply cur_drewN)); done) | omega | (simp only [gz, Value.cells, oneC]; first | done | omega) | ((simp only [List.mem_cons, List.not_mem_nil, or_false, gz]); omega) | rfl)) only [↓gsd, gs, ev, Nat.reduceAdd, Nat.reduceEqDiff, oneC, Value.cells, Option.isNone, gt, frT_self, frT_drew, frT_drew0, frT_alloc, ↓hk13, e7, e8, e16, e17, e18, e23, i0, i1, Int.toNat_natCast, Nat.mul_one, hob5, hc']
  refine step5_read (hB'.frN hF5) (.inr rfl) hL' fun w6 hf6 => ?_
  have cw6 := cur w6
  have hF6 := hF5.trans' hf6
  obtain ⟨hob6, hbb6⟩ := hkeep w6 hF6
  obtain ⟨⟨st, v, h1, hwf, hx, h2, hv0⟩, hb0, hbm0, hrb0, hfr⟩ := hB.frN hF6
  obtain ⟨xa, xc, hvf⟩ := h2.own.sl.form
  have hh6 := h2.head
  have hlt6 := lt_of_get _ _ hh6
  rw [hvf] at hh6
  simp (maxSteps := 4000000) (disch := (first | assumption | exact List.not_mem_nil | exact Fr.refl _ _ | ((repeat (first | assumption | apply cur_alloc | apply cur_setB | apply cur_drew | apply cur_drewN)); done) | omega | (simp only [gz, Value.cells, oneC]; first | done | omega) | ((simp only [List.mem_cons, List.not_mem_nil, or_false, gz]); omega) | rfl)) only [↓gsd, gs, ev, Nat.reduceAdd, Nat.reduceEqDiff, oneC, Value.cells, Option.isNone, gt, frT_self, frT_drew, frT_drew0, frT_alloc, ↓hk13, e7, e8, e16, e17, e18, e23, i0, i1, Int.toNat_natCast, Nat.mul_one, hob6, hc', hh6]
  refine step5_read (hB.frN hF6) (.inl rfl) hL fun w7 hf7 => ?_
  have cw7 := cur w7
  have hF7 := hF6.trans' hf7
  simp (maxSteps := 4000000) (disch := (first | assumption | exact List.not_mem_nil | exact Fr.refl _ _ | ((repeat (first | assumption | apply cur_alloc | apply cur_setB | apply cur_drew | apply cur_drewN)); done) | omega | (simp only [gz, Value.cells, oneC]; first | done | omega) | ((simp only [List.mem_cons, List.not_mem_nil, or_false, gz]); omega) | rfl)) only [↓gsd, gs, ev, Nat.reduceAdd, Nat.reduceEqDiff, oneC, Value.cells, Option.isNone, gt, frT_self, frT_drew, frT_drew0, frT_alloc, ↓hk13, e7, e8, e16, e17, e18, e23]
  refine hkk _ _ ⟨i + 1, by omega, ?_⟩ ?_
  · simp (maxSteps := 4000000) (disch := (first | assumption | exact List.not_mem_nil | exact Fr.refl _ _ | ((repeat (first | assumption | apply cur_alloc | apply cur_setB | apply cur_drew | apply cur_drewN)); done) | omega | (simp only [gz, Value.cells, oneC]; first | done | omega) | ((simp only [List.mem_cons, List.not_mem_nil, or_false, gz]); omega) | rfl)) only [↓gsd, gs, ev, Nat.reduceAdd, Nat.reduceEqDiff, oneC, Value.cells, Option.isNone, e7, e8, e16, e17, e18, e23, hv1, Int.natCast_add i 1, Int.natCast_one]
    exact hF7
  · simp (maxSteps := 4000000) (disch := (first | assumption | exact List.not_mem_nil | exact Fr.refl _ _ | ((repeat (first | assumption | apply cur_alloc | apply cur_setB | apply cur_drew | apply cur_drewN)); done) | omega | (simp only [gz, Value.cells, oneC]; first | done | omega) | ((simp only [List.mem_cons, List.not_mem_nil, or_false, gz]); omega) | rfl)) only [↓gsd, gs, ev, Nat.reduceAdd, Nat.reduceEqDiff, oneC, Value.cells, Option.isNone, e23, numOf, Int.toNat_natCast, i3]; omega
end Go.Proofs.Ytenokheiindfkaa
