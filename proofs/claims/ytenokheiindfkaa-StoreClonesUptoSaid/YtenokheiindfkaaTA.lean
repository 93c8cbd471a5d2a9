/- step walked: its three ways. -/
import Derived.Test.YtenokheiindfkaaT9
set_option linter.unusedVariables false
set_option linter.unusedSimpArgs false
set_option maxRecDepth 10000
namespace Go.Proofs.Ytenokheiindfkaa
open Go.VW
section
variable {w0 w : World} {b bm rb ob : Nat} {own : List (List Wr)} {wa : Option Addr} {wc : Nat} {kd c q : Int} {key : ByteArray} {ws : List Wr} {e : Env} {K : Value → World → Prop}
set_option maxHeartbeats 16000000 in
theorem step50 (h : Both5 w0 w b bm rb own) (g5 : w.heap[ob]? = some (.cells ([.int .u8 kd, .slice wa ws.length wc, .string key, .int .i64 c] : List Value).toArray 95 (0, 0))) (hob : ob ≠ b ∧ ob ≠ bm ∧ ob ≠ rb)
    (hsl : SlOf 3 encWr w0 (.slice wa ws.length wc) ws) (hwl : ws.length ≤ 9223372036854775807) (hL : own.length ≤ 1048576) (e0 : e 0 = .pointer (some ⟨b, 0, none⟩)) (e1 : e 1 = .pointer (some ⟨rb, 0, none⟩)) (e5 : e 5 = .pointer (some ⟨ob, 0, none⟩)) (e17 : e 17 = .int .u8 0)
    (hK : ∀ w' own', Both5 w0 w' b bm rb own' → own'.length ≤ own.length + 1 → Keep9 w w' → K (.bool true) w') : StepG5 K e w := by
  have cw := cur w
  have hlt5 := lt_of_get _ _ g5
  obtain ⟨⟨st, v, h1, hwf, hx, h2, hv0⟩, hb0, hbm0, hrb0, hfr⟩ := h
  obtain ⟨p1, p2, p3, p4⟩ := apart5 h1 h2
  have hz0 := hfr.size
  have hl1 := h1.lt
  have hl2 := h2.lt
  have hm1 := hwf.m1
  have hm2 := hwf.m2
  have hpl := past_len8 own hx.chk
  unfold StepG5
  simp (maxSteps := 4000000) (disch := (first | assumption | exact List.not_mem_nil | exact Fr.refl _ _ | ((repeat (first | assumption | apply cur_alloc | apply cur_setB | apply cur_drew | apply cur_drewN)); done) | omega | (simp only [gz, Value.cells, oneC]; first | done | omega) | ((simp only [List.mem_cons, List.not_mem_nil, or_false, gz]); omega) | rfl)) only [↓gsd, gs, ev, Nat.reduceAdd, Nat.reduceEqDiff, oneC, Value.cells, Option.isNone, gt, frT_self, frT_drew, frT_drew0, frT_alloc, ↓hk47, e0, e1, e5, e17, g5]
  refine commit_spec h1 hwf (fun w' hf' => hsl.frN (hfr.trans hf' fun x hx => by simp at hx; rcases hx with rfl | rfl; exact .inr hb0; exact .inr hbm0)) fun w2 hf2 h1' => ?_
  have cw2 := cur w2
  have hz2 := hf2.size
  have g5' := hf2.get g5 (by simp; exact ⟨hob.1, hob.2.1⟩)
  have hlt5' := lt_of_get _ _ g5'
  have hF2 : Fr [] w0 w2 := hfr.trans hf2 fun x hx => by simp at hx; rcases hx with rfl | rfl; exact .inr hb0; exact .inr hbm0
  have h2' : R5At w2 rb v st.most own := h2.fr hf2 (by simp; exact ⟨p1, p2⟩) (fun g hg => by simp; exact ⟨fun e => p3 (e ▸ hg), fun e => p4 (e ▸ hg)⟩)
  simp (maxSteps := 4000000) (disch := (first | assumption | exact List.not_mem_nil | exact Fr.refl _ _ | ((repeat (first | assumption | apply cur_alloc | apply cur_setB | apply cur_drew | apply cur_drewN)); done) | omega | (simp only [gz, Value.cells, oneC]; first | done | omega) | ((simp only [List.mem_cons, List.not_mem_nil, or_false, gz]); omega) | rfl)) only [↓gsd, gs, ev, Nat.reduceAdd, Nat.reduceEqDiff, oneC, Value.cells, Option.isNone, gt, frT_self, frT_drew, frT_drew0, frT_alloc, ↓hk47, e0, e1, e5, e17, g5']
  refine r5commit h2' (fun w' hf' => hsl.frN (hF2.trans hf' fun x hx => by
    rcases List.mem_cons.1 hx with rfl | hx
    · exact .inr hrb0
    · exact .inr (hv0 x (mem_blkL.1 hx)))) hwl (by omega) (by omega) fun v' w3 h2'' hv' hf3 => ?_
  have cw3 := cur w3
  have hz3 := hf3.size
  have hh3 := h2''.head
  have hlt3 := lt_of_get _ _ hh3
  have h1'' : StoreAt w3 b bm (st.commit ws).2 := h1'.fr hf3 (by
    intro hm
    rcases List.mem_cons.1 hm with e | hm
    · exact p1 e.symm
    · exact p3 (mem_blkL.1 hm)) (by
    intro hm
    rcases List.mem_cons.1 hm with e | hm
    · exact p2 e.symm
    · exact p4 (mem_blkL.1 hm)) (fun x hx cs fr hc => by
    rcases List.mem_cons.1 hx with rfl | hx
    · rw [h2'.head] at hc
      simp only [Option.some.injEq, Obj.cells.injEq] at hc
      have := hc.2.1
      revert this; decide
    · exact own_blk h2'.own (by decide) x hx cs fr hc)
  have hwf' := hwf.commit ws
  have hF3 : Fr [] w0 w3 := hF2.trans hf3 fun x hx => by
    rcases List.mem_cons.1 hx with rfl | hx
    · exact .inr hrb0
    · exact .inr (hv0 x (mem_blkL.1 hx))
  have hv0' : ∀ g, v'.ownBlock = some g → w0.heap.size ≤ g := fun g hg => by
    rcases hv' g hg with q | q
    · exact hv0 g q
    · omega
  obtain ⟨xa, xc, hvf⟩ := h2''.own.sl.form
  rw [hvf] at hh3
  have hk9 : Keep9 w w3 := by
    refine (Keep9.of hf2 fun x hx cs fr hc => ?_).trans (Keep9.of hf3 fun x hx cs fr hc => ?_)
    · simp at hx
      rcases hx with rfl | rfl
      · rw [h1.head] at hc
        simp only [Option.some.injEq, Obj.cells.injEq] at hc
        have := hc.2.1
        revert this; decide
      · obtain ⟨es, hm, _⟩ := h1.rows
        obtain ⟨ents, clock, ho, _⟩ := hm.ex
        rw [ho] at hc; cases hc
    · rcases List.mem_cons.1 hx with rfl | hx
      · rw [h2'.head] at hc
        simp only [Option.some.injEq, Obj.cells.injEq] at hc
        have := hc.2.1
        revert this; decide
      · exact own_head h2'.own hc (by decide) (mem_blkL.1 hx)
  -- the answers are the same
  have hlast := hx.last
  by_cases hc : chk ws = 0
  · have hl40 : ¬ 1099511627776 ≤ st.last := by rw [hlast]; omega
    have ec : st.commit ws = ((st.last + 1, 0), ⟨ws.foldl (put st.most (st.last + 1)) st.rows, st.most, st.last + 1⟩) := by simp only [St.commit, hc, ne_eq, not_true_eq_false, if_false, hl40]
    have er : rcommit own ws = (((own.length : Int) + 1, 0), own ++ [ws]) := by unfold rcommit; rw [if_neg (by simp [hc])]
    have hx' := hx.commit hm1 hc (by omega)
    rw [ec] at h1'' hwf' hx' ⊢
    rw [er] at h2'' hh3 ⊢
    have d1 : decide (st.last + 1 = (own.length : Int) + 1) = true := decide_eq_true (by rw [hlast])
    have d2 : decide (st.last + 1 = ((own ++ [ws]).length : Int)) = true := decide_eq_true (by rw [hlast]; simp)
    simp (maxSteps := 4000000) (disch := (first | assumption | exact List.not_mem_nil | exact Fr.refl _ _ | ((repeat (first | assumption | apply cur_alloc | apply cur_setB | apply cur_drew | apply cur_drewN)); done) | omega | (simp only [gz, Value.cells, oneC]; first | done | omega) | ((simp only [List.mem_cons, List.not_mem_nil, or_false, gz]); omega) | rfl)) only [↓gsd, gs, ev, Nat.reduceAdd, Nat.reduceEqDiff, oneC, Value.cells, Option.isNone, gt, frT_self, frT_drew, frT_drew0, frT_alloc, ↓hk47, e0, e1, e5, e17, hh3, d1]
    refine last_spec (h1''.frN (Fr.refl _ _).drew) ?_
    simp (maxSteps := 4000000) (disch := (first | assumption | exact List.not_mem_nil | exact Fr.refl _ _ | ((repeat (first | assumption | apply cur_alloc | apply cur_setB | apply cur_drew | apply cur_drewN)); done) | omega | (simp only [gz, Value.cells, oneC]; first | done | omega) | ((simp only [List.mem_cons, List.not_mem_nil, or_false, gz]); omega) | rfl)) only [↓gsd, gs, ev, Nat.reduceAdd, Nat.reduceEqDiff, oneC, Value.cells, Option.isNone, gt, frT_self, frT_drew, frT_drew0, frT_alloc, ↓hk47, e0, e1, e5, e17, hh3, d2]
    exact hK _ (own ++ [ws]) (Both5.frN ⟨⟨_, v', h1'', hwf', hx', h2'', hv0'⟩, hb0, hbm0, hrb0, hF3⟩ (Fr.refl _ _).drew) (by simp) (hk9.trans (Keep9.frN (Fr.refl _ _).drew))
  · have ec : st.commit ws = ((0, chk ws), st) := by simp [St.commit, hc]
    have er : rcommit own ws = ((0, chk ws), own) := by unfold rcommit; rw [if_pos hc]
    rw [ec] at h1'' hwf' ⊢
    rw [er] at h2'' hh3 ⊢
    have d1 : decide (chk ws = chk ws) = true := decide_eq_true rfl
    have d2 : decide (st.last = (own.length : Int)) = true := decide_eq_true hlast
    simp (maxSteps := 4000000) (disch := (first | assumption | exact List.not_mem_nil | exact Fr.refl _ _ | ((repeat (first | assumption | apply cur_alloc | apply cur_setB | apply cur_drew | apply cur_drewN)); done) | omega | (simp only [gz, Value.cells, oneC]; first | done | omega) | ((simp only [List.mem_cons, List.not_mem_nil, or_false, gz]); omega) | rfl)) only [↓gsd, gs, ev, Nat.reduceAdd, Nat.reduceEqDiff, oneC, Value.cells, Option.isNone, gt, frT_self, frT_drew, frT_drew0, frT_alloc, ↓hk47, e0, e1, e5, e17, hh3, d1]
    refine last_spec (h1''.frN (Fr.refl _ _).drew) ?_
    simp (maxSteps := 4000000) (disch := (first | assumption | exact List.not_mem_nil | exact Fr.refl _ _ | ((repeat (first | assumption | apply cur_alloc | apply cur_setB | apply cur_drew | apply cur_drewN)); done) | omega | (simp only [gz, Value.cells, oneC]; first | done | omega) | ((simp only [List.mem_cons, List.not_mem_nil, or_false, gz]); omega) | rfl)) only [↓gsd, gs, ev, Nat.reduceAdd, Nat.reduceEqDiff, oneC, Value.cells, Option.isNone, gt, frT_self, frT_drew, frT_drew0, frT_alloc, ↓hk47, e0, e1, e5, e17, hh3, d2]
    exact hK _ own (Both5.frN ⟨⟨_, v', h1'', hwf', hx, h2'', hv0'⟩, hb0, hbm0, hrb0, hF3⟩ (Fr.refl _ _).drew) (by simp) (hk9.trans (Keep9.frN (Fr.refl _ _).drew))
set_option maxHeartbeats 16000000 in
theorem step51 (h : Both5 w0 w b bm rb own) (g5 : w.heap[ob]? = some (.cells ([.int .u8 kd, .slice wa ws.length wc, .string key, .int .i64 c] : List Value).toArray 95 (0, 0)))
    (hL : own.length ≤ 1048576) (e0 : e 0 = .pointer (some ⟨b, 0, none⟩)) (e1 : e 1 = .pointer (some ⟨rb, 0, none⟩)) (e5 : e 5 = .pointer (some ⟨ob, 0, none⟩)) (e17 : e 17 = .int .u8 1)
    (hK : ∀ w', Fr [] w w' → K (.bool true) w') : StepG5 K e w := by
  have cw := cur w
  have hlt5 := lt_of_get _ _ g5
  have hB := h
  obtain ⟨⟨st, v, h1, hwf, hx, h2, hv0⟩, hb0, hbm0, hrb0, hfr⟩ := h
  have hm1 := hwf.m1
  have hm2 := hwf.m2
  have hpl := past_len8 own hx.chk
  have q0 : decide ((1 : Int) = 0) = false := rfl
  unfold StepG5
  simp (maxSteps := 4000000) (disch := (first | assumption | exact List.not_mem_nil | exact Fr.refl _ _ | ((repeat (first | assumption | apply cur_alloc | apply cur_setB | apply cur_drew | apply cur_drewN)); done) | omega | (simp only [gz, Value.cells, oneC]; first | done | omega) | ((simp only [List.mem_cons, List.not_mem_nil, or_false, gz]); omega) | rfl)) only [↓gsd, gs, ev, Nat.reduceAdd, Nat.reduceEqDiff, oneC, Value.cells, Option.isNone, gt, frT_self, frT_drew, frT_drew0, frT_alloc, ↓hk47, e0, e1, e5, e17, g5, q0]
  refine read_spec h1 hwf fun w2 hf2 => ?_
  have cw2 := cur w2
  have hz2 := hf2.size
  have g5' := hf2.getN g5
  have hlt5' := lt_of_get _ _ g5'
  unfold encFact
  simp (maxSteps := 4000000) (disch := (first | assumption | exact List.not_mem_nil | exact Fr.refl _ _ | ((repeat (first | assumption | apply cur_alloc | apply cur_setB | apply cur_drew | apply cur_drewN)); done) | omega | (simp only [gz, Value.cells, oneC]; first | done | omega) | ((simp only [List.mem_cons, List.not_mem_nil, or_false, gz]); omega) | rfl)) only [↓gsd, gs, ev, Nat.reduceAdd, Nat.reduceEqDiff, oneC, Value.cells, Option.isNone, gt, frT_self, frT_drew, frT_drew0, frT_alloc, ↓hk47, e0, e1, e5, e17, g5']
  generalize hW : World.alloc w2 _ = w3
  have hf3 : Fr [] w2 w3 := by rw [← hW]; (repeat (first | exact Fr.refl _ _ | assumption | with_reducible apply Fr.alloc | with_reducible apply Fr.drew | with_reducible refine Fr.setB ?_ _ _ (.inr (by first | omega | (simp only [gz]; omega))) | with_reducible refine Fr.setB ?_ _ _ (.inl (by first | assumption | simp)) | with_reducible refine Fr.trans' ?_ (by assumption)))
  have hz3 : w3.heap.size = w2.heap.size + 1 := by rw [← hW]; simp only [gz]
  have hx3 : w3.heap[w2.heap.size]? = some (.cells (encFact (st.read key c).1).toArray 31 (0, 0)) := by rw [← hW]; exact get_alloc_new _ _
  clear hW
  have cw3 := cur w3
  refine r5read ((h2.frN hf2).frN hf3) (by omega) hm2 hm1 fun w4 hf4 => ?_
  have cw4 := cur w4
  have hz4 := hf4.size
  rw [← read_eq hx hm1 key c]
  have hx4 := hf4.getN hx3
  have hltx := lt_of_get _ _ hx4
  obtain ⟨f, hf⟩ : ∃ f, f = (st.read key c).1 := ⟨_, rfl⟩
  rw [← hf] at hx4 ⊢
  unfold encFact at hx4 ⊢
  have k1 : decide (f.key = f.key) = true := decide_eq_true rfl
  have k2 : decide (f.has = f.has) = true := decide_eq_true rfl
  have k3 : decide (f.data = f.data) = true := decide_eq_true rfl
  have k4 : decide (f.lo = f.lo) = true := decide_eq_true rfl
  have k5 : decide (f.hi = f.hi) = true := decide_eq_true rfl
  have k6 : decide ((st.read key c).2 = (st.read key c).2) = true := decide_eq_true rfl
  simp (maxSteps := 4000000) (disch := (first | assumption | exact List.not_mem_nil | exact Fr.refl _ _ | ((repeat (first | assumption | apply cur_alloc | apply cur_setB | apply cur_drew | apply cur_drewN)); done) | omega | (simp only [gz, Value.cells, oneC]; first | done | omega) | ((simp only [List.mem_cons, List.not_mem_nil, or_false, gz]); omega) | rfl)) only [↓gsd, gs, ev, Nat.reduceAdd, Nat.reduceEqDiff, oneC, Value.cells, Option.isNone, gt, frT_self, frT_drew, frT_drew0, frT_alloc, ↓hk47, e0, e1, e5, e17, hx4, k1, k2, k3, k4, k5, k6]
  exact hK _ (((hf2.trans' hf3).trans' hf4).alloc _)
set_option maxHeartbeats 16000000 in
theorem step52 (h : Both5 w0 w b bm rb own) (g5 : w.heap[ob]? = some (.cells ([.int .u8 kd, .slice wa ws.length wc, .string key, .int .i64 c] : List Value).toArray 95 (0, 0)))
    (hL : own.length ≤ 1048576) (e0 : e 0 = .pointer (some ⟨b, 0, none⟩)) (e1 : e 1 = .pointer (some ⟨rb, 0, none⟩)) (e5 : e 5 = .pointer (some ⟨ob, 0, none⟩)) (e17 : e 17 = .int .u8 q) (hq0 : q ≠ 0) (hq1 : q ≠ 1)
    (hK : ∀ w', Fr [] w w' → K (.bool true) w') : StepG5 K e w := by
  have cw := cur w
  have hlt5 := lt_of_get _ _ g5
  have hB := h
  obtain ⟨⟨st, v, h1, hwf, hx, h2, hv0⟩, hb0, hbm0, hrb0, hfr⟩ := h
  have hm1 := hwf.m1
  have hm2 := hwf.m2
  have hpl := past_len8 own hx.chk
  have q0 : decide (q = 0) = false := decide_eq_false hq0
  have q1 : decide (q = 1) = false := decide_eq_false hq1
  have hfd : Fr [] w w.drew := (Fr.refl _ _).drew
  unfold StepG5
  simp (maxSteps := 4000000) (disch := (first | assumption | exact List.not_mem_nil | exact Fr.refl _ _ | ((repeat (first | assumption | apply cur_alloc | apply cur_setB | apply cur_drew | apply cur_drewN)); done) | omega | (simp only [gz, Value.cells, oneC]; first | done | omega) | ((simp only [List.mem_cons, List.not_mem_nil, or_false, gz]); omega) | rfl)) only [↓gsd, gs, ev, Nat.reduceAdd, Nat.reduceEqDiff, oneC, Value.cells, Option.isNone, gt, frT_self, frT_drew, frT_drew0, frT_alloc, ↓hk47, e0, e1, e5, e17, g5, q0, q1]
  refine oldest_spec (h1.frN hfd) hwf ?_
  simp (maxSteps := 4000000) (disch := (first | assumption | exact List.not_mem_nil | exact Fr.refl _ _ | ((repeat (first | assumption | apply cur_alloc | apply cur_setB | apply cur_drew | apply cur_drewN)); done) | omega | (simp only [gz, Value.cells, oneC]; first | done | omega) | ((simp only [List.mem_cons, List.not_mem_nil, or_false, gz]); omega) | rfl)) only [↓gsd, gs, ev, Nat.reduceAdd, Nat.reduceEqDiff, oneC, Value.cells, Option.isNone, gt, frT_self, frT_drew, frT_drew0, frT_alloc, ↓hk47, e0, e1, e5, e17, g5]
  refine r5oldest (h2.frN hfd) (by omega) hm2 hm1 fun w2 hf2 => ?_
  have cw2 := cur w2
  have hz2 := hf2.size
  have hF2 : Fr [] w w2 := hfd.trans' hf2
  have g5' := hF2.getN g5
  have hlt5' := lt_of_get _ _ g5'
  rw [← oldest_eq hx key]
  have d1 : decide (st.oldest key = st.oldest key) = true := decide_eq_true rfl
  simp (maxSteps := 4000000) (disch := (first | assumption | exact List.not_mem_nil | exact Fr.refl _ _ | ((repeat (first | assumption | apply cur_alloc | apply cur_setB | apply cur_drew | apply cur_drewN)); done) | omega | (simp only [gz, Value.cells, oneC]; first | done | omega) | ((simp only [List.mem_cons, List.not_mem_nil, or_false, gz]); omega) | rfl)) only [↓gsd, gs, ev, Nat.reduceAdd, Nat.reduceEqDiff, oneC, Value.cells, Option.isNone, gt, frT_self, frT_drew, frT_drew0, frT_alloc, eq_true hF2, ↓hk47, e0, e1, e5, e17, g5', d1]
  have hrl : (st.row key).list.length ≤ 64 := by have := (hwf.row key).1; omega
  refine versions_spec (h1.frN hF2) (by omega) fun v3 w3 hown3 hfr3 hf3 => ?_
  have cw3 := cur w3
  have hz3 := hf3.size
  have g53 := hf3.getN g5'
  have hlt53 := lt_of_get _ _ g53
  simp (maxSteps := 4000000) (disch := (first | assumption | exact List.not_mem_nil | exact Fr.refl _ _ | ((repeat (first | assumption | apply cur_alloc | apply cur_setB | apply cur_drew | apply cur_drewN)); done) | omega | (simp only [gz, Value.cells, oneC]; first | done | omega) | ((simp only [List.mem_cons, List.not_mem_nil, or_false, gz]); omega) | rfl)) only [↓gsd, gs, ev, Nat.reduceAdd, Nat.reduceEqDiff, oneC, Value.cells, Option.isNone, gt, frT_self, frT_drew, frT_drew0, frT_alloc, eq_true hf3, ↓hk47, e0, e1, e5, e17, g53]
  refine r5kept ((h2.frN hF2).frN hf3) (by omega) hm2 fun v4 w4 hsl4 hf4 => ?_
  have cw4 := cur w4
  have hz4 := hf4.size
  try simp (maxSteps := 4000000) (disch := (first | assumption | exact List.not_mem_nil | exact Fr.refl _ _ | ((repeat (first | assumption | apply cur_alloc | apply cur_setB | apply cur_drew | apply cur_drewN)); done) | omega | (simp only [gz, Value.cells, oneC]; first | done | omega) | ((simp only [List.mem_cons, List.not_mem_nil, or_false, gz]); omega) | rfl)) only [↓gsd, gs, ev, Nat.reduceAdd, Nat.reduceEqDiff, oneC, Value.cells, Option.isNone, gt, frT_self, frT_drew, frT_drew0, frT_alloc, eq_true hf3, eq_true hf4, ↓hk47, e0, e1, e5, e17]
  rw [all_hv key own hx.chk] at hsl4
  have er : (st.row key).list = keptL st.most (hv own key) := by rw [hx.rows key]
  rw [er] at hown3 hrl
  refine r5sameV (show SlOf 3 encVer w4 v3 (keptL st.most (hv own key)) from (hown3.sl.frN hf4)) hsl4 (by omega) fun w5 hf5 => ?_
  have cw5 := cur w5
  try simp (maxSteps := 4000000) (disch := (first | assumption | exact List.not_mem_nil | exact Fr.refl _ _ | ((repeat (first | assumption | apply cur_alloc | apply cur_setB | apply cur_drew | apply cur_drewN)); done) | omega | (simp only [gz, Value.cells, oneC]; first | done | omega) | ((simp only [List.mem_cons, List.not_mem_nil, or_false, gz]); omega) | rfl)) only [↓gsd, gs, ev, Nat.reduceAdd, Nat.reduceEqDiff, oneC, Value.cells, Option.isNone, gt, frT_self, frT_drew, frT_drew0, frT_alloc, eq_true hf5, ↓hk47, e0, e1, e5, e17]
  exact hK _ (((hF2.trans' hf3).trans' hf4).trans' hf5)
end
theorem step5_spec {w0 w : World} {b bm rb : Nat} {own : List (List Wr)} {o : Op5} {ws : List Wr} {K : Value → World → Prop} (h : Both5 w0 w b bm rb own) (ho : o.ok w0 ws) (hL : own.length ≤ 1048576)
    (hK : ∀ w' own', Both5 w0 w' b bm rb own' → own'.length ≤ own.length + 1 → Keep9 w w' → K (.bool true) w') :
    CallsN Try.prog 47 [.pointer (some ⟨b, 0, none⟩), .pointer (some ⟨rb, 0, none⟩), .agg (encOp5 o).toArray] w K := by
  have cw := cur w
  obtain ⟨kd, wv, key, c⟩ := o
  obtain ⟨wa, wc, hwv⟩ := ho.sl.form
  simp only at hwv
  subst hwv
  have hsl := ho.sl
  simp only at hsl
  have hwl := ho.len
  unfold maxLen at hwl
  refine call47 ?_
  unfold encOp5
  obtain ⟨q, hq⟩ : ∃ q, q = kd.tmod 3 := ⟨_, rfl⟩
  have n3 : (3 : Int) ≠ 0 := by decide
  simp (maxSteps := 4000000) (disch := (first | assumption | exact List.not_mem_nil | exact Fr.refl _ _ | ((repeat (first | assumption | apply cur_alloc | apply cur_setB | apply cur_drew | apply cur_drewN)); done) | omega | (simp only [gz, Value.cells, oneC]; first | done | omega) | ((simp only [List.mem_cons, List.not_mem_nil, or_false, gz]); omega) | rfl)) only [↓gsd, gs, ev, Nat.reduceAdd, Nat.reduceEqDiff, oneC, Value.cells, Option.isNone, gt, frT_self, frT_drew, frT_drew0, frT_alloc, ↓o47_0_eq, ↓o47_10_eq, ↓c47_2_s, ↓o47_1_eq, ↓o47_2_eq, ↓o47_3_eq, ↓o47_4_eq, ↓o47_5_eq, ↓c47_9_s, ↓c47_8_s, ↓c47_7_s, ↓o47_6_eq, ↓o47_7_eq, ↓o47_8_eq, ↓o47_9_eq, ↓c47_14_s, ↓c47_13_s, ↓c47_12_s, ↓c47_11_s, ↓c47_10_s, ↓c47_6_s, ↓c47_5_s, ↓c47_3_s, ↓c47_1_s, ↓c47_s, run_rem _ _ _ _ _ _ _ n3, ← hq]
  generalize hW : World.alloc w _ = w1
  have hf1 : Fr [] w w1 := by rw [← hW]; (repeat (first | exact Fr.refl _ _ | assumption | with_reducible apply Fr.alloc | with_reducible apply Fr.drew | with_reducible refine Fr.setB ?_ _ _ (.inr (by first | omega | (simp only [gz]; omega))) | with_reducible refine Fr.setB ?_ _ _ (.inl (by first | assumption | simp)) | with_reducible refine Fr.trans' ?_ (by assumption)))
  have hz1 : w1.heap.size = w.heap.size + 1 := by rw [← hW]; simp only [gz]
  have g5 : w1.heap[w.heap.size]? = some (.cells ([.int .u8 kd, .slice wa ws.length wc, .string key, .int .i64 c] : List Value).toArray 95 (0, 0)) := by rw [← hW]; exact get_alloc_new _ _
  clear hW
  have h1 := h.frN hf1
  by_cases q0 : q = 0
  · obtain ⟨⟨st, v, a1, _, _, a4, _⟩, _, _, _, _⟩ := h
    have := a1.lt
    have := a4.lt
    exact step50 h1 g5 ⟨by omega, by omega, by omega⟩ hsl hwl hL (by simp (maxSteps := 4000000) (disch := (first | assumption | exact List.not_mem_nil | exact Fr.refl _ _ | ((repeat (first | assumption | apply cur_alloc | apply cur_setB | apply cur_drew | apply cur_drewN)); done) | omega | (simp only [gz, Value.cells, oneC]; first | done | omega) | ((simp only [List.mem_cons, List.not_mem_nil, or_false, gz]); omega) | rfl)) only [↓gsd, gs, ev, Nat.reduceAdd, Nat.reduceEqDiff, oneC, Value.cells, Option.isNone]) (by simp (maxSteps := 4000000) (disch := (first | assumption | exact List.not_mem_nil | exact Fr.refl _ _ | ((repeat (first | assumption | apply cur_alloc | apply cur_setB | apply cur_drew | apply cur_drewN)); done) | omega | (simp only [gz, Value.cells, oneC]; first | done | omega) | ((simp only [List.mem_cons, List.not_mem_nil, or_false, gz]); omega) | rfl)) only [↓gsd, gs, ev, Nat.reduceAdd, Nat.reduceEqDiff, oneC, Value.cells, Option.isNone]) (by simp (maxSteps := 4000000) (disch := (first | assumption | exact List.not_mem_nil | exact Fr.refl _ _ | ((repeat (first | assumption | apply cur_alloc | apply cur_setB | apply cur_drew | apply cur_drewN)); done) | omega | (simp only [gz, Value.cells, oneC]; first | done | omega) | ((simp only [List.mem_cons, List.not_mem_nil, or_false, gz]); omega) | rfl)) only [↓gsd, gs, ev, Nat.reduceAdd, Nat.reduceEqDiff, oneC, Value.cells, Option.isNone]) (by simp (maxSteps := 4000000) (disch := (first | assumption | exact List.not_mem_nil | exact Fr.refl _ _ | ((repeat (first | assumption | apply cur_alloc | apply cur_setB | apply cur_drew | apply cur_drewN)); done) | omega | (simp only [gz, Value.cells, oneC]; first | done | omega) | ((simp only [List.mem_cons, List.not_mem_nil, or_false, gz]); omega) | rfl)) only [↓gsd, gs, ev, Nat.reduceAdd, Nat.reduceEqDiff, oneC, Value.cells, Option.isNone, q0]) fun w' own' hB' hl' hk' => hK w' own' hB' hl' ((Keep9.frN hf1).trans hk')
  by_cases q1 : q = 1
  · exact step51 h1 g5 hL (by simp (maxSteps := 4000000) (disch := (first | assumption | exact List.not_mem_nil | exact Fr.refl _ _ | ((repeat (first | assumption | apply cur_alloc | apply cur_setB | apply cur_drew | apply cur_drewN)); done) | omega | (simp only [gz, Value.cells, oneC]; first | done | omega) | ((simp only [List.mem_cons, List.not_mem_nil, or_false, gz]); omega) | rfl)) only [↓gsd, gs, ev, Nat.reduceAdd, Nat.reduceEqDiff, oneC, Value.cells, Option.isNone]) (by simp (maxSteps := 4000000) (disch := (first | assumption | exact List.not_mem_nil | exact Fr.refl _ _ | ((repeat (first | assumption | apply cur_alloc | apply cur_setB | apply cur_drew | apply cur_drewN)); done) | omega | (simp only [gz, Value.cells, oneC]; first | done | omega) | ((simp only [List.mem_cons, List.not_mem_nil, or_false, gz]); omega) | rfl)) only [↓gsd, gs, ev, Nat.reduceAdd, Nat.reduceEqDiff, oneC, Value.cells, Option.isNone]) (by simp (maxSteps := 4000000) (disch := (first | assumption | exact List.not_mem_nil | exact Fr.refl _ _ | ((repeat (first | assumption | apply cur_alloc | apply cur_setB | apply cur_drew | apply cur_drewN)); done) | omega | (simp only [gz, Value.cells, oneC]; first | done | omega) | ((simp only [List.mem_cons, List.not_mem_nil, or_false, gz]); omega) | rfl)) only [↓gsd, gs, ev, Nat.reduceAdd, Nat.reduceEqDiff, oneC, Value.cells, Option.isNone]) (by simp (maxSteps := 4000000) (disch := (first | assumption | exact List.not_mem_nil | exact Fr.refl _ _ | ((repeat (first | assumption | apply cur_alloc | apply cur_setB | apply cur_drew | apply cur_drewN)); done) | omega | (simp only [gz, Value.cells, oneC]; first | done | omega) | ((simp only [List.mem_cons, List.not_mem_nil, or_false, gz]); omega) | rfl)) only [↓gsd, gs, ev, Nat.reduceAdd, Nat.reduceEqDiff, oneC, Value.cells, Option.isNone, q1]) fun w' hf => hK w' own (h1.frN hf) (by omega) (Keep9.frN (hf1.trans' hf))
  exact step52 h1 g5 hL (by simp (maxSteps := 4000000) (disch := (first | assumption | exact List.not_mem_nil | exact Fr.refl _ _ | ((repeat (first | assumption | apply cur_alloc | apply cur_setB | apply cur_drew | apply cur_drewN)); done) | omega | (simp only [gz, Value.cells, oneC]; first | done | omega) | ((simp only [List.mem_cons, List.not_mem_nil, or_false, gz]); omega) | rfl)) only [↓gsd, gs, ev, Nat.reduceAdd, Nat.reduceEqDiff, oneC, Value.cells, Option.isNone]) (by simp (maxSteps := 4000000) (disch := (first | assumption | exact List.not_mem_nil | exact Fr.refl _ _ | ((repeat (first | assumption | apply cur_alloc | apply cur_setB | apply cur_drew | apply cur_drewN)); done) | omega | (simp only [gz, Value.cells, oneC]; first | done | omega) | ((simp only [List.mem_cons, List.not_mem_nil, or_false, gz]); omega) | rfl)) only [↓gsd, gs, ev, Nat.reduceAdd, Nat.reduceEqDiff, oneC, Value.cells, Option.isNone]) (by simp (maxSteps := 4000000) (disch := (first | assumption | exact List.not_mem_nil | exact Fr.refl _ _ | ((repeat (first | assumption | apply cur_alloc | apply cur_setB | apply cur_drew | apply cur_drewN)); done) | omega | (simp only [gz, Value.cells, oneC]; first | done | omega) | ((simp only [List.mem_cons, List.not_mem_nil, or_false, gz]); omega) | rfl)) only [↓gsd, gs, ev, Nat.reduceAdd, Nat.reduceEqDiff, oneC, Value.cells, Option.isNone]) (by simp (maxSteps := 4000000) (disch := (first | assumption | exact List.not_mem_nil | exact Fr.refl _ _ | ((repeat (first | assumption | apply cur_alloc | apply cur_setB | apply cur_drew | apply cur_drewN)); done) | omega | (simp only [gz, Value.cells, oneC]; first | done | omega) | ((simp only [List.mem_cons, List.not_mem_nil, or_false, gz]); omega) | rfl)) only [↓gsd, gs, ev, Nat.reduceAdd, Nat.reduceEqDiff, oneC, Value.cells, Option.isNone]) q0 q1 fun w' hf => hK w' own (h1.frN hf) (by omega) (Keep9.frN (hf1.trans' hf))
/-- A step that only reads. -/
theorem step5_read {w0 w : World} {b bm rb : Nat} {own : List (List Wr)} {kd c : Int} {key : ByteArray} {K : Value → World → Prop} (h : Both5 w0 w b bm rb own) (hkd : kd = 1 ∨ kd = 2) (hL : own.length ≤ 1048576)
    (hK : ∀ w', Fr [] w w' → K (.bool true) w') :
    CallsN Try.prog 47 [.pointer (some ⟨b, 0, none⟩), .pointer (some ⟨rb, 0, none⟩), .agg ([.int .u8 kd, .slice none 0 0, .string key, .int .i64 c] : List Value).toArray] w K := by
  have cw := cur w
  refine call47 ?_
  have n3 : (3 : Int) ≠ 0 := by decide
  have hq : kd.tmod 3 = kd := by rcases hkd with rfl | rfl <;> rfl
  simp (maxSteps := 4000000) (disch := (first | assumption | exact List.not_mem_nil | exact Fr.refl _ _ | ((repeat (first | assumption | apply cur_alloc | apply cur_setB | apply cur_drew | apply cur_drewN)); done) | omega | (simp only [gz, Value.cells, oneC]; first | done | omega) | ((simp only [List.mem_cons, List.not_mem_nil, or_false, gz]); omega) | rfl)) only [↓gsd, gs, ev, Nat.reduceAdd, Nat.reduceEqDiff, oneC, Value.cells, Option.isNone, gt, frT_self, frT_drew, frT_drew0, frT_alloc, ↓o47_0_eq, ↓o47_10_eq, ↓c47_2_s, ↓o47_1_eq, ↓o47_2_eq, ↓o47_3_eq, ↓o47_4_eq, ↓o47_5_eq, ↓c47_9_s, ↓c47_8_s, ↓c47_7_s, ↓o47_6_eq, ↓o47_7_eq, ↓o47_8_eq, ↓o47_9_eq, ↓c47_14_s, ↓c47_13_s, ↓c47_12_s, ↓c47_11_s, ↓c47_10_s, ↓c47_6_s, ↓c47_5_s, ↓c47_3_s, ↓c47_1_s, ↓c47_s, run_rem _ _ _ _ _ _ _ n3, hq]
  generalize hW : World.alloc w _ = w1
  have hf1 : Fr [] w w1 := by rw [← hW]; (repeat (first | exact Fr.refl _ _ | assumption | with_reducible apply Fr.alloc | with_reducible apply Fr.drew | with_reducible refine Fr.setB ?_ _ _ (.inr (by first | omega | (simp only [gz]; omega))) | with_reducible refine Fr.setB ?_ _ _ (.inl (by first | assumption | simp)) | with_reducible refine Fr.trans' ?_ (by assumption)))
  have g5 : w1.heap[w.heap.size]? = some (.cells ([.int .u8 kd, .slice none ([] : List Wr).length 0, .string key, .int .i64 c] : List Value).toArray 95 (0, 0)) := by rw [← hW]; exact get_alloc_new _ _
  clear hW
  have h1 := h.frN hf1
  rcases hkd with rfl | rfl
  · exact step51 (ws := []) h1 g5 hL (by simp (maxSteps := 4000000) (disch := (first | assumption | exact List.not_mem_nil | exact Fr.refl _ _ | ((repeat (first | assumption | apply cur_alloc | apply cur_setB | apply cur_drew | apply cur_drewN)); done) | omega | (simp only [gz, Value.cells, oneC]; first | done | omega) | ((simp only [List.mem_cons, List.not_mem_nil, or_false, gz]); omega) | rfl)) only [↓gsd, gs, ev, Nat.reduceAdd, Nat.reduceEqDiff, oneC, Value.cells, Option.isNone]) (by simp (maxSteps := 4000000) (disch := (first | assumption | exact List.not_mem_nil | exact Fr.refl _ _ | ((repeat (first | assumption | apply cur_alloc | apply cur_setB | apply cur_drew | apply cur_drewN)); done) | omega | (simp only [gz, Value.cells, oneC]; first | done | omega) | ((simp only [List.mem_cons, List.not_mem_nil, or_false, gz]); omega) | rfl)) only [↓gsd, gs, ev, Nat.reduceAdd, Nat.reduceEqDiff, oneC, Value.cells, Option.isNone]) (by simp (maxSteps := 4000000) (disch := (first | assumption | exact List.not_mem_nil | exact Fr.refl _ _ | ((repeat (first | assumption | apply cur_alloc | apply cur_setB | apply cur_drew | apply cur_drewN)); done) | omega | (simp only [gz, Value.cells, oneC]; first | done | omega) | ((simp only [List.mem_cons, List.not_mem_nil, or_false, gz]); omega) | rfl)) only [↓gsd, gs, ev, Nat.reduceAdd, Nat.reduceEqDiff, oneC, Value.cells, Option.isNone]) (by simp (maxSteps := 4000000) (disch := (first | assumption | exact List.not_mem_nil | exact Fr.refl _ _ | ((repeat (first | assumption | apply cur_alloc | apply cur_setB | apply cur_drew | apply cur_drewN)); done) | omega | (simp only [gz, Value.cells, oneC]; first | done | omega) | ((simp only [List.mem_cons, List.not_mem_nil, or_false, gz]); omega) | rfl)) only [↓gsd, gs, ev, Nat.reduceAdd, Nat.reduceEqDiff, oneC, Value.cells, Option.isNone]) fun w' hf => hK w' (hf1.trans' hf)
  · exact step52 (ws := []) (q := 2) h1 g5 hL (by simp (maxSteps := 4000000) (disch := (first | assumption | exact List.not_mem_nil | exact Fr.refl _ _ | ((repeat (first | assumption | apply cur_alloc | apply cur_setB | apply cur_drew | apply cur_drewN)); done) | omega | (simp only [gz, Value.cells, oneC]; first | done | omega) | ((simp only [List.mem_cons, List.not_mem_nil, or_false, gz]); omega) | rfl)) only [↓gsd, gs, ev, Nat.reduceAdd, Nat.reduceEqDiff, oneC, Value.cells, Option.isNone]) (by simp (maxSteps := 4000000) (disch := (first | assumption | exact List.not_mem_nil | exact Fr.refl _ _ | ((repeat (first | assumption | apply cur_alloc | apply cur_setB | apply cur_drew | apply cur_drewN)); done) | omega | (simp only [gz, Value.cells, oneC]; first | done | omega) | ((simp only [List.mem_cons, List.not_mem_nil, or_false, gz]); omega) | rfl)) only [↓gsd, gs, ev, Nat.reduceAdd, Nat.reduceEqDiff, oneC, Value.cells, Option.isNone]) (by simp (maxSteps := 4000000) (disch := (first | assumption | exact List.not_mem_nil | exact Fr.refl _ _ | ((repeat (first | assumption | apply cur_alloc | apply cur_setB | apply cur_drew | apply cur_drewN)); done) | omega | (simp only [gz, Value.cells, oneC]; first | done | omega) | ((simp only [List.mem_cons, List.not_mem_nil, or_false, gz]); omega) | rfl)) only [↓gsd, gs, ev, Nat.reduceAdd, Nat.reduceEqDiff, oneC, Value.cells, Option.isNone]) (by simp (maxSteps := 4000000) (disch := (first | assumption | exact List.not_mem_nil | exact Fr.refl _ _ | ((repeat (first | assumption | apply cur_alloc | apply cur_setB | apply cur_drew | apply cur_drewN)); done) | omega | (simp only [gz, Value.cells, oneC]; first | done | omega) | ((simp only [List.mem_cons, List.not_mem_nil, or_false, gz]); omega) | rfl)) only [↓gsd, gs, ev, Nat.reduceAdd, Nat.reduceEqDiff, oneC, Value.cells, Option.isNone]) (by decide) (by decide) fun w' hf => hK w' (hf1.trans' hf)
end Go.Proofs.Ytenokheiindfkaa
