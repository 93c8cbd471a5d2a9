/- The reference: Read, Commit. -/
import Derived.Test.YtenokheiindfkaaT4
set_option linter.unusedVariables false
set_option linter.unusedSimpArgs false
set_option maxRecDepth 10000
namespace Go.Proofs.Ytenokheiindfkaa
open Go.VW
def rread (most : Nat) (own : List (List Wr)) (key : ByteArray) (c : Int) : Fact × Int :=
  if goodKey key = false ∨ c < 0 then (fact0, 1) else if (own.length : Int) < c then (fact0, 21) else if c < oldL most (allP (past own) key) then (fact0, 20) else (fOf key (loF (allP (past own) key) c) (hiF (allP (past own) key) c), 0)
set_option maxHeartbeats 8000000 in
theorem r5read {w : World} {rb most : Nat} {v : Value} {own : List (List Wr)} {key : ByteArray} {c : Int} {K : Value → World → Prop} (h : R5At w rb v most own) (hl : (past own).length ≤ 100000000) (hm : most ≤ 64) (hm1 : 1 ≤ most)
    (hK : ∀ w', Fr [] w w' → K (.tuple ([.agg (encFact (rread most own key c).1).toArray, .int .i64 (rread most own key c).2] : List Value).toArray) w') : CallsN Try.prog 76 [.pointer (some ⟨rb, 0, none⟩), .string key, .int .i64 c] w K := by
  have cw := cur w
  refine call76 ?_
  have hh := h.head
  have hlt := lt_of_get _ _ hh
  by_cases hg : goodKey key = true
  case neg =>
    have hg' : goodKey key = false := by simpa using hg
    have e : rread most own key c = (fact0, 1) := by unfold rread; rw [if_pos (.inl hg')]
    rw [e] at hK
    unfold encFact fact0 at hK
    simp (maxSteps := 4000000) (disch := (first | assumption | exact List.not_mem_nil | exact Fr.refl _ _ | ((repeat (first | assumption | apply cur_alloc | apply cur_setB | apply cur_drew | apply cur_drewN)); done) | omega | (simp only [gz, Value.cells, oneC]; first | done | omega) | ((simp only [List.mem_cons, List.not_mem_nil, or_false, gz]); omega) | rfl)) only [↓gsd, gs, ev, Nat.reduceAdd, Nat.reduceEqDiff, oneC, Value.cells, Option.isNone, gt, frT_self, frT_drew, frT_drew0, frT_alloc, ↓hk76]
    refine r5goodKey ?_
    simp (maxSteps := 4000000) (disch := (first | assumption | exact List.not_mem_nil | exact Fr.refl _ _ | ((repeat (first | assumption | apply cur_alloc | apply cur_setB | apply cur_drew | apply cur_drewN)); done) | omega | (simp only [gz, Value.cells, oneC]; first | done | omega) | ((simp only [List.mem_cons, List.not_mem_nil, or_false, gz]); omega) | rfl)) only [↓gsd, gs, ev, Nat.reduceAdd, Nat.reduceEqDiff, oneC, Value.cells, Option.isNone, gt, frT_self, frT_drew, frT_drew0, frT_alloc, ↓hk76, hg']
    exact hK _ (by (repeat (first | exact Fr.refl _ _ | assumption | with_reducible apply Fr.alloc | with_reducible apply Fr.drew | with_reducible refine Fr.setB ?_ _ _ (.inr (by first | omega | (simp only [gz]; omega))) | with_reducible refine Fr.setB ?_ _ _ (.inl (by first | assumption | simp)) | with_reducible refine Fr.trans' ?_ (by assumption))))
  by_cases hc : c < 0
  · have dc : decide (c < 0) = true := decide_eq_true hc
    have e : rread most own key c = (fact0, 1) := by unfold rread; rw [if_pos (.inr hc)]
    rw [e] at hK
    unfold encFact fact0 at hK
    simp (maxSteps := 4000000) (disch := (first | assumption | exact List.not_mem_nil | exact Fr.refl _ _ | ((repeat (first | assumption | apply cur_alloc | apply cur_setB | apply cur_drew | apply cur_drewN)); done) | omega | (simp only [gz, Value.cells, oneC]; first | done | omega) | ((simp only [List.mem_cons, List.not_mem_nil, or_false, gz]); omega) | rfl)) only [↓gsd, gs, ev, Nat.reduceAdd, Nat.reduceEqDiff, oneC, Value.cells, Option.isNone, gt, frT_self, frT_drew, frT_drew0, frT_alloc, ↓hk76]
    refine r5goodKey ?_
    simp (maxSteps := 4000000) (disch := (first | assumption | exact List.not_mem_nil | exact Fr.refl _ _ | ((repeat (first | assumption | apply cur_alloc | apply cur_setB | apply cur_drew | apply cur_drewN)); done) | omega | (simp only [gz, Value.cells, oneC]; first | done | omega) | ((simp only [List.mem_cons, List.not_mem_nil, or_false, gz]); omega) | rfl)) only [↓gsd, gs, ev, Nat.reduceAdd, Nat.reduceEqDiff, oneC, Value.cells, Option.isNone, gt, frT_self, frT_drew, frT_drew0, frT_alloc, ↓hk76, hg, dc]
    exact hK _ (by (repeat (first | exact Fr.refl _ _ | assumption | with_reducible apply Fr.alloc | with_reducible apply Fr.drew | with_reducible refine Fr.setB ?_ _ _ (.inr (by first | omega | (simp only [gz]; omega))) | with_reducible refine Fr.setB ?_ _ _ (.inl (by first | assumption | simp)) | with_reducible refine Fr.trans' ?_ (by assumption))))
  have dc : decide (c < 0) = false := decide_eq_false hc
  have hn1 : ¬ (goodKey key = false ∨ c < 0) := by simp [hg]; omega
  by_cases hcl : (own.length : Int) < c
  · have dl : decide ((own.length : Int) < c) = true := decide_eq_true hcl
    have e : rread most own key c = (fact0, 21) := by unfold rread; rw [if_neg hn1, if_pos hcl]
    rw [e] at hK
    unfold encFact fact0 at hK
    simp (maxSteps := 4000000) (disch := (first | assumption | exact List.not_mem_nil | exact Fr.refl _ _ | ((repeat (first | assumption | apply cur_alloc | apply cur_setB | apply cur_drew | apply cur_drewN)); done) | omega | (simp only [gz, Value.cells, oneC]; first | done | omega) | ((simp only [List.mem_cons, List.not_mem_nil, or_false, gz]); omega) | rfl)) only [↓gsd, gs, ev, Nat.reduceAdd, Nat.reduceEqDiff, oneC, Value.cells, Option.isNone, gt, frT_self, frT_drew, frT_drew0, frT_alloc, ↓hk76]
    refine r5goodKey ?_
    simp (maxSteps := 4000000) (disch := (first | assumption | exact List.not_mem_nil | exact Fr.refl _ _ | ((repeat (first | assumption | apply cur_alloc | apply cur_setB | apply cur_drew | apply cur_drewN)); done) | omega | (simp only [gz, Value.cells, oneC]; first | done | omega) | ((simp only [List.mem_cons, List.not_mem_nil, or_false, gz]); omega) | rfl)) only [↓gsd, gs, ev, Nat.reduceAdd, Nat.reduceEqDiff, oneC, Value.cells, Option.isNone, gt, frT_self, frT_drew, frT_drew0, frT_alloc, ↓hk76, hg, dc, hh, dl]
    exact hK _ (by (repeat (first | exact Fr.refl _ _ | assumption | with_reducible apply Fr.alloc | with_reducible apply Fr.drew | with_reducible refine Fr.setB ?_ _ _ (.inr (by first | omega | (simp only [gz]; omega))) | with_reducible refine Fr.setB ?_ _ _ (.inl (by first | assumption | simp)) | with_reducible refine Fr.trans' ?_ (by assumption))))
  have dl : decide ((own.length : Int) < c) = false := decide_eq_false hcl
  have hfa : Fr [] w (w.alloc (.cells (encFact fact0).toArray 31)) := (Fr.refl _ _).alloc _
  simp (maxSteps := 4000000) (disch := (first | assumption | exact List.not_mem_nil | exact Fr.refl _ _ | ((repeat (first | assumption | apply cur_alloc | apply cur_setB | apply cur_drew | apply cur_drewN)); done) | omega | (simp only [gz, Value.cells, oneC]; first | done | omega) | ((simp only [List.mem_cons, List.not_mem_nil, or_false, gz]); omega) | rfl)) only [↓gsd, gs, ev, Nat.reduceAdd, Nat.reduceEqDiff, oneC, Value.cells, Option.isNone, gt, frT_self, frT_drew, frT_drew0, frT_alloc, ↓hk76]
  refine r5goodKey ?_
  simp (maxSteps := 4000000) (disch := (first | assumption | exact List.not_mem_nil | exact Fr.refl _ _ | ((repeat (first | assumption | apply cur_alloc | apply cur_setB | apply cur_drew | apply cur_drewN)); done) | omega | (simp only [gz, Value.cells, oneC]; first | done | omega) | ((simp only [List.mem_cons, List.not_mem_nil, or_false, gz]); omega) | rfl)) only [↓gsd, gs, ev, Nat.reduceAdd, Nat.reduceEqDiff, oneC, Value.cells, Option.isNone, gt, frT_self, frT_drew, frT_drew0, frT_alloc, ↓hk76, hg, dc, hh, dl]
  refine r5oldest (h.frN hfa) hl hm hm1 fun w2 hf2 => ?_
  have cw2 := cur w2
  have hg2 := hf2.getN (get_alloc_new w (.cells (encFact fact0).toArray 31))
  have hlt2 := lt_of_get _ _ hg2
  have hF2 := hfa.trans' hf2
  unfold encFact fact0 at hg2
  by_cases ho : c < oldL most (allP (past own) key)
  · have do_ : decide (c < oldL most (allP (past own) key)) = true := decide_eq_true ho
    have e : rread most own key c = (fact0, 20) := by unfold rread; rw [if_neg hn1, if_neg hcl, if_pos ho]
    rw [e] at hK
    unfold encFact fact0 at hK
    simp (maxSteps := 4000000) (disch := (first | assumption | exact List.not_mem_nil | exact Fr.refl _ _ | ((repeat (first | assumption | apply cur_alloc | apply cur_setB | apply cur_drew | apply cur_drewN)); done) | omega | (simp only [gz, Value.cells, oneC]; first | done | omega) | ((simp only [List.mem_cons, List.not_mem_nil, or_false, gz]); omega) | rfl)) only [↓gsd, gs, ev, Nat.reduceAdd, Nat.reduceEqDiff, oneC, Value.cells, Option.isNone, gt, frT_self, frT_drew, frT_drew0, frT_alloc, ↓hk76, do_, hg2]
    exact hK _ (hF2.setB _ _ (.inr (Nat.le_refl _)))
  have do_ : decide (c < oldL most (allP (past own) key)) = false := decide_eq_false ho
  have e : rread most own key c = (fOf key (loF (allP (past own) key) c) (hiF (allP (past own) key) c), 0) := by unfold rread; rw [if_neg hn1, if_neg hcl, if_neg ho]
  rw [e] at hK
  simp (maxSteps := 4000000) (disch := (first | assumption | exact List.not_mem_nil | exact Fr.refl _ _ | ((repeat (first | assumption | apply cur_alloc | apply cur_setB | apply cur_drew | apply cur_drewN)); done) | omega | (simp only [gz, Value.cells, oneC]; first | done | omega) | ((simp only [List.mem_cons, List.not_mem_nil, or_false, gz]); omega) | rfl)) only [↓gsd, gs, ev, Nat.reduceAdd, Nat.reduceEqDiff, oneC, Value.cells, Option.isNone, gt, frT_self, frT_drew, frT_drew0, frT_alloc, ↓hk76, do_]
  refine r5truth (h.frN hF2) hl fun w3 hf3 => ?_
  have cw3 := cur w3
  have hg3 := hf3.getN hg2
  have hlt3 := lt_of_get _ _ hg3
  unfold encFact fOf at hK ⊢
  simp (maxSteps := 4000000) (disch := (first | assumption | exact List.not_mem_nil | exact Fr.refl _ _ | ((repeat (first | assumption | apply cur_alloc | apply cur_setB | apply cur_drew | apply cur_drewN)); done) | omega | (simp only [gz, Value.cells, oneC]; first | done | omega) | ((simp only [List.mem_cons, List.not_mem_nil, or_false, gz]); omega) | rfl)) only [↓gsd, gs, ev, Nat.reduceAdd, Nat.reduceEqDiff, oneC, Value.cells, Option.isNone, gt, frT_self, frT_drew, frT_drew0, frT_alloc, ↓hk76, hg3]
  exact hK _ ((hF2.trans' hf3).setB _ _ (.inr (Nat.le_refl _)))
def rcommit (own : List (List Wr)) (ws : List Wr) : (Int × Int) × List (List Wr) := if chk ws ≠ 0 then ((0, chk ws), own) else (((own.length : Int) + 1, 0), own ++ [ws])
theorem past_len8 : ∀ own : List (List Wr), (∀ ws ∈ own, chk ws = 0) → (past own).length ≤ 8 * own.length := by
  apply list_snoc
  · intro _; simp [past]
  · intro own ws ih hc
    have h1 := ih fun w hw => hc w (List.mem_append_left _ hw)
    have h2 := hc ws (by simp)
    have h3 : ws.length ≤ 8 := by
      unfold chk at h2
      split at h2
      · cases h2
      · omega
    rw [past_snoc]
    simp only [List.length_append, List.length_map, List.length_cons, List.length_nil]
    omega
theorem sl_past {w : World} (p : Past) : Sl 4 (w.alloc (.cells (encPast p).toArray 155 (0, 0))) (.slice (some ⟨w.heap.size, 0, none⟩) 1 1) 1 (encPast p) :=
  ⟨rfl, .inr ⟨w.heap.size, 0, 1, _, 155, (0, 0), rfl, get_alloc_new _ _, rfl⟩⟩
set_option maxHeartbeats 8000000 in
theorem r5commit {w : World} {rb most : Nat} {v wv : Value} {own : List (List Wr)} {ws : List Wr} {K : Value → World → Prop} (h : R5At w rb v most own) (hw : ∀ w', Fr (rb :: blkL v) w w' → SlOf 3 encWr w' wv ws) (hwl : ws.length ≤ 9223372036854775807) (hl : (past own).length + 8 ≤ 100000000) (hol : own.length ≤ 100000000)
    (hK : ∀ v' w', R5At w' rb v' most (rcommit own ws).2 → (∀ b, v'.ownBlock = some b → v.ownBlock = some b ∨ w.heap.size ≤ b) → Fr (rb :: blkL v) w w' → K (.tuple ([.int .i64 (rcommit own ws).1.1, .int .i64 (rcommit own ws).1.2] : List Value).toArray) w') : CallsN Try.prog 51 [.pointer (some ⟨rb, 0, none⟩), wv] w K := by
  have cw := cur w
  have hw0 := hw w (Fr.refl _ _)
  refine call51 ?_
  simp (maxSteps := 4000000) (disch := (first | assumption | exact List.not_mem_nil | exact Fr.refl _ _ | ((repeat (first | assumption | apply cur_alloc | apply cur_setB | apply cur_drew | apply cur_drewN)); done) | omega | (simp only [gz, Value.cells, oneC]; first | done | omega) | ((simp only [List.mem_cons, List.not_mem_nil, or_false, gz]); omega) | rfl)) only [↓gsd, gs, ev, Nat.reduceAdd, Nat.reduceEqDiff, oneC, Value.cells, Option.isNone, gt, frT_self, frT_drew, frT_drew0, frT_alloc, ↓hk51]
  refine r5check hw0 hwl fun w1 hf1 => ?_
  have cw1 := cur w1
  have hz1 := hf1.size
  have h1 := h.frN hf1
  have hfM : Fr (rb :: blkL v) w w1 := Fr.trans (M' := []) (Fr.refl _ w) hf1 (by simp)
  by_cases hc : chk ws = 0
  case neg =>
    have d : decide (chk ws = 0) = false := decide_eq_false hc
    have e : rcommit own ws = ((0, chk ws), own) := by unfold rcommit; rw [if_pos hc]
    rw [e] at hK
    simp (maxSteps := 4000000) (disch := (first | assumption | exact List.not_mem_nil | exact Fr.refl _ _ | ((repeat (first | assumption | apply cur_alloc | apply cur_setB | apply cur_drew | apply cur_drewN)); done) | omega | (simp only [gz, Value.cells, oneC]; first | done | omega) | ((simp only [List.mem_cons, List.not_mem_nil, or_false, gz]); omega) | rfl)) only [↓gsd, gs, ev, Nat.reduceAdd, Nat.reduceEqDiff, oneC, Value.cells, Option.isNone, gt, frT_self, frT_drew, frT_drew0, frT_alloc, ↓hk51, d]
    exact hK v w1 h1 (fun b hb => .inl hb) hfM
  have e : rcommit own ws = (((own.length : Int) + 1, 0), own ++ [ws]) := by unfold rcommit; rw [if_neg (by simp [hc])]
  rw [e] at hK
  rw [hc]
  have hw8 : ws.length ≤ 8 := by
    unfold chk at hc
    split at hc
    · cases hc
    · omega
  have hh1 := h1.head
  have hlt1 := lt_of_get _ _ hh1
  have hlv := h1.lt.2
  obtain ⟨va, vc, hv⟩ := h1.own.sl.form
  have hnb : v.ownBlock ≠ some rb := own_head h1.own hh1 (by decide)
  rw [hv] at hh1
  have wr : IntKind.i64.wrap ((own.length : Int) + 1) = (own.length : Int) + 1 := wrap64 (by omega) (by omega)
  simp (maxSteps := 4000000) (disch := (first | assumption | exact List.not_mem_nil | exact Fr.refl _ _ | ((repeat (first | assumption | apply cur_alloc | apply cur_setB | apply cur_drew | apply cur_drewN)); done) | omega | (simp only [gz, Value.cells, oneC]; first | done | omega) | ((simp only [List.mem_cons, List.not_mem_nil, or_false, gz]); omega) | rfl)) only [↓gsd, gs, ev, Nat.reduceAdd, Nat.reduceEqDiff, oneC, Value.cells, Option.isNone, gt, frT_self, frT_drew, frT_drew0, frT_alloc, ↓hk51, hh1, wr]
  rw [← hv]
  obtain ⟨wa, wc, hwv⟩ := hw0.form
  refine loop_intro (fun e w' => ∃ (i : Nat) (vi : Value), i ≤ ws.length ∧ e 0 = .pointer (some ⟨rb, 0, none⟩) ∧ e 1 = wv ∧ e 7 = .int .i64 i ∧ w'.heap[rb]? = some (.cells ([vi, .int .i64 most, .int .i64 ((own.length : Int) + 1)] : List Value).toArray 104 (0, 0)) ∧
      Own 4 155 w' vi ((past own).length + i) (cellsOf encPast (past own ++ (ws.take i).map fun x => ((own.length : Int) + 1, x))) ∧ (∀ b, vi.ownBlock = some b → v.ownBlock = some b ∨ w.heap.size ≤ b) ∧ Fr (rb :: blkL v) w w') (fun e _ => ws.length - (numOf (e 7)).toNat) ?_ ?_
  · refine ⟨0, v, Nat.zero_le _, ?_⟩
    simp (maxSteps := 4000000) (disch := (first | assumption | exact List.not_mem_nil | exact Fr.refl _ _ | ((repeat (first | assumption | apply cur_alloc | apply cur_setB | apply cur_drew | apply cur_drewN)); done) | omega | (simp only [gz, Value.cells, oneC]; first | done | omega) | ((simp only [List.mem_cons, List.not_mem_nil, or_false, gz]); omega) | rfl)) only [↓gsd, gs, ev, Nat.reduceAdd, Nat.reduceEqDiff, oneC, Value.cells, Option.isNone, Int.natCast_zero]
    refine ⟨?_, fun b hb => .inl hb, hfM.setB _ _ (.inl (List.mem_cons_self ..))⟩
    have hkeep : ∀ o, Own 4 155 (w1.setB rb o) v (past own).length (cellsOf encPast (past own)) := fun o => h1.own.fr (M := [rb]) ((Fr.refl _ w1).setB rb o (.inl (List.mem_cons_self ..))) (by intro x hx; simp at hx; subst hx; exact hnb)
    simpa using hkeep _
  rintro e w2 k ⟨i, vi, hi, e0, e1, e7, hg, hown, hbl, hf⟩ hk
  have cw2 := cur w2
  have hz2 := hf.size
  have hlt2 := lt_of_get _ _ hg
  obtain ⟨ia, ic, hvi⟩ := hown.sl.form
  have hnbi : vi.ownBlock ≠ some rb := own_head hown hg (by decide)
  have hG := hg
  rw [hvi] at hg
  by_cases hil : i < ws.length
  · have d : decide ((i : Int) < (ws.length : Int)) = true := decide_eq_true (by omega)
    have i0 : (0 : Int) ≤ (i : Int) := by omega
    have i1 : (i : Int) < (ws.length : Int) := by omega
    have i3 : ((i : Int) + 1).toNat = i + 1 := by omega
    obtain ⟨x, hx⟩ : ∃ x, ws[i]? = some x := ⟨ws[i], List.getElem?_eq_getElem hil⟩
    obtain ⟨b, off, cap, o, hv1, ho, hb1, _, _, hrow⟩ := SlOf.wval (hw w2 hf) hx
    unfold encWr at hrow
    simp (maxSteps := 4000000) (disch := (first | assumption | exact List.not_mem_nil | exact Fr.refl _ _ | ((repeat (first | assumption | apply cur_alloc | apply cur_setB | apply cur_drew | apply cur_drewN)); done) | omega | (simp only [gz, Value.cells, oneC]; first | done | omega) | ((simp only [List.mem_cons, List.not_mem_nil, or_false, gz]); omega) | rfl)) only [↓gsd, gs, ev, Nat.reduceAdd, Nat.reduceEqDiff, oneC, Value.cells, Option.isNone, gt, frT_self, frT_drew, frT_drew0, frT_alloc, ↓hk51, e0, e1, e7, hv1, hg, d, i0, i1, Int.toNat_natCast, ho, hrow]
    generalize hW : World.alloc w2.drew _ = w3
    have hf3 : Fr [] w2 w3 := by rw [← hW]; exact (Fr.refl _ _).drew.alloc _
    have hz3 : w3.heap.size = w2.heap.size + 1 := by rw [← hW, size_alloc, size_drew]
    have hsl : Sl 4 w3 (.slice (some ⟨w2.heap.size, 0, none⟩) 1 1) 1 (encPast ((own.length : Int) + 1, x)) := by rw [← hW]; exact sl_past (w := w2.drew) ((own.length : Int) + 1, x)
    clear hW
    have cw3 := cur w3
    obtain ⟨v4, w4, hr4, hown4, hf4, hbk⟩ := ap102 (ty := 102) (Own.frN hown hf3) hsl rfl (by omega)
    obtain ⟨a4, c4, hv4⟩ := hown4.sl.form
    have cw4 := cur w4
    have hz4 := hf4.size
    have hg4 := hf4.get (hf3.getN hG) (fun hm => hnbi (mem_blkL.1 hm))
    have hlt4 := lt_of_get _ _ hg4
    rw [hvi] at hr4 hg4
    rw [hv4] at hr4
    simp (maxSteps := 4000000) (disch := (first | assumption | exact List.not_mem_nil | exact Fr.refl _ _ | ((repeat (first | assumption | apply cur_alloc | apply cur_setB | apply cur_drew | apply cur_drewN)); done) | omega | (simp only [gz, Value.cells, oneC]; first | done | omega) | ((simp only [List.mem_cons, List.not_mem_nil, or_false, gz]); omega) | rfl)) only [↓gsd, gs, ev, Nat.reduceAdd, Nat.reduceEqDiff, oneC, Value.cells, Option.isNone, gt, frT_self, frT_drew, frT_drew0, frT_alloc, eq_true hf3, ↓hk51, e0, e1, e7, hr4, hg4]
    refine hk _ _ ⟨i + 1, v4, by omega, ?_⟩ ?_
    · simp (maxSteps := 4000000) (disch := (first | assumption | exact List.not_mem_nil | exact Fr.refl _ _ | ((repeat (first | assumption | apply cur_alloc | apply cur_setB | apply cur_drew | apply cur_drewN)); done) | omega | (simp only [gz, Value.cells, oneC]; first | done | omega) | ((simp only [List.mem_cons, List.not_mem_nil, or_false, gz]); omega) | rfl)) only [↓gsd, gs, ev, Nat.reduceAdd, Nat.reduceEqDiff, oneC, Value.cells, Option.isNone, e0, e1, e7, hv1, hv4, Int.natCast_add i 1, Int.natCast_one]
      rw [← hv4]
      have htk : (ws.take (i + 1)).map (fun x => ((own.length : Int) + 1, x)) = (ws.take i).map (fun x => ((own.length : Int) + 1, x)) ++ [((own.length : Int) + 1, x)] := by
        rw [List.take_add_one, hx, List.map_append]; rfl
      refine ⟨?_, fun b hb => ?_, ?_⟩
      · rw [htk, ← List.append_assoc, cellsOf_append, cellsOf_one]
        have h4 : Own 4 155 w4 v4 ((past own).length + (i + 1)) (cellsOf encPast (past own ++ (ws.take i).map fun x => ((own.length : Int) + 1, x)) ++ encPast ((own.length : Int) + 1, x)) := hown4
        exact h4.fr (M := [rb]) ((Fr.refl _ w4).setB rb _ (.inl (List.mem_cons_self ..))) (by
          intro y hy; simp at hy; subst hy
          exact own_head h4 (hf4.get (hf3.getN hG) (fun hm => hnbi (mem_blkL.1 hm))) (by decide))
      · rcases hbk with e | ⟨b', e, e2⟩
        · exact hbl b (e ▸ hb)
        · rw [e] at hb; cases hb; right; omega
      · refine Fr.setB ?_ _ _ (.inl (List.mem_cons_self ..))
        exact (hf.trans' hf3).trans hf4 fun y hy => by
          rcases hbl y (mem_blkL.1 hy) with q | q
          · exact .inl (List.mem_cons_of_mem _ (mem_blkL.2 q))
          · exact .inr q
    · simp (maxSteps := 4000000) (disch := (first | assumption | exact List.not_mem_nil | exact Fr.refl _ _ | ((repeat (first | assumption | apply cur_alloc | apply cur_setB | apply cur_drew | apply cur_drewN)); done) | omega | (simp only [gz, Value.cells, oneC]; first | done | omega) | ((simp only [List.mem_cons, List.not_mem_nil, or_false, gz]); omega) | rfl)) only [↓gsd, gs, ev, Nat.reduceAdd, Nat.reduceEqDiff, oneC, Value.cells, Option.isNone, e7, numOf, Int.toNat_natCast, i3]; omega
  · have d : decide ((i : Int) < (ws.length : Int)) = false := decide_eq_false (by omega)
    have : i = ws.length := by omega
    subst this
    simp (maxSteps := 4000000) (disch := (first | assumption | exact List.not_mem_nil | exact Fr.refl _ _ | ((repeat (first | assumption | apply cur_alloc | apply cur_setB | apply cur_drew | apply cur_drewN)); done) | omega | (simp only [gz, Value.cells, oneC]; first | done | omega) | ((simp only [List.mem_cons, List.not_mem_nil, or_false, gz]); omega) | rfl)) only [↓gsd, gs, ev, Nat.reduceAdd, Nat.reduceEqDiff, oneC, Value.cells, Option.isNone, gt, frT_self, frT_drew, frT_drew0, frT_alloc, ↓hk51, e0, e1, e7, hwv, hg, d]
    refine hK vi w2 ⟨?_, ?_⟩ hbl hf
    · rw [hG]; simp
    · rw [past_snoc, List.length_append, List.length_map]
      rw [List.take_length] at hown
      exact hown
end Go.Proofs.Ytenokheiindfkaa
