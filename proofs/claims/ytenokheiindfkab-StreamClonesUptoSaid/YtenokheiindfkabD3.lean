/- The log: New, Last, Append, Get. -/
import Derived.Test.YtenokheiindfkabD2
import Derived.Test.YtenokheiindfkabH1w
set_option linter.unusedVariables false
set_option linter.unusedSimpArgs false
set_option maxRecDepth 10000
namespace Go.Proofs.Ytenokheiindfkab
open Go.VW
abbrev Ks := List ByteArray
theorem own_ne {k k' n n' : Nat} {e e' : TypeId} {w : World} {v v' : Value} {cs cs' : List Value} (h : Own k e w v n cs) (h' : Own k' e' w v' n' cs') (he : e ≠ e') : ∀ b, v.ownBlock = some b → v'.ownBlock ≠ some b := by
  intro b hb hb'
  rcases h.2 with ⟨rfl, _⟩ | ⟨g, cap, cur, rfl, _, hg, _⟩
  · simp [Value.ownBlock] at hb
  · rcases h'.2 with ⟨rfl, _⟩ | ⟨g', cap', cur', rfl, _, hg', _⟩
    · simp [Value.ownBlock] at hb'
    · simp [Value.ownBlock] at hb hb'
      subst hb; subst hb'
      rw [hg] at hg'
      cases hg'
      exact he rfl
theorem own_head {k n : Nat} {e t : TypeId} {w : World} {v : Value} {cs : List Value} {b : Nat} {c : Array Value} {fr : Nat × Nat} (h : Own k e w v n cs) (hb : w.heap[b]? = some (.cells c t fr)) (he : e ≠ t) : v.ownBlock ≠ some b := by
  intro hb'
  rcases h.2 with ⟨rfl, _⟩ | ⟨g, cap, cur, rfl, _, hg, _⟩
  · simp [Value.ownBlock] at hb'
  · simp [Value.ownBlock] at hb'
    subst hb'
    rw [hg] at hb
    cases hb
    exact he rfl
theorem mem_blkL {v : Value} {b : Nat} : b ∈ blkL v ↔ v.ownBlock = some b := by
  unfold blkL
  split
  · rename_i g hg; rw [hg]; simp; exact eq_comm
  · rename_i hg; rw [hg]; simp
theorem Own.oneC {k n : Nat} {e : TypeId} {w : World} {v : Value} {cs : List Value} (h : Own k e w v n cs) : oneC v = true := by
  obtain ⟨a, c, hv⟩ := h.sl.form; rw [hv]; rfl
structure LogAt (w : World) (lb : Nat) (Wr Rd : List Nat) (L : List Ks) : Prop where
  ex : ∃ (vl : Value) (vs : List Value), w.heap[lb]? = some (.cells ([vl] : List Value).toArray 56 (0, 0)) ∧ Own 1 30 w vl vs.length vs ∧ vs.length = L.length ∧
    (∀ (i : Nat) v ks, vs[i]? = some v → L[i]? = some ks → Own 1 9 w v ks.length (cellsOf encS ks) ∧ ∀ b, v.ownBlock = some b → b ∈ Rd) ∧ (∀ b, vl.ownBlock = some b → b ∈ Wr)
  lb : lb ∈ Wr
  lt : ∀ x, x ∈ Wr ∨ x ∈ Rd → x < w.heap.size
  len : L.length ≤ 1099511627776
  ok : ∀ ks ∈ L, chkK ks = 0
theorem LogAt.fr {w w' : World} {lb : Nat} {Wr Rd : List Nat} {L : List Ks} (h : LogAt w lb Wr Rd L) {M : List Nat} (hf : Fr M w w') (hM : ∀ x ∈ M, x ∉ Wr ∧ x ∉ Rd) : LogAt w' lb Wr Rd L := by
  obtain ⟨⟨vl, vs, hh, ho, hl, hk, hb⟩, h1, h2, h3, h4⟩ := h
  refine ⟨⟨vl, vs, hf.get hh fun hm => (hM _ hm).1 h1, ho.fr hf fun x hx e => (hM x hx).1 (hb x e), hl, fun i v ks hv hks => ?_, hb⟩, h1, fun x hx => hf.lt (h2 x hx), h3, h4⟩
  obtain ⟨q1, q2⟩ := hk i v ks hv hks
  exact ⟨q1.fr hf fun x hx e => (hM x hx).2 (q2 x e), q2⟩
theorem LogAt.frN {w w' : World} {lb : Nat} {Wr Rd : List Nat} {L : List Ks} (h : LogAt w lb Wr Rd L) (hf : Fr [] w w') : LogAt w' lb Wr Rd L := h.fr hf (by simp)
theorem new_log {w : World} {K : Value → World → Prop} (hK : ∀ b w', Fr [] w w' → w.heap.size ≤ b → LogAt w' b [b] [] [] → K (.pointer (some ⟨b, 0, none⟩)) w') : CallsN Try.prog 9 [] w K := by
  have cw := cur w
  refine call9 ?_
  simp (maxSteps := 4000000) (disch := (first | assumption | exact List.not_mem_nil | exact Fr.refl _ _ | ((repeat (first | assumption | apply cur_alloc | apply cur_setB | apply cur_drew | apply cur_drewN)); done) | omega | (simp only [gz, Value.cells, oneC]; first | done | omega) | ((simp only [List.mem_cons, List.not_mem_nil, or_false, gz]); omega) | rfl)) only [↓gsd, gs, ev, Nat.reduceAdd, Nat.reduceEqDiff, oneC, Value.cells, Option.isNone, gt, ↓hk9]
  refine hK w.heap.size _ (by (repeat (first | exact Fr.refl _ _ | assumption | with_reducible apply Fr.alloc | with_reducible apply Fr.drew | with_reducible refine Fr.setB ?_ _ _ (.inr (by first | omega | (simp only [gz]; omega))) | with_reducible refine Fr.setB ?_ _ _ (.inl (by first | assumption | simp)) | with_reducible refine Fr.trans' ?_ (by assumption)))) (Nat.le_refl _) ⟨⟨.slice none 0 0, [], ?_, Own.nil, rfl, fun i v ks hv => by simp at hv, fun b hb => by simp [Value.ownBlock] at hb⟩, by simp, fun x hx => by simp at hx; subst hx; simp only [gz]; omega, by simp, fun ks hks => by simp at hks⟩
  simp (maxSteps := 4000000) (disch := (first | assumption | exact List.not_mem_nil | exact Fr.refl _ _ | ((repeat (first | assumption | apply cur_alloc | apply cur_setB | apply cur_drew | apply cur_drewN)); done) | omega | (simp only [gz, Value.cells, oneC]; first | done | omega) | ((simp only [List.mem_cons, List.not_mem_nil, or_false, gz]); omega) | rfl)) only [↓gsd, gs, ev, Nat.reduceAdd, Nat.reduceEqDiff, oneC, Value.cells, Option.isNone]
theorem last_spec {w : World} {lb : Nat} {Wr Rd : List Nat} {L : List Ks} {K : Value → World → Prop} (h : LogAt w lb Wr Rd L) (hK : K (.int .i64 L.length) w) : CallsN Try.prog 13 [.pointer (some ⟨lb, 0, none⟩)] w K := by
  have cw := cur w
  obtain ⟨⟨vl, vs, hh, ho, hl, hk, hb⟩, h1, h2, h3, h4⟩ := h
  have hlt := lt_of_get _ _ hh
  obtain ⟨a, c, hv⟩ := ho.sl.form
  rw [hv] at hh
  rw [← hl] at hK
  refine call13 ?_
  simp (maxSteps := 4000000) (disch := (first | assumption | exact List.not_mem_nil | exact Fr.refl _ _ | ((repeat (first | assumption | apply cur_alloc | apply cur_setB | apply cur_drew | apply cur_drewN)); done) | omega | (simp only [gz, Value.cells, oneC]; first | done | omega) | ((simp only [List.mem_cons, List.not_mem_nil, or_false, gz]); omega) | rfl)) only [↓gsd, gs, ev, Nat.reduceAdd, Nat.reduceEqDiff, oneC, Value.cells, Option.isNone, gt, ↓hk13, hh]
  exact hK
def appL (L : List Ks) (ks : Ks) : (Int × Int) × List Ks :=
  if chkK ks ≠ 0 then ((0, chkK ks), L) else if 1099511627776 ≤ L.length then ((0, 2), L) else (((L.length : Int) + 1, 0), L ++ [ks])
theorem appL_err {L : List Ks} {ks : Ks} (h : chkK ks ≠ 0) : appL L ks = ((0, chkK ks), L) := by unfold appL; rw [if_pos h]
theorem appL_full {L : List Ks} {ks : Ks} (h : chkK ks = 0) (hl : 1099511627776 ≤ L.length) : appL L ks = ((0, 2), L) := by unfold appL; rw [if_neg (by simp [h]), if_pos hl]
theorem appL_ok {L : List Ks} {ks : Ks} (h : chkK ks = 0) (hl : ¬ 1099511627776 ≤ L.length) : appL L ks = (((L.length : Int) + 1, 0), L ++ [ks]) := by unfold appL; rw [if_neg (by simp [h]), if_neg hl]
set_option maxHeartbeats 8000000 in
theorem append_log {w : World} {lb : Nat} {Wr Rd : List Nat} {L : List Ks} {va : Value} {ks : Ks} {K : Value → World → Prop} (h : LogAt w lb Wr Rd L) (ha : SlOf 1 encS w va ks) (hl : ks.length ≤ 9223372036854775807)
    (hK : ∀ w' Wr' Rd', LogAt w' lb Wr' Rd' (appL L ks).2 → Fr Wr w w' → (∀ x ∈ Wr', x ∈ Wr ∨ w.heap.size ≤ x) → (∀ x ∈ Rd', x ∈ Rd ∨ w.heap.size ≤ x) → K (.tuple ([.int .i64 (appL L ks).1.1, .int .i64 (appL L ks).1.2] : List Value).toArray) w') :
    CallsN Try.prog 10 [.pointer (some ⟨lb, 0, none⟩), va] w K := by
  have cw := cur w
  refine call10 ?_
  simp (maxSteps := 4000000) (disch := (first | assumption | exact List.not_mem_nil | exact Fr.refl _ _ | ((repeat (first | assumption | apply cur_alloc | apply cur_setB | apply cur_drew | apply cur_drewN)); done) | omega | (simp only [gz, Value.cells, oneC]; first | done | omega) | ((simp only [List.mem_cons, List.not_mem_nil, or_false, gz]); omega) | rfl)) only [↓gsd, gs, ev, Nat.reduceAdd, Nat.reduceEqDiff, oneC, Value.cells, Option.isNone, gt, ↓hk10]
  refine check_spec ha hl fun w1 hf1 => ?_
  have cw1 := cur w1
  have hz1 := hf1.size
  have h1 := h.frN hf1
  have hfW : Fr Wr w w1 := Fr.trans (M' := []) (Fr.refl _ w) hf1 (by simp)
  by_cases hc : chkK ks = 0
  case neg =>
    have d0 : decide (chkK ks = 0) = false := decide_eq_false hc
    rw [appL_err hc] at hK
    simp (maxSteps := 4000000) (disch := (first | assumption | exact List.not_mem_nil | exact Fr.refl _ _ | ((repeat (first | assumption | apply cur_alloc | apply cur_setB | apply cur_drew | apply cur_drewN)); done) | omega | (simp only [gz, Value.cells, oneC]; first | done | omega) | ((simp only [List.mem_cons, List.not_mem_nil, or_false, gz]); omega) | rfl)) only [↓gsd, gs, ev, Nat.reduceAdd, Nat.reduceEqDiff, oneC, Value.cells, Option.isNone, gt, ↓hk10, d0]
    exact hK w1 Wr Rd h1 hfW (fun x hx => .inl hx) (fun x hx => .inl hx)
  rw [hc]
  simp (maxSteps := 4000000) (disch := (first | assumption | exact List.not_mem_nil | exact Fr.refl _ _ | ((repeat (first | assumption | apply cur_alloc | apply cur_setB | apply cur_drew | apply cur_drewN)); done) | omega | (simp only [gz, Value.cells, oneC]; first | done | omega) | ((simp only [List.mem_cons, List.not_mem_nil, or_false, gz]); omega) | rfl)) only [↓gsd, gs, ev, Nat.reduceAdd, Nat.reduceEqDiff, oneC, Value.cells, Option.isNone, gt, ↓hk10]
  refine last_spec h1 ?_
  by_cases hfull : 1099511627776 ≤ L.length
  · have d1 : decide ((1099511627776 : Int) ≤ (L.length : Int)) = true := decide_eq_true (by omega)
    rw [appL_full hc hfull] at hK
    simp (maxSteps := 4000000) (disch := (first | assumption | exact List.not_mem_nil | exact Fr.refl _ _ | ((repeat (first | assumption | apply cur_alloc | apply cur_setB | apply cur_drew | apply cur_drewN)); done) | omega | (simp only [gz, Value.cells, oneC]; first | done | omega) | ((simp only [List.mem_cons, List.not_mem_nil, or_false, gz]); omega) | rfl)) only [↓gsd, gs, ev, Nat.reduceAdd, Nat.reduceEqDiff, oneC, Value.cells, Option.isNone, gt, ↓hk10, d1]
    exact hK w1 Wr Rd h1 hfW (fun x hx => .inl hx) (fun x hx => .inl hx)
  have d1 : decide ((1099511627776 : Int) ≤ (L.length : Int)) = false := decide_eq_false (by omega)
  rw [appL_ok hc hfull] at hK
  obtain ⟨q1, q2, q3⟩ := chkK_ok hc
  obtain ⟨⟨vl, vs, hh, ho, hvl, hk, hb⟩, g1, g2, g3, g4⟩ := h1
  have hlt := lt_of_get _ _ hh
  obtain ⟨la, lc, hv⟩ := ho.sl.form
  have hh' := hh
  rw [hv] at hh'
  simp (maxSteps := 4000000) (disch := (first | assumption | exact List.not_mem_nil | exact Fr.refl _ _ | ((repeat (first | assumption | apply cur_alloc | apply cur_setB | apply cur_drew | apply cur_drewN)); done) | omega | (simp only [gz, Value.cells, oneC]; first | done | omega) | ((simp only [List.mem_cons, List.not_mem_nil, or_false, gz]); omega) | rfl)) only [↓gsd, gs, ev, Nat.reduceAdd, Nat.reduceEqDiff, oneC, Value.cells, Option.isNone, gt, ↓hk10, d1]
  refine draw_intro2 (w := w1.drew) (fun t => if t = 4 then [] else lb :: blkL vl) ?_
  simp (maxSteps := 4000000) (disch := (first | assumption | exact List.not_mem_nil | exact Fr.refl _ _ | ((repeat (first | assumption | apply cur_alloc | apply cur_setB | apply cur_drew | apply cur_drewN)); done) | omega | (simp only [gz, Value.cells, oneC]; first | done | omega) | ((simp only [List.mem_cons, List.not_mem_nil, or_false, gz]); omega) | rfl)) only [↓gsd, gs, ev, Nat.reduceAdd, Nat.reduceEqDiff, oneC, Value.cells, Option.isNone, gt, ↓hk10, Fr_self, hh']
  refine clone_spec ((ha.frN hf1).frN (Fr.refl _ _).drew) (by omega) fun v2 w2 hown2 hf2 hfr2 => ?_
  have cw2 := cur w2
  have hz2 := hf2.size
  rw [size_drew] at hz2
  have hf12 : Fr [] w1 w2 := (Fr.refl _ _).drew.trans' hf2
  have T0 : ∀ M, Fr M w1.drew w2 := fun M => Fr.trans (M' := []) (Fr.refl _ _) hf2 (by simp)
  obtain ⟨a2, c2, hv2⟩ := hown2.sl.form
  simp (maxSteps := 4000000) (disch := (first | assumption | exact List.not_mem_nil | exact Fr.refl _ _ | ((repeat (first | assumption | apply cur_alloc | apply cur_setB | apply cur_drew | apply cur_drewN)); done) | omega | (simp only [gz, Value.cells, oneC]; first | done | omega) | ((simp only [List.mem_cons, List.not_mem_nil, or_false, gz]); omega) | rfl)) only [↓gsd, gs, ev, Nat.reduceAdd, Nat.reduceEqDiff, oneC, Value.cells, Option.isNone, gt, ↓hk10, eq_true (T0 []), eq_true (T0 (lb :: blkL vl)), hv2]
  generalize hW : World.alloc w2 _ = w3
  have hf3 : Fr [] w2 w3 := by rw [← hW]; (repeat (first | exact Fr.refl _ _ | assumption | with_reducible apply Fr.alloc | with_reducible apply Fr.drew | with_reducible refine Fr.setB ?_ _ _ (.inr (by first | omega | (simp only [gz]; omega))) | with_reducible refine Fr.setB ?_ _ _ (.inl (by first | assumption | simp)) | with_reducible refine Fr.trans' ?_ (by assumption)))
  have hz3 : w3.heap.size = w2.heap.size + 1 := by rw [← hW]; simp only [gz]
  have hsl : Sl 1 w3 (.slice (some ⟨w2.heap.size, 0, none⟩) 1 1) 1 [v2] := by rw [← hW, hv2]; exact ⟨rfl, .inr ⟨_, 0, 1, _, 30, (0, 0), rfl, get_alloc_new _ _, rfl⟩⟩
  clear hW
  have cw3 := cur w3
  have T1 : ∀ M, Fr M w1.drew w3 := fun M => (T0 M).trans' hf3
  have ho3 : Own 1 30 w3 vl vs.length vs := (ho.frN hf12).frN hf3
  obtain ⟨v4, w4, hr4, hown4, hf4, hbk⟩ := ap22 (ty := 22) ho3 hsl (by simp [hown2.oneC]) (by omega)
  obtain ⟨a4, c4, hv4⟩ := hown4.sl.form
  have cw4 := cur w4
  have hz4 := hf4.size
  have hh3 := hf3.getN (hf12.getN hh)
  have hnb : lb ∉ blkL vl := fun hm => own_head ho hh (by decide) (mem_blkL.1 hm)
  have hh4 := hf4.get hh3 hnb
  have hlt4 := lt_of_get _ _ hh4
  rw [hv] at hr4
  rw [hv4] at hr4
  have hh4' := hh4
  rw [hv] at hh4'
  have T2 : Fr (lb :: blkL vl) w1.drew w4 := (T1 _).trans hf4 fun x hx => .inl (List.mem_cons_of_mem _ hx)
  have T3 : ∀ o, Fr (lb :: blkL vl) w1.drew (w4.setB lb o) = True := fun o => eq_true (T2.setB _ _ (.inl (List.mem_cons_self ..)))
  simp (maxSteps := 4000000) (disch := (first | assumption | exact List.not_mem_nil | exact Fr.refl _ _ | ((repeat (first | assumption | apply cur_alloc | apply cur_setB | apply cur_drew | apply cur_drewN)); done) | omega | (simp only [gz, Value.cells, oneC]; first | done | omega) | ((simp only [List.mem_cons, List.not_mem_nil, or_false, gz]); omega) | rfl)) only [↓gsd, gs, ev, Nat.reduceAdd, Nat.reduceEqDiff, oneC, Value.cells, Option.isNone, gt, ↓hk10, eq_true (T1 []), eq_true (T1 (lb :: blkL vl)), hr4, eq_true T2, T3, hh4']
  have hz0 := hf1.size
  generalize hW : World.setB w4 lb _ = w5
  have hf5 : Fr [lb] w4 w5 := by rw [← hW]; (repeat (first | exact Fr.refl _ _ | assumption | with_reducible apply Fr.alloc | with_reducible apply Fr.drew | with_reducible refine Fr.setB ?_ _ _ (.inr (by first | omega | (simp only [gz]; omega))) | with_reducible refine Fr.setB ?_ _ _ (.inl (by first | assumption | simp)) | with_reducible refine Fr.trans' ?_ (by assumption)))
  have hz5 : w5.heap.size = w4.heap.size := by rw [← hW]; simp only [gz]
  have hh5 : w5.heap[lb]? = some (.cells ([v4] : List Value).toArray 56 (0, 0)) := by rw [← hW, hv4]; simp (maxSteps := 4000000) (disch := (first | assumption | exact List.not_mem_nil | exact Fr.refl _ _ | ((repeat (first | assumption | apply cur_alloc | apply cur_setB | apply cur_drew | apply cur_drewN)); done) | omega | (simp only [gz, Value.cells, oneC]; first | done | omega) | ((simp only [List.mem_cons, List.not_mem_nil, or_false, gz]); omega) | rfl)) only [↓gsd, gs, ev, Nat.reduceAdd, Nat.reduceEqDiff, oneC, Value.cells, Option.isNone]
  clear hW
  have cw5 := cur w5
  have hwb : ∀ b ∈ blkL vl, b ∈ Wr := fun b hb' => hb b (mem_blkL.1 hb')
  have hF : Fr Wr w w5 := by
    refine Fr.trans ?_ hf5 (fun x hx => by simp at hx; subst hx; exact .inl g1)
    refine Fr.trans ?_ hf4 (fun x hx => .inl (hwb x hx))
    exact (hfW.trans' hf12).trans' hf3
  have hown5 : Own 1 30 w5 v4 (vs.length + 1) (vs ++ [v2]) := hown4.fr hf5 (by intro x hx; simp at hx; subst hx; exact own_head hown4 hh4 (by decide))
  have hkeep : ∀ {v : Value} {kk : Ks}, Own 1 9 w3 v kk.length (cellsOf encS kk) → Own 1 9 w5 v kk.length (cellsOf encS kk) := fun {v kk} hq =>
    (hq.fr hf4 (fun x hx e => own_ne hq ho3 (by decide) x e (mem_blkL.1 hx))).fr hf5 (by intro x hx e; simp at hx; subst hx; exact own_head (hq.fr hf4 (fun x hx e => own_ne hq ho3 (by decide) x e (mem_blkL.1 hx))) hh4 (by decide) e)
  have hnew : LogAt w5 lb (Wr ++ blkL v4) (Rd ++ blkL v2) (L ++ [ks]) := by
    refine ⟨⟨v4, vs ++ [v2], hh5, by simpa using hown5, by simp [hvl], fun i v kk hv' hk' => ?_, fun b hb' => List.mem_append_right _ (mem_blkL.2 hb')⟩, List.mem_append_left _ g1, fun x hx => ?_, by simp; omega, fun kk hkk => ?_⟩
    · by_cases hi : i < vs.length
      · rw [List.getElem?_append_left hi] at hv'
        rw [List.getElem?_append_left (by omega)] at hk'
        obtain ⟨r1, r2⟩ := hk i v kk hv' hk'
        exact ⟨hkeep ((r1.frN hf12).frN hf3), fun b hb' => List.mem_append_left _ (r2 b hb')⟩
      · have hil : i < (vs ++ [v2]).length := (List.getElem?_eq_some_iff.1 hv').1
        simp only [List.length_append, List.length_cons, List.length_nil] at hil
        have : i = vs.length := by omega
        subst this
        rw [List.getElem?_concat_length] at hv'
        rw [hvl, List.getElem?_concat_length] at hk'
        cases hv'; cases hk'
        exact ⟨hkeep (hown2.frN hf3), fun b hb' => List.mem_append_right _ (mem_blkL.2 hb')⟩
    · have hx' : x ∈ Wr ∨ x ∈ Rd ∨ v4.ownBlock = some x ∨ v2.ownBlock = some x := by
        simp only [List.mem_append, mem_blkL] at hx
        rcases hx with (h | h) | (h | h) <;> simp [h]
      rcases hx' with h | h | h | h
      · have := g2 x (.inl h); omega
      · have := g2 x (.inr h); omega
      · exact hown5.lt h
      · have := (hkeep (hown2.frN hf3)).lt h; exact this
    · rcases List.mem_append.1 hkk with h | h
      · exact g4 kk h
      · simp at h; subst h; exact hc
  refine last_spec hnew ?_
  have eL : ((L ++ [ks]).length : Int) = (L.length : Int) + 1 := by simp
  rw [eL]
  refine hK w5 _ _ hnew hF (fun x hx => ?_) (fun x hx => ?_)
  · rcases List.mem_append.1 hx with h | h
    · exact .inl h
    · rw [mem_blkL] at h
      rcases hbk with e | ⟨b', e1, e2⟩
      · exact .inl (hb x (e ▸ h))
      · rw [e1] at h; cases h; right; omega
  · rcases List.mem_append.1 hx with h | h
    · exact .inl h
    · have := hfr2 x (mem_blkL.1 h)
      rw [size_drew] at this
      right; omega
end Go.Proofs.Ytenokheiindfkab
