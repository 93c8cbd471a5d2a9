/- done: commits that were taken, one behind the other. -/
import Derived.Test.YtenokheiindfkaaS8
set_option linter.unusedVariables false
set_option linter.unusedSimpArgs false
set_option maxRecDepth 10000
namespace Go.Proofs.Ytenokheiindfkaa
open Go.VW
def one1 (v : Value) : List Value := [v]
theorem one1_len (v : Value) : (one1 v).length = 1 := rfl
structure ListAt (w : World) (lv : Value) (vs : List Value) (ls : List (List Wr)) : Prop where
  sl : SlOf 1 one1 w lv vs
  len : vs.length = ls.length
  at_ : ∀ (i : Nat) v ws, vs[i]? = some v → ls[i]? = some ws → SlOf 3 encWr w v ws
theorem ListAt.frN {w w' : World} {lv : Value} {vs : List Value} {ls : List (List Wr)} (h : ListAt w lv vs ls) (hf : Fr [] w w') : ListAt w' lv vs ls :=
  ⟨h.sl.frN hf, h.len, fun i v ws h1 h2 => (h.at_ i v ws h1 h2).frN hf⟩
theorem cellsOf_one1 (vs : List Value) : cellsOf one1 vs = vs := by
  induction vs with
  | nil => rfl
  | cons v vs ih => simp only [cellsOf, List.flatMap_cons, one1] at *; simpa using ih
def step (s : St × List (List Wr)) (ws : List Wr) : St × List (List Wr) := if (s.1.commit ws).1.2 = 0 then ((s.1.commit ws).2, s.2 ++ [ws]) else s
def doneP (st : St) (ls : List (List Wr)) : St × List (List Wr) := ls.foldl step (st, [])
theorem commit_err {st : St} {ws : List Wr} (h : ¬ (st.commit ws).1.2 = 0) : (st.commit ws).1.1 = 0 ∧ (st.commit ws).2 = st := by
  by_cases hc : chk ws = 0 <;> by_cases hl : 1099511627776 ≤ st.last <;> simp_all [St.commit]
theorem commit_ok {st : St} {ws : List Wr} (h : (st.commit ws).1.2 = 0) : (st.commit ws).1.1 = st.last + 1 ∧ (st.commit ws).2.last = st.last + 1 ∧ st.last < 1099511627776 := by
  by_cases hc : chk ws = 0
  · by_cases hl : 1099511627776 ≤ st.last
    · simp [St.commit, hc, hl] at h
    · have e : st.commit ws = ((st.last + 1, 0), ⟨ws.foldl (put st.most (st.last + 1)) st.rows, st.most, st.last + 1⟩) := by simp only [St.commit, hc, ne_eq, not_true_eq_false, if_false, hl]
      rw [e]; exact ⟨rfl, rfl, by omega⟩
  · simp [St.commit, hc] at h
theorem StoreAt.fr {w w' : World} {b bm : Nat} {st : St} (h : StoreAt w b bm st) {M : List Nat} (hf : Fr M w w') (hb : b ∉ M) (hbm : bm ∉ M) (hM : ∀ x ∈ M, ∀ cs fr, w.heap[x]? ≠ some (.cells cs 106 fr)) : StoreAt w' b bm st :=
  ⟨hf.get h.head hb, by rw [hf.keep _ h.lt.2.1 hbm]; exact h.rows.fr hf hM⟩
theorem own_blk {k n : Nat} {e : TypeId} {w : World} {v : Value} {cs : List Value} (h : Own k e w v n cs) (he : e ≠ 106) : ∀ x ∈ blkL v, ∀ cs fr, w.heap[x]? ≠ some (.cells cs 106 fr) := by
  intro x hx cs fr hc
  rcases h.2 with ⟨rfl, rfl⟩ | ⟨g, cap, cur, rfl, _, hg, _⟩
  · simp [blkL, Value.ownBlock] at hx
  · simp [blkL, Value.ownBlock] at hx
    subst hx
    rw [hg] at hc
    simp at hc
    exact he hc.2.1
set_option maxHeartbeats 4000000 in
theorem done_spec {b bm : Nat} {st : St} {w : World} {lv : Value} {vs : List Value} {ls : List (List Wr)} {K : Value → World → Prop} (h : StoreAt w b bm st) (hwf : st.WF) (h0 : st.last = 0)
    (hl : ∀ w', Fr [b, bm] w w' → ListAt w' lv vs ls) (hmx : ls.length ≤ 9223372036854775807)
    (hK : ∀ v' vs' w', Fr [b, bm] w w' → StoreAt w' b bm (doneP st ls).1 → ListAt w' v' vs' (doneP st ls).2 → K (.tuple ([v', .bool true] : List Value).toArray) w') :
    CallsN Try.prog 17 [.pointer (some ⟨b, 0, none⟩), lv] w K := by
  have cw := cur w
  obtain ⟨hb0, hbm0, hne⟩ := h.lt
  have hl0 := hl w (Fr.refl _ _)
  obtain ⟨la, lc, hlv⟩ := hl0.sl.form
  refine call17 ?_
  simp (maxSteps := 4000000) (disch := (first | assumption | exact List.not_mem_nil | exact Fr.refl _ _ | ((repeat (first | assumption | apply cur_alloc | apply cur_setB | apply cur_drew | apply cur_drewN)); done) | omega | (simp only [gz, Value.cells, oneC]; first | done | omega) | ((simp only [List.mem_cons, List.not_mem_nil, or_false, gz]); omega) | rfl)) only [↓gsd, gs, ev, Nat.reduceAdd, Nat.reduceEqDiff, oneC, Value.cells, Option.isNone, gt, ↓hk17]
  refine loop_intro (fun e w' => ∃ (i : Nat) (vo : Value) (vso : List Value), i ≤ ls.length ∧ e 0 = .pointer (some ⟨b, 0, none⟩) ∧ e 1 = lv ∧ e 6 = vo ∧ e 7 = .int .i64 i ∧
      Own 1 40 w' vo vso.length vso ∧ (∀ g, vo.ownBlock = some g → w.heap.size ≤ g) ∧ StoreAt w' b bm ((ls.take i).foldl step (st, [])).1 ∧ ((ls.take i).foldl step (st, [])).1.WF ∧
      ((ls.take i).foldl step (st, [])).1.last = ((ls.take i).foldl step (st, [])).2.length ∧ vso.length = ((ls.take i).foldl step (st, [])).2.length ∧
      (∀ (j : Nat) v ws, vso[j]? = some v → ((ls.take i).foldl step (st, [])).2[j]? = some ws → ∀ w'', Fr [b, bm] w w'' → SlOf 3 encWr w'' v ws) ∧ Fr [b, bm] w w')
    (fun e _ => ls.length - (numOf (e 7)).toNat) ?_ ?_
  · refine ⟨0, .slice none 0 0, [], Nat.zero_le _, ?_⟩
    simp (maxSteps := 4000000) (disch := (first | assumption | exact List.not_mem_nil | exact Fr.refl _ _ | ((repeat (first | assumption | apply cur_alloc | apply cur_setB | apply cur_drew | apply cur_drewN)); done) | omega | (simp only [gz, Value.cells, oneC]; first | done | omega) | ((simp only [List.mem_cons, List.not_mem_nil, or_false, gz]); omega) | rfl)) only [↓gsd, gs, ev, Nat.reduceAdd, Nat.reduceEqDiff, oneC, Value.cells, Option.isNone, Int.natCast_zero, List.foldl_nil]
    exact ⟨Own.nil, fun g hg => by simp [Value.ownBlock] at hg, h, hwf, h0, fun j v ws h1 => by simp at h1, Fr.refl _ _⟩
  · rintro e w1 k ⟨i, vo, vso, hi, e0, e1, e6, e7, hown, hfresh, hst, hswf, hlast, hvl, hat, hf⟩ hk
    have cw1 := cur w1
    have hz1 := hf.size
    obtain ⟨p, hp⟩ : ∃ p, p = (ls.take i).foldl step (st, []) := ⟨_, rfl⟩
    rw [← hp] at hst hswf hlast hvl hat
    by_cases hlt : i < ls.length
    · have el : decide ((i : Int) < (ls.length : Int)) = true := decide_eq_true (by omega)
      have i0 : (0 : Int) ≤ (i : Int) := by omega
      have hvlen := hl0.len
      have i1 : (i : Int) < (vs.length : Int) := by omega
      obtain ⟨v, hv⟩ : ∃ v, vs[i]? = some v := ⟨vs[i], List.getElem?_eq_getElem (by omega)⟩
      obtain ⟨ws, hws⟩ : ∃ ws, ls[i]? = some ws := ⟨ls[i], List.getElem?_eq_getElem hlt⟩
      have hl1 := hl w1 hf
      obtain ⟨bb, off, cap, ob, hlv1, hob, hbl, hrw, hcell⟩ := hl1.sl.read one1_len i v hv
      have hc0 := fun orig K => hcell 0 v orig K rfl
      simp only [Nat.add_zero, Nat.mul_one] at hc0
      have hfold : (ls.take (i + 1)).foldl step (st, []) = step p ws := by
        rw [List.take_add_one, hws, List.foldl_append, ← hp]; rfl
      obtain ⟨va, vc, hvf⟩ := (hl1.at_ i v ws hv hws).form
      have hvl' : decide ((i : Int) < (vs.length : Int)) = true := decide_eq_true i1
      simp (maxSteps := 4000000) (disch := (first | assumption | exact List.not_mem_nil | exact Fr.refl _ _ | ((repeat (first | assumption | apply cur_alloc | apply cur_setB | apply cur_drew | apply cur_drewN)); done) | omega | (simp only [gz, Value.cells, oneC]; first | done | omega) | ((simp only [List.mem_cons, List.not_mem_nil, or_false, gz]); omega) | rfl)) only [↓gsd, gs, ev, Nat.reduceAdd, Nat.reduceEqDiff, oneC, Value.cells, Option.isNone, gt, ↓hk17, e0, e1, e6, e7, hlv1, hvl', i0, i1, Int.toNat_natCast, Nat.mul_one, hob, hc0]
      refine commit_spec hst hswf (fun w'' hf'' => (hl w'' (hf.transM hf'')).at_ i v ws hv hws) fun w2 hf2 hst2 => ?_
      have cw2 := cur w2
      have hz2 := hf2.size
      by_cases he : (p.1.commit ws).1.2 = 0
      · obtain ⟨hn1, hn2, hn3⟩ := commit_ok he
        have hs : step p ws = ((p.1.commit ws).2, p.2 ++ [ws]) := by simp [step, he]
        subst hvf
        have hnot : ∀ x ∈ [b, bm], vo.ownBlock ≠ some x := fun x hx e => by
          have := hfresh x e
          simp at hx; omega
        have hown2 := hown.fr hf2 hnot
        generalize hW : w2.alloc (.cells ([.slice va ws.length vc] : List Value).toArray 40) = w3
        have hf3 : Fr [] w2 w3 := by rw [← hW]; (repeat (first | exact Fr.refl _ _ | assumption | with_reducible apply Fr.alloc | with_reducible apply Fr.drew | with_reducible refine Fr.setB ?_ _ _ (.inr (by first | omega | (simp only [gz]; omega))) | with_reducible refine Fr.setB ?_ _ _ (.inl (by first | assumption | simp)) | with_reducible refine Fr.trans' ?_ (by assumption)))
        have hz3 := hf3.size
        have hsl : Sl 1 w3 (.slice (some ⟨w2.heap.size, 0, none⟩) 1 1) 1 [.slice va ws.length vc] := by rw [← hW]; exact ⟨rfl, .inr ⟨_, 0, 1, _, 40, (0, 0), rfl, get_alloc_new _ _, rfl⟩⟩
        have hown3 := hown2.fr hf3 (by simp)
        obtain ⟨v4, w4, hr4, hown4, hf4, hbk⟩ := ap22 (ty := 22) hown3 hsl rfl (by have := hswf.l1; omega)
        have cw4 := cur w4
        have hz4 := hf4.size
        have hnb : ∀ x, x < w.heap.size → x ∉ blkL vo := fun x hx hm => by
          unfold blkL at hm
          split at hm
          · rename_i g hg
            have := hfresh g hg
            simp at hm; omega
          · simp at hm
        have hst4 := (hst2.frN hf3).fr hf4 (hnb b hb0) (hnb bm hbm0) (own_blk hown3 (by decide))
        obtain ⟨a4, c4, hv4⟩ := hown4.sl.form
        obtain ⟨bb2, off2, cap2, ob2, hlv2, hob2, hbl2, hrw2, hcell2⟩ := (hl w2 (hf.transM hf2)).sl.read one1_len i _ hv
        have hc2 := fun orig K => hcell2 0 _ orig K rfl
        simp only [Nat.add_zero, Nat.mul_one] at hc2
        have hd1 : decide (p.1.last + 1 = ((vso.length + 1 : Nat) : Int)) = true := decide_eq_true (by omega)
        simp (maxSteps := 4000000) (disch := (first | assumption | exact List.not_mem_nil | exact Fr.refl _ _ | ((repeat (first | assumption | apply cur_alloc | apply cur_setB | apply cur_drew | apply cur_drewN)); done) | omega | (simp only [gz, Value.cells, oneC]; first | done | omega) | ((simp only [List.mem_cons, List.not_mem_nil, or_false, gz]); omega) | rfl)) only [↓gsd, gs, ev, Nat.reduceAdd, Nat.reduceEqDiff, oneC, Value.cells, Option.isNone, gt, ↓hk17, e0, e1, e6, e7, hn1, he, hlv2, i0, i1, Int.toNat_natCast, Nat.mul_one, hob2, hc2, hW, hr4, hv4, hd1]
        refine last_spec hst4 ?_
        rw [hn2]
        simp (maxSteps := 4000000) (disch := (first | assumption | exact List.not_mem_nil | exact Fr.refl _ _ | ((repeat (first | assumption | apply cur_alloc | apply cur_setB | apply cur_drew | apply cur_drewN)); done) | omega | (simp only [gz, Value.cells, oneC]; first | done | omega) | ((simp only [List.mem_cons, List.not_mem_nil, or_false, gz]); omega) | rfl)) only [↓gsd, gs, ev, Nat.reduceAdd, Nat.reduceEqDiff, oneC, Value.cells, Option.isNone, gt, ↓hk17, e0, e1, e6, e7]
        rw [← hv4]
        have hF4 : Fr [b, bm] w w4 := ((hf.transM hf2).trans' hf3).trans hf4 fun x hx => .inr (Nat.le_of_not_lt fun h => hnb x h hx)
        refine hk _ _ ⟨i + 1, v4, vso ++ [.slice va ws.length vc], by omega, ?_⟩ ?_
        · rw [hfold, hs]
          simp (maxSteps := 4000000) (disch := (first | assumption | exact List.not_mem_nil | exact Fr.refl _ _ | ((repeat (first | assumption | apply cur_alloc | apply cur_setB | apply cur_drew | apply cur_drewN)); done) | omega | (simp only [gz, Value.cells, oneC]; first | done | omega) | ((simp only [List.mem_cons, List.not_mem_nil, or_false, gz]); omega) | rfl)) only [↓gsd, gs, ev, Nat.reduceAdd, Nat.reduceEqDiff, oneC, Value.cells, Option.isNone, e0, e1, e6, e7, Int.natCast_add, Int.natCast_one]
          refine ⟨by simpa using hown4, fun g hg => ?_, hst4, hswf.commit ws, ?_, ?_, ?_, hF4⟩
          · rcases hbk with h | ⟨g', h1, h2⟩
            · exact hfresh g (h ▸ hg)
            · rw [h1] at hg; cases hg; omega
          · rw [hn2]; simp; omega
          · simp; omega
          · intro j v ws' h1 h2 w'' hf''
            rcases Nat.lt_or_ge j vso.length with hj | hj
            · rw [List.getElem?_append_left hj] at h1
              rw [List.getElem?_append_left (by omega)] at h2
              exact hat j v ws' h1 h2 w'' hf''
            · rw [List.getElem?_append_right hj] at h1
              rw [List.getElem?_append_right (by omega), ← hvl] at h2
              obtain ⟨hj0, h1⟩ : j - vso.length = 0 ∧ v = .slice va ws.length vc := by
                cases hq : j - vso.length with
                | zero => rw [hq] at h1; simp at h1; exact ⟨rfl, h1.symm⟩
                | succ q => rw [hq] at h1; simp at h1
              rw [hj0] at h2
              simp at h2
              subst h2
              subst h1
              exact (hl w'' hf'').at_ i _ ws hv hws
        · have e3 : ((i : Int) + 1).toNat = i + 1 := by omega
          simp (maxSteps := 4000000) (disch := (first | assumption | exact List.not_mem_nil | exact Fr.refl _ _ | ((repeat (first | assumption | apply cur_alloc | apply cur_setB | apply cur_drew | apply cur_drewN)); done) | omega | (simp only [gz, Value.cells, oneC]; first | done | omega) | ((simp only [List.mem_cons, List.not_mem_nil, or_false, gz]); omega) | rfl)) only [↓gsd, gs, ev, Nat.reduceAdd, Nat.reduceEqDiff, oneC, Value.cells, Option.isNone, e7, numOf, Int.toNat_natCast, e3]; omega
      · obtain ⟨hn0, hst0⟩ := commit_err he
        rw [hst0] at hst2
        have he' : decide ((p.1.commit ws).1.2 = 0) = false := decide_eq_false he
        have hs : step p ws = p := by simp [step, he]
        simp (maxSteps := 4000000) (disch := (first | assumption | exact List.not_mem_nil | exact Fr.refl _ _ | ((repeat (first | assumption | apply cur_alloc | apply cur_setB | apply cur_drew | apply cur_drewN)); done) | omega | (simp only [gz, Value.cells, oneC]; first | done | omega) | ((simp only [List.mem_cons, List.not_mem_nil, or_false, gz]); omega) | rfl)) only [↓gsd, gs, ev, Nat.reduceAdd, Nat.reduceEqDiff, oneC, Value.cells, Option.isNone, gt, ↓hk17, e0, e1, e6, e7, hn0, he']
        refine hk _ _ ⟨i + 1, vo, vso, by omega, ?_⟩ ?_
        · rw [hfold, hs]
          simp (maxSteps := 4000000) (disch := (first | assumption | exact List.not_mem_nil | exact Fr.refl _ _ | ((repeat (first | assumption | apply cur_alloc | apply cur_setB | apply cur_drew | apply cur_drewN)); done) | omega | (simp only [gz, Value.cells, oneC]; first | done | omega) | ((simp only [List.mem_cons, List.not_mem_nil, or_false, gz]); omega) | rfl)) only [↓gsd, gs, ev, Nat.reduceAdd, Nat.reduceEqDiff, oneC, Value.cells, Option.isNone, e0, e1, e6, e7, Int.natCast_add, Int.natCast_one]
          exact ⟨hown.fr hf2 fun x hx e => by
            have := hfresh x e
            simp at hx; omega, hfresh, hst2, hswf, hlast, hvl, hat, hf.transM hf2⟩
        · have e3 : ((i : Int) + 1).toNat = i + 1 := by omega
          simp (maxSteps := 4000000) (disch := (first | assumption | exact List.not_mem_nil | exact Fr.refl _ _ | ((repeat (first | assumption | apply cur_alloc | apply cur_setB | apply cur_drew | apply cur_drewN)); done) | omega | (simp only [gz, Value.cells, oneC]; first | done | omega) | ((simp only [List.mem_cons, List.not_mem_nil, or_false, gz]); omega) | rfl)) only [↓gsd, gs, ev, Nat.reduceAdd, Nat.reduceEqDiff, oneC, Value.cells, Option.isNone, e7, numOf, Int.toNat_natCast, e3]; omega
    · have el : decide ((i : Int) < (ls.length : Int)) = false := decide_eq_false (by omega)
      have hw0 : ls.take i = ls := List.take_of_length_le (by omega)
      rw [hw0] at hp
      have hp' : p = doneP st ls := hp
      rw [hp'] at hst hvl hat
      have hK' := hK vo vso w1 hf hst ⟨?_, hvl, fun j v ws h1 h2 => hat j v ws h1 h2 w1 hf⟩
      · have hvlen := hl0.len
        have el' : decide ((i : Int) < (vs.length : Int)) = false := decide_eq_false (by omega)
        simp (maxSteps := 4000000) (disch := (first | assumption | exact List.not_mem_nil | exact Fr.refl _ _ | ((repeat (first | assumption | apply cur_alloc | apply cur_setB | apply cur_drew | apply cur_drewN)); done) | omega | (simp only [gz, Value.cells, oneC]; first | done | omega) | ((simp only [List.mem_cons, List.not_mem_nil, or_false, gz]); omega) | rfl)) only [↓gsd, gs, ev, Nat.reduceAdd, Nat.reduceEqDiff, oneC, Value.cells, Option.isNone, gt, ↓hk17, e0, e1, e6, e7, hlv, el']
        exact hK'
      · have := hown.sl
        unfold SlOf
        rw [cellsOf_one1]; exact this
end Go.Proofs.Ytenokheiindfkaa
