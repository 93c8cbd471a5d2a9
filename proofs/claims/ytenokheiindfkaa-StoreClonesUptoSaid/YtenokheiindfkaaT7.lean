/- Versions, Keys; the reference's Keys. -/
import Derived.Test.YtenokheiindfkaaT6
set_option linter.unusedVariables false
set_option linter.unusedSimpArgs false
set_option maxRecDepth 10000
namespace Go.Proofs.Ytenokheiindfkaa
open Go.VW
theorem versions_spec {b bm : Nat} {st : St} {w : World} {key : ByteArray} {K : Value → World → Prop} (h : StoreAt w b bm st) (hl : (st.row key).list.length ≤ 1000000)
    (hK : ∀ v w', Own 3 106 w' v (st.row key).list.length (cellsOf encVer (st.row key).list) → (∀ g, v.ownBlock = some g → w.heap.size ≤ g) → Fr [] w w' → K v w') : CallsN Try.prog 24 [.pointer (some ⟨b, 0, none⟩), .string key] w K := by
  have cw := cur w
  have hb := h.head
  have hlt := lt_of_get _ _ hb
  obtain ⟨es, hm, s, hv, hs, _⟩ := h.get key
  have hlk := map_lookup Try.runUnderlying109 k9 Try.zeroValue114 hm key
  rw [hv] at hlk
  obtain ⟨a, c, hsf⟩ := hs.form
  rw [hsf] at hlk
  refine call24 ?_
  simp (maxSteps := 4000000) (disch := (first | assumption | exact List.not_mem_nil | exact Fr.refl _ _ | ((repeat (first | assumption | apply cur_alloc | apply cur_setB | apply cur_drew | apply cur_drewN)); done) | omega | (simp only [gz, Value.cells, oneC]; first | done | omega) | ((simp only [List.mem_cons, List.not_mem_nil, or_false, gz]); omega) | rfl)) only [↓gsd, gs, ev, Nat.reduceAdd, Nat.reduceEqDiff, oneC, Value.cells, Option.isNone, gt, frT_self, frT_drew, frT_drew0, frT_alloc, ↓hk24, hb, hlk]
  rw [← hsf]
  refine clone_spec hs hl fun v2 w2 hown hf hfr => ?_
  have cw2 := cur w2
  try simp (maxSteps := 4000000) (disch := (first | assumption | exact List.not_mem_nil | exact Fr.refl _ _ | ((repeat (first | assumption | apply cur_alloc | apply cur_setB | apply cur_drew | apply cur_drewN)); done) | omega | (simp only [gz, Value.cells, oneC]; first | done | omega) | ((simp only [List.mem_cons, List.not_mem_nil, or_false, gz]); omega) | rfl)) only [↓gsd, gs, ev, Nat.reduceAdd, Nat.reduceEqDiff, oneC, Value.cells, Option.isNone, gt, frT_self, frT_drew, frT_drew0, frT_alloc, ↓hk24]
  exact hK _ _ hown hfr hf
theorem keys_spec {b bm : Nat} {st : St} {w : World} {K : Value → World → Prop} (h : StoreAt w b bm st) (hk : ∀ k ∈ st.rows.map (·.1), k.size ≤ 32) (hn : st.rows.length ≤ 100000000)
    (hK : ∀ v w', Own 1 9 w' v (keysOf (st.rows.map (·.1))).length ((keysOf (st.rows.map (·.1))).map Value.string) → (∀ g, v.ownBlock = some g → w.heap.size ≤ g) → Fr [] w w' → K v w') : CallsN Try.prog 49 [.pointer (some ⟨b, 0, none⟩)] w K := by
  have cw := cur w
  have hb := h.head
  have hlt := lt_of_get _ _ hb
  obtain ⟨es, hm, hke, _⟩ := h.rows
  refine call49 ?_
  simp (maxSteps := 4000000) (disch := (first | assumption | exact List.not_mem_nil | exact Fr.refl _ _ | ((repeat (first | assumption | apply cur_alloc | apply cur_setB | apply cur_drew | apply cur_drewN)); done) | omega | (simp only [gz, Value.cells, oneC]; first | done | omega) | ((simp only [List.mem_cons, List.not_mem_nil, or_false, gz]); omega) | rfl)) only [↓gsd, gs, ev, Nat.reduceAdd, Nat.reduceEqDiff, oneC, Value.cells, Option.isNone, gt, frT_self, frT_drew, frT_drew0, frT_alloc, ↓hk49, hb]
  refine keysRow ?_
  try simp (maxSteps := 4000000) (disch := (first | assumption | exact List.not_mem_nil | exact Fr.refl _ _ | ((repeat (first | assumption | apply cur_alloc | apply cur_setB | apply cur_drew | apply cur_drewN)); done) | omega | (simp only [gz, Value.cells, oneC]; first | done | omega) | ((simp only [List.mem_cons, List.not_mem_nil, or_false, gz]); omega) | rfl)) only [↓gsd, gs, ev, Nat.reduceAdd, Nat.reduceEqDiff, oneC, Value.cells, Option.isNone, gt, frT_self, frT_drew, frT_drew0, frT_alloc, ↓hk49]
  have hlen : es.length = st.rows.length := by have := congrArg List.length hke; simpa using this
  refine sortedRow hm (fun p hp => ?_) (by omega) fun v w' hown hf hfr => ?_
  · have := hk p.1 (by rw [← hke]; exact List.mem_map.2 ⟨p, hp, rfl⟩)
    unfold maxLen; omega
  · have cw' := cur w'
    try simp (maxSteps := 4000000) (disch := (first | assumption | exact List.not_mem_nil | exact Fr.refl _ _ | ((repeat (first | assumption | apply cur_alloc | apply cur_setB | apply cur_drew | apply cur_drewN)); done) | omega | (simp only [gz, Value.cells, oneC]; first | done | omega) | ((simp only [List.mem_cons, List.not_mem_nil, or_false, gz]); omega) | rfl)) only [↓gsd, gs, ev, Nat.reduceAdd, Nat.reduceEqDiff, oneC, Value.cells, Option.isNone, gt, frT_self, frT_drew, frT_drew0, frT_alloc, ↓hk49]
    have e : es.map (fun p => bl p.1) = (st.rows.map (·.1)).map bl := by rw [← hke, List.map_map]; rfl
    rw [e, keysOf_enc] at hown
    have hl2 : (keysOf (st.rows.map (·.1))).length = es.length := by rw [keysOf_len, List.length_map, hlen]
    refine hK _ _ ?_ hfr hf
    rw [hl2]; exact hown
def optS (o : Option ByteArray) : ByteArray := o.getD ⟨#[]⟩
theorem toList_bl (a : ByteArray) : a.toList = bl a := by rw [ByteArray.toList_eq]; rfl
theorem gts_eq (k l : ByteArray) : (!(Op.bytesLess k.toList l.toList || decide (k = l))) = true ↔ ltB l k := by
  rw [bytesLess_eq, toList_bl, toList_bl]
  simp only [Bool.not_eq_true', Bool.or_eq_false_iff, decide_eq_false_iff_not]
  constructor
  · rintro ⟨h1, h2⟩
    rcases ltB_tri k l with q | q | q
    · exact absurd q h1
    · exact absurd q h2
    · exact q
  · intro h
    exact ⟨fun q => ltB_irrefl _ (ltB_trans h q), fun q => by subst q; exact ltB_irrefl _ h⟩
theorem lts_eq (k l : ByteArray) : Op.bytesLess k.toList l.toList = true ↔ ltB k l := by
  rw [bytesLess_eq, toList_bl, toList_bl, decide_eq_true_eq]; rfl
def pKeys (ps : List Past) : List ByteArray := ps.map (·.2.key)
set_option maxHeartbeats 32000000 in
theorem r5keys {w : World} {rb most : Nat} {v : Value} {own : List (List Wr)} {S : List ByteArray} {K : Value → World → Prop} (h : R5At w rb v most own) (hl : (past own).length ≤ 100000000) (hs : S.Pairwise ltB) (hm : ∀ s, s ∈ S ↔ s ∈ pKeys (past own)) (hne : ∀ s ∈ pKeys (past own), s ≠ ⟨#[]⟩) (hSl : S.length ≤ 100000000)
    (hK : ∀ vo w', Own 1 9 w' vo S.length (cellsOf encS S) → (∀ g, vo.ownBlock = some g → w.heap.size ≤ g) → Fr [] w w' → K vo w') : CallsN Try.prog 50 [.pointer (some ⟨rb, 0, none⟩)] w K := by
  have cw := cur w
  obtain ⟨va, vc, hv⟩ := h.own.sl.form
  have hh := h.head
  have hlt := lt_of_get _ _ hh
  rw [hv] at hh
  obtain ⟨ps, hps⟩ : ∃ ps, ps = past own := ⟨_, rfl⟩
  have how := h.own
  rw [← hps] at hh how hl hv hm hne
  refine call50 ?_
  simp (maxSteps := 4000000) (disch := (first | assumption | exact List.not_mem_nil | exact Fr.refl _ _ | ((repeat (first | assumption | apply cur_alloc | apply cur_setB | apply cur_drew | apply cur_drewN)); done) | omega | (simp only [gz, Value.cells, oneC]; first | done | omega) | ((simp only [List.mem_cons, List.not_mem_nil, or_false, gz]); omega) | rfl)) only [↓gsd, gs, ev, Nat.reduceAdd, Nat.reduceEqDiff, oneC, Value.cells, Option.isNone, gt, frT_self, frT_drew, frT_drew0, frT_alloc, ↓hk50]
  refine loop_intro (fun e w' => ∃ (i : Nat) (vo : Value), i ≤ S.length ∧ e 0 = .pointer (some ⟨rb, 0, none⟩) ∧ e 3 = vo ∧ Own 1 9 w' vo i (cellsOf encS (S.take i)) ∧ (∀ g, vo.ownBlock = some g → w.heap.size ≤ g) ∧ Fr [] w w') (fun e _ => S.length + 1 - (match e 3 with | .slice _ n _ => n | _ => 0)) ?_ ?_
  · refine ⟨0, .slice none 0 0, Nat.zero_le _, ?_⟩
    simp (maxSteps := 4000000) (disch := (first | assumption | exact List.not_mem_nil | exact Fr.refl _ _ | ((repeat (first | assumption | apply cur_alloc | apply cur_setB | apply cur_drew | apply cur_drewN)); done) | omega | (simp only [gz, Value.cells, oneC]; first | done | omega) | ((simp only [List.mem_cons, List.not_mem_nil, or_false, gz]); omega) | rfl)) only [↓gsd, gs, ev, Nat.reduceAdd, Nat.reduceEqDiff, oneC, Value.cells, Option.isNone]
    exact ⟨Own.nil, fun b hb => by simp [Value.ownBlock] at hb, Fr.refl _ _⟩
  rintro e w1 k ⟨i, vo, hi, e0, e3, hown, hfr, hf⟩ hk
  have cw1 := cur w1
  have hz1 := hf.size
  obtain ⟨oa, oc, hvo⟩ := hown.sl.form
  have E3 := e3
  obtain ⟨last, hlast⟩ : ∃ last, last = if i = 0 then none else S[i - 1]? := ⟨_, rfl⟩
  have hnx := knext hs hm i hlast hi
  simp (maxSteps := 4000000) (disch := (first | assumption | exact List.not_mem_nil | exact Fr.refl _ _ | ((repeat (first | assumption | apply cur_alloc | apply cur_setB | apply cur_drew | apply cur_drewN)); done) | omega | (simp only [gz, Value.cells, oneC]; first | done | omega) | ((simp only [List.mem_cons, List.not_mem_nil, or_false, gz]); omega) | rfl)) only [↓gsd, gs, ev, Nat.reduceAdd, Nat.reduceEqDiff, oneC, Value.cells, Option.isNone, gt, frT_self, frT_drew, frT_drew0, frT_alloc, ↓hk50, e0, e3]
  refine loop_intro (fun e w' => ∃ j : Nat, j ≤ ps.length ∧ e 0 = .pointer (some ⟨rb, 0, none⟩) ∧ e 3 = vo ∧ e 4 = .string (optS ((pKeys (ps.take j)).foldl (kstep last) none)) ∧ e 5 = .int .i64 j ∧ Fr [] w1 w') (fun e _ => ps.length - (numOf (e 5)).toNat) ?_ ?_
  · refine ⟨0, Nat.zero_le _, ?_⟩
    simp (maxSteps := 4000000) (disch := (first | assumption | exact List.not_mem_nil | exact Fr.refl _ _ | ((repeat (first | assumption | apply cur_alloc | apply cur_setB | apply cur_drew | apply cur_drewN)); done) | omega | (simp only [gz, Value.cells, oneC]; first | done | omega) | ((simp only [List.mem_cons, List.not_mem_nil, or_false, gz]); omega) | rfl)) only [↓gsd, gs, ev, Nat.reduceAdd, Nat.reduceEqDiff, oneC, Value.cells, Option.isNone, e0, e3, Int.natCast_zero]
    exact ⟨rfl, Fr.refl _ _⟩
  rintro e w3 k' ⟨j, hj, e0, e3, e4, e5, hf3⟩ hk'
  have cw3 := cur w3
  have hh3 := (hf.trans' hf3).getN hh
  have hlt3 := lt_of_get _ _ hh3
  have hown3 := Own.frN hown hf3
  by_cases hjl : j < ps.length
  · have dj : decide ((j : Int) < (ps.length : Int)) = true := decide_eq_true (by omega)
    have j0 : (0 : Int) ≤ (j : Int) := by omega
    have j1 : (j : Int) < (ps.length : Int) := by omega
    have j3 : ((j : Int) + 1).toNat = j + 1 := by omega
    obtain ⟨p, hp⟩ : ∃ p, ps[j]? = some p := ⟨ps[j], List.getElem?_eq_getElem hjl⟩
    obtain ⟨bx, ox, px, obx, hvx, hbx, hblx, _, hkx, _⟩ := past_read (show SlOf 4 encPast w3 v ps from how.sl.frN (hf.trans' hf3)) hp
    rw [hv] at hvx
    simp only [Value.slice.injEq] at hvx
    obtain ⟨rfl, _, rfl⟩ := hvx
    obtain ⟨best, hbest⟩ : ∃ best, best = (pKeys (ps.take j)).foldl (kstep last) none := ⟨_, rfl⟩
    rw [← hbest] at e4
    have hpk : ∀ x, x ∈ pKeys ps → x ≠ ⟨#[]⟩ := hne
    have hbne : ∀ b, best = some b → b ≠ ⟨#[]⟩ := fun b hb => by
      have := (kfold last (pKeys (ps.take j)) none).1
      rw [← hbest, hb] at this
      rcases this with q | ⟨r, q1, q2, _⟩
      · cases q
      · cases q1
        refine hpk b ?_
        unfold pKeys at q2 ⊢
        obtain ⟨y, hy, rfl⟩ := List.mem_map.1 q2
        exact List.mem_map.2 ⟨y, List.mem_of_mem_take hy, rfl⟩
    have htk : (pKeys (ps.take (j + 1))).foldl (kstep last) none = kstep last best p.2.key := by
      have : ps.take (j + 1) = ps.take j ++ [p] := by rw [List.take_add_one, hp]; rfl
      rw [this, hbest]
      unfold pKeys
      rw [List.map_append, List.foldl_append]; rfl
    by_cases hi0 : i = 0
    · have di : decide ((i : Int) = 0) = true := decide_eq_true (by omega)
      have hln : last = none := by rw [hlast, if_pos hi0]
      cases hbo : best with
      | none =>
        have db : decide ((optS none) = ⟨#[]⟩) = true := rfl
        rw [hbo] at e4
        simp (maxSteps := 4000000) (disch := (first | assumption | exact List.not_mem_nil | exact Fr.refl _ _ | ((repeat (first | assumption | apply cur_alloc | apply cur_setB | apply cur_drew | apply cur_drewN)); done) | omega | (simp only [gz, Value.cells, oneC]; first | done | omega) | ((simp only [List.mem_cons, List.not_mem_nil, or_false, gz]); omega) | rfl)) only [↓gsd, gs, ev, Nat.reduceAdd, Nat.reduceEqDiff, oneC, Value.cells, Option.isNone, gt, frT_self, frT_drew, frT_drew0, frT_alloc, ↓hk50, run_gts, e0, e3, e4, e5, hvo, hh3, dj, j0, j1, Int.toNat_natCast, hbx, hkx, di, db]
        refine hk' _ _ ⟨j + 1, by omega, ?_⟩ ?_
        · rw [htk, hbo, show kstep last none p.2.key = some p.2.key from by unfold kstep; rw [if_pos ⟨(fun l hl => by rw [hln] at hl; cases hl), (fun b hb => by cases hb)⟩]]
          simp (maxSteps := 4000000) (disch := (first | assumption | exact List.not_mem_nil | exact Fr.refl _ _ | ((repeat (first | assumption | apply cur_alloc | apply cur_setB | apply cur_drew | apply cur_drewN)); done) | omega | (simp only [gz, Value.cells, oneC]; first | done | omega) | ((simp only [List.mem_cons, List.not_mem_nil, or_false, gz]); omega) | rfl)) only [↓gsd, gs, ev, Nat.reduceAdd, Nat.reduceEqDiff, oneC, Value.cells, Option.isNone, e0, e3, e4, e5, hvo, optS, Int.natCast_add j 1, Int.natCast_one]
          exact hf3
        · simp (maxSteps := 4000000) (disch := (first | assumption | exact List.not_mem_nil | exact Fr.refl _ _ | ((repeat (first | assumption | apply cur_alloc | apply cur_setB | apply cur_drew | apply cur_drewN)); done) | omega | (simp only [gz, Value.cells, oneC]; first | done | omega) | ((simp only [List.mem_cons, List.not_mem_nil, or_false, gz]); omega) | rfl)) only [↓gsd, gs, ev, Nat.reduceAdd, Nat.reduceEqDiff, oneC, Value.cells, Option.isNone, e5, numOf, Int.toNat_natCast, j3]; omega
      | some b =>
        have db : decide ((optS (some b)) = ⟨#[]⟩) = false := decide_eq_false (hbne b hbo)
        rw [hbo] at e4
        by_cases hlt : ltB p.2.key b
        · have dl : Op.bytesLess p.2.key.toList (optS (some b)).toList = true := (lts_eq _ _).2 hlt
          simp (maxSteps := 4000000) (disch := (first | assumption | exact List.not_mem_nil | exact Fr.refl _ _ | ((repeat (first | assumption | apply cur_alloc | apply cur_setB | apply cur_drew | apply cur_drewN)); done) | omega | (simp only [gz, Value.cells, oneC]; first | done | omega) | ((simp only [List.mem_cons, List.not_mem_nil, or_false, gz]); omega) | rfl)) only [↓gsd, gs, ev, Nat.reduceAdd, Nat.reduceEqDiff, oneC, Value.cells, Option.isNone, gt, frT_self, frT_drew, frT_drew0, frT_alloc, ↓hk50, run_gts, e0, e3, e4, e5, hvo, hh3, dj, j0, j1, Int.toNat_natCast, hbx, hkx, di, db, dl]
          refine hk' _ _ ⟨j + 1, by omega, ?_⟩ ?_
          · rw [htk, hbo, show kstep last (some b) p.2.key = some p.2.key from by unfold kstep; rw [if_pos ⟨(fun l hl => by rw [hln] at hl; cases hl), (fun b' hb => by cases hb; exact hlt)⟩]]
            simp (maxSteps := 4000000) (disch := (first | assumption | exact List.not_mem_nil | exact Fr.refl _ _ | ((repeat (first | assumption | apply cur_alloc | apply cur_setB | apply cur_drew | apply cur_drewN)); done) | omega | (simp only [gz, Value.cells, oneC]; first | done | omega) | ((simp only [List.mem_cons, List.not_mem_nil, or_false, gz]); omega) | rfl)) only [↓gsd, gs, ev, Nat.reduceAdd, Nat.reduceEqDiff, oneC, Value.cells, Option.isNone, e0, e3, e4, e5, hvo, optS, Int.natCast_add j 1, Int.natCast_one]
            exact hf3
          · simp (maxSteps := 4000000) (disch := (first | assumption | exact List.not_mem_nil | exact Fr.refl _ _ | ((repeat (first | assumption | apply cur_alloc | apply cur_setB | apply cur_drew | apply cur_drewN)); done) | omega | (simp only [gz, Value.cells, oneC]; first | done | omega) | ((simp only [List.mem_cons, List.not_mem_nil, or_false, gz]); omega) | rfl)) only [↓gsd, gs, ev, Nat.reduceAdd, Nat.reduceEqDiff, oneC, Value.cells, Option.isNone, e5, numOf, Int.toNat_natCast, j3]; omega
        · have dl : Op.bytesLess p.2.key.toList (optS (some b)).toList = false := by
            cases hq : Op.bytesLess p.2.key.toList (optS (some b)).toList with
            | false => rfl
            | true => exact absurd ((lts_eq _ _).1 hq) hlt
          simp (maxSteps := 4000000) (disch := (first | assumption | exact List.not_mem_nil | exact Fr.refl _ _ | ((repeat (first | assumption | apply cur_alloc | apply cur_setB | apply cur_drew | apply cur_drewN)); done) | omega | (simp only [gz, Value.cells, oneC]; first | done | omega) | ((simp only [List.mem_cons, List.not_mem_nil, or_false, gz]); omega) | rfl)) only [↓gsd, gs, ev, Nat.reduceAdd, Nat.reduceEqDiff, oneC, Value.cells, Option.isNone, gt, frT_self, frT_drew, frT_drew0, frT_alloc, ↓hk50, run_gts, e0, e3, e4, e5, hvo, hh3, dj, j0, j1, Int.toNat_natCast, hbx, hkx, di, db, dl]
          refine hk' _ _ ⟨j + 1, by omega, ?_⟩ ?_
          · rw [htk, hbo, show kstep last (some b) p.2.key = some b from by unfold kstep; rw [if_neg fun hh => hlt (hh.2 b rfl)]]
            simp (maxSteps := 4000000) (disch := (first | assumption | exact List.not_mem_nil | exact Fr.refl _ _ | ((repeat (first | assumption | apply cur_alloc | apply cur_setB | apply cur_drew | apply cur_drewN)); done) | omega | (simp only [gz, Value.cells, oneC]; first | done | omega) | ((simp only [List.mem_cons, List.not_mem_nil, or_false, gz]); omega) | rfl)) only [↓gsd, gs, ev, Nat.reduceAdd, Nat.reduceEqDiff, oneC, Value.cells, Option.isNone, e0, e3, e4, e5, hvo, optS, Int.natCast_add j 1, Int.natCast_one]
            exact hf3
          · simp (maxSteps := 4000000) (disch := (first | assumption | exact List.not_mem_nil | exact Fr.refl _ _ | ((repeat (first | assumption | apply cur_alloc | apply cur_setB | apply cur_drew | apply cur_drewN)); done) | omega | (simp only [gz, Value.cells, oneC]; first | done | omega) | ((simp only [List.mem_cons, List.not_mem_nil, or_false, gz]); omega) | rfl)) only [↓gsd, gs, ev, Nat.reduceAdd, Nat.reduceEqDiff, oneC, Value.cells, Option.isNone, e5, numOf, Int.toNat_natCast, j3]; omega
    · have di : decide ((i : Int) = 0) = false := decide_eq_false (by omega)
      obtain ⟨l, hll⟩ : ∃ l, S[i - 1]? = some l := ⟨S[i - 1]'(by omega), List.getElem?_eq_getElem (by omega)⟩
      have hln : last = some l := by rw [hlast, if_neg hi0, hll]
      have htl : (S.take i)[i - 1]? = some l := by rw [List.getElem?_take, if_pos (by omega)]; exact hll
      have htln : (S.take i).length = i := by rw [List.length_take]; omega
      obtain ⟨b9, off9, cap9, o9, hv9, ho9, hlt9, _, hc9⟩ := (show SlOf 1 encS w3 vo (S.take i) from by unfold SlOf; rw [htln]; exact hown3.sl).read encS_len (i - 1) l htl
      have hc9' := fun orig K => hc9 0 (.string l) orig K rfl
      simp only [Nat.mul_one, Nat.add_zero] at hc9'
      rw [htln, hvo] at hv9
      simp only [Value.slice.injEq] at hv9
      obtain ⟨rfl, _, rfl⟩ := hv9
      have wi : IntKind.i64.wrap ((i : Int) - 1) = ((i - 1 : Nat) : Int) := by rw [wrap64 (by omega) (by omega)]; omega
      have n0 : (0 : Int) ≤ ((i - 1 : Nat) : Int) := by omega
      have n1 : ((i - 1 : Nat) : Int) < (i : Int) := by omega
      by_cases hgt : ltB l p.2.key
      · have dg : (!(Op.bytesLess p.2.key.toList l.toList || decide (p.2.key = l))) = true := (gts_eq _ _).2 hgt
        cases hbo : best with
        | none =>
          have db : decide ((optS none) = ⟨#[]⟩) = true := rfl
          rw [hbo] at e4
          simp (maxSteps := 4000000) (disch := (first | assumption | exact List.not_mem_nil | exact Fr.refl _ _ | ((repeat (first | assumption | apply cur_alloc | apply cur_setB | apply cur_drew | apply cur_drewN)); done) | omega | (simp only [gz, Value.cells, oneC]; first | done | omega) | ((simp only [List.mem_cons, List.not_mem_nil, or_false, gz]); omega) | rfl)) only [↓gsd, gs, ev, Nat.reduceAdd, Nat.reduceEqDiff, oneC, Value.cells, Option.isNone, gt, frT_self, frT_drew, frT_drew0, frT_alloc, ↓hk50, run_gts, e0, e3, e4, e5, hvo, hh3, dj, j0, j1, Int.toNat_natCast, hbx, hkx, di, wi, n0, n1, Nat.mul_one, ho9, hc9', dg, db]
          refine hk' _ _ ⟨j + 1, by omega, ?_⟩ ?_
          · rw [htk, hbo, show kstep last none p.2.key = some p.2.key from by unfold kstep; rw [if_pos ⟨(fun l' hl => by rw [hln] at hl; cases hl; exact hgt), (fun b hb => by cases hb)⟩]]
            simp (maxSteps := 4000000) (disch := (first | assumption | exact List.not_mem_nil | exact Fr.refl _ _ | ((repeat (first | assumption | apply cur_alloc | apply cur_setB | apply cur_drew | apply cur_drewN)); done) | omega | (simp only [gz, Value.cells, oneC]; first | done | omega) | ((simp only [List.mem_cons, List.not_mem_nil, or_false, gz]); omega) | rfl)) only [↓gsd, gs, ev, Nat.reduceAdd, Nat.reduceEqDiff, oneC, Value.cells, Option.isNone, e0, e3, e4, e5, hvo, optS, Int.natCast_add j 1, Int.natCast_one]
            exact hf3
          · simp (maxSteps := 4000000) (disch := (first | assumption | exact List.not_mem_nil | exact Fr.refl _ _ | ((repeat (first | assumption | apply cur_alloc | apply cur_setB | apply cur_drew | apply cur_drewN)); done) | omega | (simp only [gz, Value.cells, oneC]; first | done | omega) | ((simp only [List.mem_cons, List.not_mem_nil, or_false, gz]); omega) | rfl)) only [↓gsd, gs, ev, Nat.reduceAdd, Nat.reduceEqDiff, oneC, Value.cells, Option.isNone, e5, numOf, Int.toNat_natCast, j3]; omega
        | some b =>
          have db : decide ((optS (some b)) = ⟨#[]⟩) = false := decide_eq_false (hbne b hbo)
          rw [hbo] at e4
          by_cases hlt : ltB p.2.key b
          · have dl : Op.bytesLess p.2.key.toList (optS (some b)).toList = true := (lts_eq _ _).2 hlt
            simp (maxSteps := 4000000) (disch := (first | assumption | exact List.not_mem_nil | exact Fr.refl _ _ | ((repeat (first | assumption | apply cur_alloc | apply cur_setB | apply cur_drew | apply cur_drewN)); done) | omega | (simp only [gz, Value.cells, oneC]; first | done | omega) | ((simp only [List.mem_cons, List.not_mem_nil, or_false, gz]); omega) | rfl)) only [↓gsd, gs, ev, Nat.reduceAdd, Nat.reduceEqDiff, oneC, Value.cells, Option.isNone, gt, frT_self, frT_drew, frT_drew0, frT_alloc, ↓hk50, run_gts, e0, e3, e4, e5, hvo, hh3, dj, j0, j1, Int.toNat_natCast, hbx, hkx, di, wi, n0, n1, Nat.mul_one, ho9, hc9', dg, db, dl]
            refine hk' _ _ ⟨j + 1, by omega, ?_⟩ ?_
            · rw [htk, hbo, show kstep last (some b) p.2.key = some p.2.key from by unfold kstep; rw [if_pos ⟨(fun l' hl => by rw [hln] at hl; cases hl; exact hgt), (fun b' hb => by cases hb; exact hlt)⟩]]
              simp (maxSteps := 4000000) (disch := (first | assumption | exact List.not_mem_nil | exact Fr.refl _ _ | ((repeat (first | assumption | apply cur_alloc | apply cur_setB | apply cur_drew | apply cur_drewN)); done) | omega | (simp only [gz, Value.cells, oneC]; first | done | omega) | ((simp only [List.mem_cons, List.not_mem_nil, or_false, gz]); omega) | rfl)) only [↓gsd, gs, ev, Nat.reduceAdd, Nat.reduceEqDiff, oneC, Value.cells, Option.isNone, e0, e3, e4, e5, hvo, optS, Int.natCast_add j 1, Int.natCast_one]
              exact hf3
            · simp (maxSteps := 4000000) (disch := (first | assumption | exact List.not_mem_nil | exact Fr.refl _ _ | ((repeat (first | assumption | apply cur_alloc | apply cur_setB | apply cur_drew | apply cur_drewN)); done) | omega | (simp only [gz, Value.cells, oneC]; first | done | omega) | ((simp only [List.mem_cons, List.not_mem_nil, or_false, gz]); omega) | rfl)) only [↓gsd, gs, ev, Nat.reduceAdd, Nat.reduceEqDiff, oneC, Value.cells, Option.isNone, e5, numOf, Int.toNat_natCast, j3]; omega
          · have dl : Op.bytesLess p.2.key.toList (optS (some b)).toList = false := by
              cases hq : Op.bytesLess p.2.key.toList (optS (some b)).toList with
              | false => rfl
              | true => exact absurd ((lts_eq _ _).1 hq) hlt
            simp (maxSteps := 4000000) (disch := (first | assumption | exact List.not_mem_nil | exact Fr.refl _ _ | ((repeat (first | assumption | apply cur_alloc | apply cur_setB | apply cur_drew | apply cur_drewN)); done) | omega | (simp only [gz, Value.cells, oneC]; first | done | omega) | ((simp only [List.mem_cons, List.not_mem_nil, or_false, gz]); omega) | rfl)) only [↓gsd, gs, ev, Nat.reduceAdd, Nat.reduceEqDiff, oneC, Value.cells, Option.isNone, gt, frT_self, frT_drew, frT_drew0, frT_alloc, ↓hk50, run_gts, e0, e3, e4, e5, hvo, hh3, dj, j0, j1, Int.toNat_natCast, hbx, hkx, di, wi, n0, n1, Nat.mul_one, ho9, hc9', dg, db, dl]
            refine hk' _ _ ⟨j + 1, by omega, ?_⟩ ?_
            · rw [htk, hbo, show kstep last (some b) p.2.key = some b from by unfold kstep; rw [if_neg fun hh => hlt (hh.2 b rfl)]]
              simp (maxSteps := 4000000) (disch := (first | assumption | exact List.not_mem_nil | exact Fr.refl _ _ | ((repeat (first | assumption | apply cur_alloc | apply cur_setB | apply cur_drew | apply cur_drewN)); done) | omega | (simp only [gz, Value.cells, oneC]; first | done | omega) | ((simp only [List.mem_cons, List.not_mem_nil, or_false, gz]); omega) | rfl)) only [↓gsd, gs, ev, Nat.reduceAdd, Nat.reduceEqDiff, oneC, Value.cells, Option.isNone, e0, e3, e4, e5, hvo, optS, Int.natCast_add j 1, Int.natCast_one]
              exact hf3
            · simp (maxSteps := 4000000) (disch := (first | assumption | exact List.not_mem_nil | exact Fr.refl _ _ | ((repeat (first | assumption | apply cur_alloc | apply cur_setB | apply cur_drew | apply cur_drewN)); done) | omega | (simp only [gz, Value.cells, oneC]; first | done | omega) | ((simp only [List.mem_cons, List.not_mem_nil, or_false, gz]); omega) | rfl)) only [↓gsd, gs, ev, Nat.reduceAdd, Nat.reduceEqDiff, oneC, Value.cells, Option.isNone, e5, numOf, Int.toNat_natCast, j3]; omega
      · have dg : (!(Op.bytesLess p.2.key.toList l.toList || decide (p.2.key = l))) = false := by
          cases hq : (!(Op.bytesLess p.2.key.toList l.toList || decide (p.2.key = l))) with
          | false => rfl
          | true => exact absurd ((gts_eq _ _).1 hq) hgt
        simp (maxSteps := 4000000) (disch := (first | assumption | exact List.not_mem_nil | exact Fr.refl _ _ | ((repeat (first | assumption | apply cur_alloc | apply cur_setB | apply cur_drew | apply cur_drewN)); done) | omega | (simp only [gz, Value.cells, oneC]; first | done | omega) | ((simp only [List.mem_cons, List.not_mem_nil, or_false, gz]); omega) | rfl)) only [↓gsd, gs, ev, Nat.reduceAdd, Nat.reduceEqDiff, oneC, Value.cells, Option.isNone, gt, frT_self, frT_drew, frT_drew0, frT_alloc, ↓hk50, run_gts, e0, e3, e4, e5, hvo, hh3, dj, j0, j1, Int.toNat_natCast, hbx, hkx, di, wi, n0, n1, Nat.mul_one, ho9, hc9', dg]
        refine hk' _ _ ⟨j + 1, by omega, ?_⟩ ?_
        · rw [htk, show kstep last best p.2.key = best from by unfold kstep; rw [if_neg fun hh => hgt (hh.1 l hln)]]
          simp (maxSteps := 4000000) (disch := (first | assumption | exact List.not_mem_nil | exact Fr.refl _ _ | ((repeat (first | assumption | apply cur_alloc | apply cur_setB | apply cur_drew | apply cur_drewN)); done) | omega | (simp only [gz, Value.cells, oneC]; first | done | omega) | ((simp only [List.mem_cons, List.not_mem_nil, or_false, gz]); omega) | rfl)) only [↓gsd, gs, ev, Nat.reduceAdd, Nat.reduceEqDiff, oneC, Value.cells, Option.isNone, e0, e3, e4, e5, hvo, optS, Int.natCast_add j 1, Int.natCast_one]
          exact hf3
        · simp (maxSteps := 4000000) (disch := (first | assumption | exact List.not_mem_nil | exact Fr.refl _ _ | ((repeat (first | assumption | apply cur_alloc | apply cur_setB | apply cur_drew | apply cur_drewN)); done) | omega | (simp only [gz, Value.cells, oneC]; first | done | omega) | ((simp only [List.mem_cons, List.not_mem_nil, or_false, gz]); omega) | rfl)) only [↓gsd, gs, ev, Nat.reduceAdd, Nat.reduceEqDiff, oneC, Value.cells, Option.isNone, e5, numOf, Int.toNat_natCast, j3]; omega
  · have dj : decide ((j : Int) < (ps.length : Int)) = false := decide_eq_false (by omega)
    rw [List.take_of_length_le (by omega), hnx] at e4
    by_cases hil : i < S.length
    · obtain ⟨s, hsi⟩ : ∃ s, S[i]? = some s := ⟨S[i], List.getElem?_eq_getElem hil⟩
      rw [hsi] at e4
      have hsn : s ≠ ⟨#[]⟩ := hne s ((hm s).1 (List.mem_of_getElem? hsi))
      have db : decide ((optS (some s)) = ⟨#[]⟩) = false := decide_eq_false hsn
      simp (maxSteps := 4000000) (disch := (first | assumption | exact List.not_mem_nil | exact Fr.refl _ _ | ((repeat (first | assumption | apply cur_alloc | apply cur_setB | apply cur_drew | apply cur_drewN)); done) | omega | (simp only [gz, Value.cells, oneC]; first | done | omega) | ((simp only [List.mem_cons, List.not_mem_nil, or_false, gz]); omega) | rfl)) only [↓gsd, gs, ev, Nat.reduceAdd, Nat.reduceEqDiff, oneC, Value.cells, Option.isNone, gt, frT_self, frT_drew, frT_drew0, frT_alloc, ↓hk50, e0, e3, e4, e5, hh3, dj, db]
      generalize hW : World.alloc w3 _ = w4
      have hf4 : Fr [] w3 w4 := by rw [← hW]; (repeat (first | exact Fr.refl _ _ | assumption | with_reducible apply Fr.alloc | with_reducible apply Fr.drew | with_reducible refine Fr.setB ?_ _ _ (.inr (by first | omega | (simp only [gz]; omega))) | with_reducible refine Fr.setB ?_ _ _ (.inl (by first | assumption | simp)) | with_reducible refine Fr.trans' ?_ (by assumption)))
      have hsl : Sl 1 w4 (.slice (some ⟨w3.heap.size, 0, none⟩) 1 1) 1 (encS s) := by rw [← hW]; exact ⟨rfl, .inr ⟨w3.heap.size, 0, 1, _, 9, (0, 0), rfl, get_alloc_new _ _, rfl⟩⟩
      clear hW
      have cw4 := cur w4
      obtain ⟨v5, w5, hr5, hown5, hf5, hbk⟩ := ap52 (ty := 52) (Own.frN hown3 hf4) hsl rfl (by omega)
      have cw5 := cur w5
      obtain ⟨a5, c5, hv5⟩ := hown5.sl.form
      have hF5 := fresh_app hfr hf5 ((hf.trans' hf3).trans' hf4)
      have hz4 := ((hf.trans' hf3).trans' hf4).size
      simp (maxSteps := 4000000) (disch := (first | assumption | exact List.not_mem_nil | exact Fr.refl _ _ | ((repeat (first | assumption | apply cur_alloc | apply cur_setB | apply cur_drew | apply cur_drewN)); done) | omega | (simp only [gz, Value.cells, oneC]; first | done | omega) | ((simp only [List.mem_cons, List.not_mem_nil, or_false, gz]); omega) | rfl)) only [↓gsd, gs, ev, Nat.reduceAdd, Nat.reduceEqDiff, oneC, Value.cells, Option.isNone, gt, frT_self, frT_drew, frT_drew0, frT_alloc, ↓hk50, e0, e3, e4, e5, hr5]
      refine hk _ _ ⟨i + 1, v5, by omega, ?_⟩ ?_
      · simp (maxSteps := 4000000) (disch := (first | assumption | exact List.not_mem_nil | exact Fr.refl _ _ | ((repeat (first | assumption | apply cur_alloc | apply cur_setB | apply cur_drew | apply cur_drewN)); done) | omega | (simp only [gz, Value.cells, oneC]; first | done | omega) | ((simp only [List.mem_cons, List.not_mem_nil, or_false, gz]); omega) | rfl)) only [↓gsd, gs, ev, Nat.reduceAdd, Nat.reduceEqDiff, oneC, Value.cells, Option.isNone, e0, e3, e4, e5]
        refine ⟨?_, fun b hb => ?_, hF5⟩
        · rw [List.take_add_one, hsi, cellsOf_append]
          simpa [cellsOf] using hown5
        · rcases hbk with e | ⟨b', e, e2⟩
          · exact hfr b (e ▸ hb)
          · rw [e] at hb; cases hb; omega
      · simp (maxSteps := 4000000) (disch := (first | assumption | exact List.not_mem_nil | exact Fr.refl _ _ | ((repeat (first | assumption | apply cur_alloc | apply cur_setB | apply cur_drew | apply cur_drewN)); done) | omega | (simp only [gz, Value.cells, oneC]; first | done | omega) | ((simp only [List.mem_cons, List.not_mem_nil, or_false, gz]); omega) | rfl)) only [↓gsd, gs, ev, Nat.reduceAdd, Nat.reduceEqDiff, oneC, Value.cells, Option.isNone, E3, hvo, hv5]
        exact Nat.sub_lt_sub_left (by omega) (Nat.lt_succ_self i)
    · rw [List.getElem?_eq_none (by omega)] at e4
      have db : decide ((optS none) = ⟨#[]⟩) = true := rfl
      have : i = S.length := by omega
      subst this
      rw [List.take_length] at hown
      simp (maxSteps := 4000000) (disch := (first | assumption | exact List.not_mem_nil | exact Fr.refl _ _ | ((repeat (first | assumption | apply cur_alloc | apply cur_setB | apply cur_drew | apply cur_drewN)); done) | omega | (simp only [gz, Value.cells, oneC]; first | done | omega) | ((simp only [List.mem_cons, List.not_mem_nil, or_false, gz]); omega) | rfl)) only [↓gsd, gs, ev, Nat.reduceAdd, Nat.reduceEqDiff, oneC, Value.cells, Option.isNone, gt, frT_self, frT_drew, frT_drew0, frT_alloc, ↓hk50, e0, e3, e4, e5, hh3, dj, db]
      exact hK _ _ (Own.frN hown hf3) hfr (hf.trans' hf3)
end Go.Proofs.Ytenokheiindfkaa
