/- Drop of a table, walked. -/
import Derived.Test.YtldmkhakjnglmaaA6
import Derived.Test.YtldmkhakjnglmaaK2
set_option linter.unusedVariables false
set_option linter.unusedSimpArgs false
set_option maxRecDepth 10000
namespace Go.Proofs.Ytldmkhakjnglmaa
open Go.VW
theorem factRead {w : World} {v : Value} {xs : Ents} {i : Nat} {x : Ent} (h : SlOf 8 encEnt w v xs) (hx : xs[i]? = some x) {b off cap : Nat} {o : Obj} (hv : v = .slice (some ⟨b, off, none⟩) xs.length cap) (ho : w.heap[b]? = some o) (orig : Prop) (K : Value → Prop) :
    ldnV orig 5 (some o) (off + i * 8) K = K (.agg (encFct x).toArray) := by
  obtain ⟨b', off', cap', c, et, fr, rfl, hb, hg, hd⟩ := h.elem encEnt_len i x hx
  simp only [Value.slice.injEq, Option.some.injEq, Addr.mk.injEq] at hv
  obtain ⟨⟨rfl, rfl, _⟩, _, _⟩ := hv
  rw [hb] at ho
  cases ho
  have e : (c.toList.drop (off' + i * 8)).take 5 = encFct x := by
    have : (c.toList.drop (off' + i * 8)).take 5 = ((c.toList.drop (off' + i * 8)).take 8).take 5 := by rw [List.take_take]; rfl
    rw [this, hd]; rfl
  rw [ldnV_cells _ _ _ _ _ _ _ (by rw [e]; rfl), e]
theorem RowsM.del {w : World} {S : List Nat} {bm : Nat} {rows : List (ByteArray × Ents)} {es : List (ByteArray × Value)} (h : RowsM w S bm rows es) (k : ByteArray) {o : Obj} (hm : MapAt Value.string (some o) (adel es k)) : RowsM (w.setB bm o) S bm (adel rows k) (adel es k) := by
  have hn := h.map.nd
  have hn' : (rows.map (·.1)).Nodup := by rw [← h.keys]; exact hn
  obtain ⟨ents, clock, hbo, _⟩ := id h.map.ex
  refine ⟨h.mem, ?_, by rw [keys_adel _ _ hn, keys_adel _ _ hn', h.keys], fun k' v l e1 e2 => ?_, fun k1 k2 v1 v2 hne e1 e2 => ?_⟩
  · rw [get_setB_same _ _ _ h.map.lt]; exact hm
  · rw [aget_adel _ hn] at e1
    rw [aget_adel _ hn'] at e2
    split at e1
    · cases e1
    · rename_i hk
      rw [if_neg hk] at e2
      obtain ⟨a, b⟩ := h.own k' v l e1 e2
      exact ⟨a.fr (M := [bm]) ((Fr.refl _ w).setB _ _ (.inl (by simp))) fun x hx e => by simp at hx; subst hx; exact own_map a hbo e, b⟩
  · rw [aget_adel _ hn] at e1 e2
    split at e1
    · cases e1
    · split at e2
      · cases e2
      · exact h.apart k1 k2 v1 v2 hne e1 e2
theorem RowsM.set {w w' : World} {S S' M : List Nat} {bm : Nat} {rows : List (ByteArray × Ents)} {es : List (ByteArray × Value)} (h : RowsM w S bm rows es) {k : ByteArray} {v : Value} {l : Ents} {o : Obj} (hf : Fr M w w') (hbM : bm ∉ M)
    (hM : ∀ k' v', k' ≠ k → aget es k' = some v' → ∀ b, v'.ownBlock = some b → b ∉ M) (hv : Own 8 36 w' v l.length (cellsOf encEnt l)) (hS : ∀ x ∈ S, x ∈ S') (hvS : ∀ b, v.ownBlock = some b → b ∈ S')
    (hap : ∀ k' v', k' ≠ k → aget es k' = some v' → ∀ b, v.ownBlock = some b → v'.ownBlock ≠ some b) (hm : MapAt Value.string (some o) (aset es k v)) : RowsM (w'.setB bm o) S' bm (aset rows k l) (aset es k v) := by
  obtain ⟨ents, clock, hbo, _⟩ := id h.map.ex
  have hbo' : w'.heap[bm]? = some (.map ents clock) := hf.get hbo hbM
  have hkeep : ∀ {v0 : Value} {l0 : Ents}, Own 8 36 w' v0 l0.length (cellsOf encEnt l0) → Own 8 36 (w'.setB bm o) v0 l0.length (cellsOf encEnt l0) := fun a => a.fr (M := [bm]) ((Fr.refl _ w').setB _ _ (.inl (by simp))) fun x hx e => by simp at hx; subst hx; exact own_map a hbo' e
  refine ⟨hS _ h.mem, ?_, by rw [keys_aset, keys_aset, h.keys], fun k' v' l' e1 e2 => ?_, fun k1 k2 v1 v2 hne e1 e2 b hb => ?_⟩
  · rw [get_setB_same _ _ _ (lt_of_get _ _ hbo')]; exact hm
  · rw [aget_aset] at e1 e2
    by_cases hk : k = k'
    · rw [if_pos hk] at e1 e2
      cases e1; cases e2
      exact ⟨hkeep hv, hvS⟩
    · rw [if_neg hk] at e1 e2
      obtain ⟨a, b⟩ := h.own k' v' l' e1 e2
      exact ⟨hkeep (a.fr hf fun x hx e => hM k' v' (fun q => hk q.symm) e1 x e hx), fun b' hb' => hS _ (b b' hb')⟩
  · rw [aget_aset] at e1 e2
    by_cases hk1 : k = k1
    · have hk2 : ¬ k = k2 := fun e => hne (hk1 ▸ e)
      rw [if_pos hk1] at e1
      rw [if_neg hk2] at e2
      cases e1
      exact hap k2 v2 (fun q => hk2 q.symm) e2 b hb
    · rw [if_neg hk1] at e1
      by_cases hk2 : k = k2
      · rw [if_pos hk2] at e2
        cases e2
        exact fun e => hap k1 v1 (fun q => hk1 q.symm) e1 b e hb
      · rw [if_neg hk2] at e2
        exact h.apart k1 k2 v1 v2 hne e1 e2 b hb
def Tab.drop (T : Tab) (k : ByteArray) (lo : Int) : Tab :=
  match (T.row k)[idxE (T.row k) lo]? with
  | some e => if e.lo = lo then ⟨if (T.row k).length = 1 then adel T.rows k else aset T.rows k (delL (T.row k) (idxE (T.row k) lo)), IntKind.i64.wrap (T.n - 1), IntKind.i64.wrap (T.bytes - costE e)⟩ else T
  | none => T
set_option maxHeartbeats 16000000 in
theorem drop_spec {w : World} {tb : Nat} {S : List Nat} {T : Tab} {N : Nat} {k : ByteArray} {lo : Int} {K : Value → World → Prop} (h : TabAt w tb S T) (hwf : T.WF N) (hN : N ≤ 1000000000000)
    (hK : ∀ w', TabAt w' tb S (T.drop k lo) → Fr S w w' → K (.bool (hasE (T.row k) lo)) w') : CallsN Try.prog 21 [.pointer (some ⟨tb, 0, none⟩), .string k, .int .i64 lo] w K := by
  have cw := cur w
  refine call21 ?_
  simp (maxSteps := 4000000) (disch := (first | assumption | exact List.not_mem_nil | exact Fr.refl _ _ | ((repeat (first | assumption | apply cur_alloc | apply cur_setB | apply cur_drew | apply cur_drewN)); done) | omega | (simp only [gz, Value.cells, oneC]; first | done | omega) | ((simp only [List.mem_cons, List.not_mem_nil, or_false, gz]); omega) | rfl)) only [↓gsd, gs, ev, Nat.reduceAdd, Nat.reduceEqDiff, oneC, Value.cells, Option.isNone, gt, ↓hk21]
  refine find_spec h hwf hN fun w1 hf1 => ?_
  have cw1 := cur w1
  have hz1 := hf1.size
  have hfS : Fr S w w1 := Fr.trans (M' := []) (Fr.refl _ w) hf1 (by simp)
  have h1 := h.frN hf1
  cases hh : hasE (T.row k) lo with
  | false =>
    rw [hh] at hK
    have e : T.drop k lo = T := by
      unfold Tab.drop
      unfold hasE at hh
      cases hx : (T.row k)[idxE (T.row k) lo]? with
      | none => rfl
      | some x => rw [hx] at hh; simp only at hh ⊢; rw [if_neg (by simpa using hh)]
    rw [e] at hK
    simp (maxSteps := 4000000) (disch := (first | assumption | exact List.not_mem_nil | exact Fr.refl _ _ | ((repeat (first | assumption | apply cur_alloc | apply cur_setB | apply cur_drew | apply cur_drewN)); done) | omega | (simp only [gz, Value.cells, oneC]; first | done | omega) | ((simp only [List.mem_cons, List.not_mem_nil, or_false, gz]); omega) | rfl)) only [↓gsd, gs, ev, Nat.reduceAdd, Nat.reduceEqDiff, oneC, Value.cells, Option.isNone, gt, ↓hk21, hh]
    exact hK _ h1 hfS
  | true =>
    obtain ⟨x, hx, hxlo⟩ : ∃ x, (T.row k)[idxE (T.row k) lo]? = some x ∧ x.lo = lo := by
      unfold hasE at hh
      cases hx : (T.row k)[idxE (T.row k) lo]? with
      | none => rw [hx] at hh; cases hh
      | some x => rw [hx] at hh; exact ⟨x, rfl, by simpa using hh⟩
    have hT : T.drop k lo = ⟨if (T.row k).length = 1 then adel T.rows k else aset T.rows k (delL (T.row k) (idxE (T.row k) lo)), IntKind.i64.wrap (T.n - 1), IntKind.i64.wrap (T.bytes - costE x)⟩ := by
      unfold Tab.drop
      rw [hx]
      simp only [hxlo, if_true]
    rw [hT, hh] at hK
    generalize hi : idxE (T.row k) lo = i at hx hK ⊢
    have hil : i < (T.row k).length := (List.getElem?_eq_some_iff.1 hx).1
    have hrl := hwf.len k
    obtain ⟨⟨mb, hb1, hr⟩, htS, hlt⟩ := h1
    have htl := lt_of_get _ _ hb1
    cases mb with
    | none =>
      have : T.row k = [] := by unfold Tab.row; rw [show T.rows = [] from hr]; rfl
      rw [this] at hil; simp at hil
    | some bm =>
    obtain ⟨es, hr⟩ := hr
    obtain ⟨ents, clock, hbo, _⟩ := id hr.map.ex
    have hm := hr.map
    rw [hbo] at hm
    have hmv := fun orig K => mapV_at inj_string hm orig K
    have hbl := lt_of_get _ _ hbo
    obtain ⟨g1, g2⟩ := hr.get k
    change Own 8 36 w1 ((aget es k).getD sliceZ) (T.row k).length (cellsOf encEnt (T.row k)) at g1
    obtain ⟨g, cap, hvg⟩ : ∃ g cap, (aget es k).getD sliceZ = .slice (some ⟨g, 0, none⟩) (T.row k).length cap := by
      rcases g1.2 with ⟨_, h0⟩ | ⟨g, cap, cur', e', _⟩
      · omega
      · exact ⟨g, cap, e'⟩
    rw [hvg] at g1 g2
    have hgS : g ∈ S := g2 g rfl
    have hgt : g ≠ tb := fun e => own_head g1 hb1 (by decide) (by rw [← e]; rfl)
    have hgm : g ≠ bm := fun e => own_map g1 hbo (by rw [← e]; rfl)
    have htm : tb ≠ bm := fun e => by rw [e, hbo] at hb1; cases hb1
    obtain ⟨bb, off, cap1, ob, hv1, hob, hobl, _, _⟩ := (show SlOf 8 encEnt w1 _ (T.row k) from g1.sl).read encEnt_len i x hx
    have hfr := fun orig K => factRead (show SlOf 8 encEnt w1 _ (T.row k) from g1.sl) hx hv1 hob orig K
    simp only [Value.slice.injEq, Option.some.injEq, Addr.mk.injEq] at hv1
    obtain ⟨⟨rfl, rfl, _⟩, _, rfl⟩ := hv1
    simp only [Nat.zero_add] at hfr
    have i0 : (0 : Int) ≤ (i : Int) := by omega
    have i1 : (i : Int) < ((T.row k).length : Int) := by omega
    simp (maxSteps := 4000000) (disch := (first | assumption | exact List.not_mem_nil | exact Fr.refl _ _ | ((repeat (first | assumption | apply cur_alloc | apply cur_setB | apply cur_drew | apply cur_drewN)); done) | omega | (simp only [gz, Value.cells, oneC]; first | done | omega) | ((simp only [List.mem_cons, List.not_mem_nil, or_false, gz]); omega) | rfl)) only [↓gsd, gs, ev, Nat.reduceAdd, Nat.reduceEqDiff, oneC, Value.cells, Option.isNone, gt, ↓hk21, hh, hi, hb1, hbo, hmv, hvg]
    generalize hW : World.setB w1 tb _ = w2
    have hf2 : Fr [tb] w1 w2 := by rw [← hW]; (repeat (first | exact Fr.refl _ _ | assumption | with_reducible apply Fr.alloc | with_reducible apply Fr.drew | with_reducible refine Fr.setB ?_ _ _ (.inr (by first | omega | (simp only [gz]; omega))) | with_reducible refine Fr.setB ?_ _ _ (.inl (by first | assumption | simp)) | with_reducible refine Fr.trans' ?_ (by assumption)))
    have hb2 : w2.heap[tb]? = some (.cells ([.map (some bm), .int .i64 (IntKind.i64.wrap (T.n - 1)), .int .i64 T.bytes] : List Value).toArray 56 (0, 0)) := by rw [← hW]; simp (maxSteps := 4000000) (disch := (first | assumption | exact List.not_mem_nil | exact Fr.refl _ _ | ((repeat (first | assumption | apply cur_alloc | apply cur_setB | apply cur_drew | apply cur_drewN)); done) | omega | (simp only [gz, Value.cells, oneC]; first | done | omega) | ((simp only [List.mem_cons, List.not_mem_nil, or_false, gz]); omega) | rfl)) only [↓gsd, gs, ev, Nat.reduceAdd, Nat.reduceEqDiff, oneC, Value.cells, Option.isNone]
    clear hW
    have cw2 := cur w2
    have hz2 := hf2.size
    have hbo2 : w2.heap[bm]? = some (.map ents clock) := hf2.get hbo (by simp; exact fun e => htm e.symm)
    have hob2 : w2.heap[g]? = some ob := hf2.get hob (by simp; exact hgt)
    have hgl2 := lt_of_get _ _ hob2
    have htl2 := lt_of_get _ _ hb2
    have g12 : Own 8 36 w2 (.slice (some ⟨g, 0, none⟩) (T.row k).length cap) (T.row k).length (cellsOf encEnt (T.row k)) := g1.fr hf2 fun y hy e => by simp at hy; subst hy; simp [Value.ownBlock] at e; exact hgt e
    refine draw_intro2 (w := w2.drew) (fun t => if t = 11 then [tb] else []) ?_
    simp (maxSteps := 4000000) (disch := (first | assumption | exact List.not_mem_nil | exact Fr.refl _ _ | ((repeat (first | assumption | apply cur_alloc | apply cur_setB | apply cur_drew | apply cur_drewN)); done) | omega | (simp only [gz, Value.cells, oneC]; first | done | omega) | ((simp only [List.mem_cons, List.not_mem_nil, or_false, gz]); omega) | rfl)) only [↓gsd, gs, ev, Nat.reduceAdd, Nat.reduceEqDiff, oneC, Value.cells, Option.isNone, gt, ↓hk21, Fr_self, i0, i1, Int.toNat_natCast, hob2, hfr, Nat.zero_add, hb2]
    refine cost_spec fun w3 hf3 => ?_
    have cw3 := cur w3
    have hz3 := hf3.size
    have hf23 : Fr [] w2 w3 := (Fr.refl _ _).drew.trans' hf3
    have hb3 := hf23.getN hb2
    have htl3 := lt_of_get _ _ hb3
    have hbo3 := hf23.getN hbo2
    have g13 := Go.Proofs.Ytldmkhakjnglmaa.Own.frN g12 hf23
    have hT3 : ∀ o, Fr [tb] w2.drew (w3.setB tb o) = True := fun o => eq_true ((Fr.trans (M' := []) (Fr.refl [tb] _) hf3 (by simp)).setB _ _ (.inl (by simp)))
    have hT3' : Fr [tb] w2.drew w3 = True := eq_true (Fr.trans (M' := []) (Fr.refl [tb] _) hf3 (by simp))
    simp (maxSteps := 4000000) (disch := (first | assumption | exact List.not_mem_nil | exact Fr.refl _ _ | ((repeat (first | assumption | apply cur_alloc | apply cur_setB | apply cur_drew | apply cur_drewN)); done) | omega | (simp only [gz, Value.cells, oneC]; first | done | omega) | ((simp only [List.mem_cons, List.not_mem_nil, or_false, gz]); omega) | rfl)) only [↓gsd, gs, ev, Nat.reduceAdd, Nat.reduceEqDiff, oneC, Value.cells, Option.isNone, gt, ↓hk21, hT3', eq_true hf3, hb3, hT3]
    generalize hW : World.setB w3 tb _ = w4
    have hf4 : Fr [tb] w3 w4 := by rw [← hW]; (repeat (first | exact Fr.refl _ _ | assumption | with_reducible apply Fr.alloc | with_reducible apply Fr.drew | with_reducible refine Fr.setB ?_ _ _ (.inr (by first | omega | (simp only [gz]; omega))) | with_reducible refine Fr.setB ?_ _ _ (.inl (by first | assumption | simp)) | with_reducible refine Fr.trans' ?_ (by assumption)))
    have hb4 : w4.heap[tb]? = some (.cells ([.map (some bm), .int .i64 (IntKind.i64.wrap (T.n - 1)), .int .i64 (IntKind.i64.wrap (T.bytes - costE x))] : List Value).toArray 56 (0, 0)) := by rw [← hW]; simp (maxSteps := 4000000) (disch := (first | assumption | exact List.not_mem_nil | exact Fr.refl _ _ | ((repeat (first | assumption | apply cur_alloc | apply cur_setB | apply cur_drew | apply cur_drewN)); done) | omega | (simp only [gz, Value.cells, oneC]; first | done | omega) | ((simp only [List.mem_cons, List.not_mem_nil, or_false, gz]); omega) | rfl)) only [↓gsd, gs, ev, Nat.reduceAdd, Nat.reduceEqDiff, oneC, Value.cells, Option.isNone]
    clear hW
    have cw4 := cur w4
    have hz4 := hf4.size
    have htl4 := lt_of_get _ _ hb4
    have hbo4 : w4.heap[bm]? = some (.map ents clock) := hf4.get hbo3 (by simp; exact fun e => htm e.symm)
    have g14 : Own 8 36 w4 (.slice (some ⟨g, 0, none⟩) (T.row k).length cap) (T.row k).length (cellsOf encEnt (T.row k)) := g13.fr hf4 fun y hy e => by simp at hy; subst hy; simp [Value.ownBlock] at e; exact hgt e
    have hF4 : Fr [tb] w1 w4 := (hf2.trans' hf23).trans hf4 fun y hy => .inl hy
    have hr4 : RowsM w4 S bm T.rows es := hr.head hb1 hF4
    by_cases hl1 : (T.row k).length = 1
    · have d : decide (((T.row k).length : Int) = 1) = true := decide_eq_true (by omega)
      have hdel := (map_delete (P := Try.prog) (kt' := 9) Try.runUnderlying54 kOK54 0 hr4.map k).2
      rw [hbo4] at hdel
      have hmv4 := fun orig K => mapV_at inj_string hm orig K
      rw [if_pos hl1] at hK
      simp (maxSteps := 4000000) (disch := (first | assumption | exact List.not_mem_nil | exact Fr.refl _ _ | ((repeat (first | assumption | apply cur_alloc | apply cur_setB | apply cur_drew | apply cur_drewN)); done) | omega | (simp only [gz, Value.cells, oneC]; first | done | omega) | ((simp only [List.mem_cons, List.not_mem_nil, or_false, gz]); omega) | rfl)) only [↓gsd, gs, ev, Nat.reduceAdd, Nat.reduceEqDiff, oneC, Value.cells, Option.isNone, gt, ↓hk21, d, hbo3, hmv4]
      refine hK _ ⟨⟨some bm, ?_, _, hr4.del k hdel⟩, htS, fun y hy => ?_⟩ ?_
      · rw [get_setB_ne _ _ _ _ (fun e => htm e.symm)]; exact hb4
      · rw [size_setB]; have := hlt y hy; have := hF4.size; omega
      · exact ((hfS.trans hF4 fun y hy => by simp at hy; subst hy; exact .inl htS)).setB _ _ (.inl hr.mem)
    · have d : decide (((T.row k).length : Int) = 1) = false := decide_eq_false (by omega)
      rw [if_neg hl1] at hK
      have wr : IntKind.i64.wrap ((i : Int) + 1) = (i : Int) + 1 := wrap64 (by omega) (by omega)
      have htg : tb ∉ [g] := by simp; exact fun e => hgt e.symm
      have hbmg : bm ∉ [g] := by simp; exact fun e => hgm e.symm
      simp (maxSteps := 4000000) (disch := (first | assumption | exact List.not_mem_nil | exact Fr.refl _ _ | ((repeat (first | assumption | apply cur_alloc | apply cur_setB | apply cur_drew | apply cur_drewN)); done) | omega | (simp only [gz, Value.cells, oneC]; first | done | omega) | ((simp only [List.mem_cons, List.not_mem_nil, or_false, gz]); omega) | rfl)) only [↓gsd, gs, ev, Nat.reduceAdd, Nat.reduceEqDiff, oneC, Value.cells, Option.isNone, gt, ↓hk21, d]
      refine draw_intro2 (w := w4.drew) (fun _ => [g]) ?_
      simp (maxSteps := 4000000) (disch := (first | assumption | exact List.not_mem_nil | exact Fr.refl _ _ | ((repeat (first | assumption | apply cur_alloc | apply cur_setB | apply cur_drew | apply cur_drewN)); done) | omega | (simp only [gz, Value.cells, oneC]; first | done | omega) | ((simp only [List.mem_cons, List.not_mem_nil, or_false, gz]); omega) | rfl)) only [↓gsd, gs, ev, Nat.reduceAdd, Nat.reduceEqDiff, oneC, Value.cells, Option.isNone, gt, ↓hk21, Fr_self, hb4, htg, wr]
      refine del_spec (w := w4.drew) g14 hil (by omega) fun v' w5 hown5 hbk5 hf5 => ?_
      have cw5 := cur w5
      have hz5 := hf5.size
      have hf5' : Fr [g] w4 w5 := (Fr.refl [g] w4).drew.trans hf5 fun y hy => by simp [blkL, Value.ownBlock] at hy; subst hy; exact .inl (by simp)
      have hbo5 := hf5'.get hbo4 hbmg
      have hbl5 := lt_of_get _ _ hbo5
      have hb5 := hf5'.get hb4 htg
      have hm5 : MapAt Value.string w5.heap[bm]? es := by rw [hbo5]; exact hm
      have hup := (map_updateX (P := Try.prog) Try.runUnderlying54 kOK54 hm5 k v').2
      rw [hbo5] at hup
      have hfg : Fr [g] w4.drew w5 := by simpa [blkL, Value.ownBlock] using hf5
      have hdl : (delL (T.row k) i).length = (T.row k).length - 1 := by unfold delL; rw [List.length_append, List.length_take, List.length_drop]; omega
      rw [← hdl] at hown5
      have hek : aget es k = some (.slice (some ⟨g, 0, none⟩) (T.row k).length cap) := by
        cases he : aget es k with
        | none => rw [he] at hvg; cases hvg
        | some v0 => rw [he] at hvg; simpa using hvg
      simp (maxSteps := 4000000) (disch := (first | assumption | exact List.not_mem_nil | exact Fr.refl _ _ | ((repeat (first | assumption | apply cur_alloc | apply cur_setB | apply cur_drew | apply cur_drewN)); done) | omega | (simp only [gz, Value.cells, oneC]; first | done | omega) | ((simp only [List.mem_cons, List.not_mem_nil, or_false, gz]); omega) | rfl)) only [↓gsd, gs, ev, Nat.reduceAdd, Nat.reduceEqDiff, oneC, Value.cells, Option.isNone, gt, ↓hk21, eq_true hfg, hbo5, hmv]
      have hset := hr4.set (S' := S) (l := delL (T.row k) i) hf5' hbmg (fun k' v'' hk' e1 b hb hm' => by
        simp at hm'; subst hm'
        exact hr4.apart k' k v'' _ hk' e1 hek b hb rfl) hown5 (fun y hy => hy) (fun b hb => by rw [hbk5] at hb; simp [Value.ownBlock] at hb; subst hb; exact hgS) (fun k' v'' hk' e1 b hb e => by
        rw [hbk5] at hb
        exact hr4.apart k' k v'' _ hk' e1 hek b e hb) hup
      refine hK _ ⟨⟨some bm, ?_, _, hset⟩, htS, fun y hy => ?_⟩ ?_
      · rw [get_setB_ne _ _ _ _ (fun e => htm e.symm)]; exact hb5
      · rw [size_setB]; have := hlt y hy; have := hF4.size; have := hf5'.size; omega
      · exact (((hfS.trans hF4 fun y hy => by simp at hy; subst hy; exact .inl htS)).trans hf5' fun y hy => by simp at hy; subst hy; exact .inl hgS).setB _ _ (.inl hr.mem)
end Go.Proofs.Ytldmkhakjnglmaa
