/- Drop of a table, walked. Put into a table, walked. -/
import Derived.Test.YtomlgkecckffeaaGreatA6
import Derived.Test.YtomlgkecckffeaaGreatK2
set_option linter.unusedVariables false
set_option linter.unusedSimpArgs false
set_option maxRecDepth 10000
namespace Go.Proofs.YtomlgkecckffeaaGreat
open Go.VW
theorem factRead {w : World} {v : Value} {xs : Ents} {i : Nat} {x : Ent} (h : SlOf 8 encEnt w v xs) (hx : xs[i]? = some x) {b off cap : Nat} {o : Obj} (hv : v = .slice (some ⟨b, off, none⟩) xs.length cap) (ho : w.heap[b]? = some o) (orig : Prop) (K : Value → Prop) :
  ldnV orig 5 (some o) (off + i * 8) K = K (.agg (encFct x).toArray) := by
 obtain ⟨b', off', cap', c, et, fr, rfl, hb, hg, hd⟩ := h.elem encEnt_len i x hx
 simp only [Value.slice.injEq, Option.some.injEq, Addr.mk.injEq] at hv
 obtain ⟨⟨rfl, rfl, _⟩, _, _⟩ := hv
 rw [hb] at ho
 cases ho
 have e : (c.toList.drop (off' + i * 8)).take 5 = encFct x := by
  have : (c.toList.drop (off' + i * 8)).take 5 = ((c.toList.drop (off' + i * 8)).take 8).take 5 := by rw [List.take_take]; rfl
  rw [this, hd]; rfl
 rw [ldnV_cells _ _ _ _ _ _ _ (by rw [e]; rfl), e]
theorem RowsM.del {w : World} {S : List Nat} {bm : Nat} {rows : List (ByteArray × Ents)} {es : List (ByteArray × Value)} (h : RowsM w S bm rows es) (k : ByteArray) {o : Obj} (hm : MapAt Value.string (some o) (adel es k)) : RowsM (w.setB bm o) S bm (adel rows k) (adel es k) := by
 have hn := h.map.nd
 have hn' : (rows.map (·.1)).Nodup := by rw [← h.keys]; exact hn
 obtain ⟨ents, clock, hbo, _⟩ := id h.map.ex
 refine ⟨h.mem, ?_, by rw [keys_adel _ _ hn, keys_adel _ _ hn', h.keys], fun k' v l e1 e2 => ?_, fun k1 k2 v1 v2 hne e1 e2 => ?_⟩
 ·rw [get_setB_same _ _ _ h.map.lt]; exact hm
 ·rw [aget_adel _ hn] at e1
  rw [aget_adel _ hn'] at e2
  split at e1
  ·cases e1
  ·rename_i hk
   rw [if_neg hk] at e2
   obtain ⟨a, b⟩ := h.own k' v l e1 e2
   exact ⟨a.fr (M := [bm]) ((Fr.refl _ w).setB _ _ (.inl (by simp))) fun x hx e => by simp at hx; subst hx; exact own_map a hbo e, b⟩
 ·rw [aget_adel _ hn] at e1 e2
  split at e1
  ·cases e1
  ·split at e2
   ·cases e2
   ·exact h.apart k1 k2 v1 v2 hne e1 e2
theorem RowsM.set {w w' : World} {S S' M : List Nat} {bm : Nat} {rows : List (ByteArray × Ents)} {es : List (ByteArray × Value)} (h : RowsM w S bm rows es) {k : ByteArray} {v : Value} {l : Ents} {o : Obj} (hf : Fr M w w') (hbM : bm ∉ M)
  (hM : ∀ k' v', k' ≠ k → aget es k' = some v' → ∀ b, v'.ownBlock = some b → b ∉ M) (hv : Own 8 52 w' v l.length (cellsOf encEnt l)) (hS : ∀ x ∈ S, x ∈ S') (hvS : ∀ b, v.ownBlock = some b → b ∈ S')
  (hap : ∀ k' v', k' ≠ k → aget es k' = some v' → ∀ b, v.ownBlock = some b → v'.ownBlock ≠ some b) (hm : MapAt Value.string (some o) (aset es k v)) : RowsM (w'.setB bm o) S' bm (aset rows k l) (aset es k v) := by
 obtain ⟨ents, clock, hbo, _⟩ := id h.map.ex
 have hbo' : w'.heap[bm]? = some (.map ents clock) := hf.get hbo hbM
 have hkeep : ∀ {v0 : Value} {l0 : Ents}, Own 8 52 w' v0 l0.length (cellsOf encEnt l0) → Own 8 52 (w'.setB bm o) v0 l0.length (cellsOf encEnt l0) := fun a => a.fr (M := [bm]) ((Fr.refl _ w').setB _ _ (.inl (by simp))) fun x hx e => by simp at hx; subst hx; exact own_map a hbo' e
 refine ⟨hS _ h.mem, ?_, by rw [keys_aset, keys_aset, h.keys], fun k' v' l' e1 e2 => ?_, fun k1 k2 v1 v2 hne e1 e2 b hb => ?_⟩
 ·rw [get_setB_same _ _ _ (lt_of_get _ _ hbo')]; exact hm
 ·rw [aget_aset] at e1 e2
  by_cases hk : k = k'
  ·rw [if_pos hk] at e1 e2
   cases e1; cases e2
   exact ⟨hkeep hv, hvS⟩
  ·rw [if_neg hk] at e1 e2
   obtain ⟨a, b⟩ := h.own k' v' l' e1 e2
   exact ⟨hkeep (a.fr hf fun x hx e => hM k' v' (fun q => hk q.symm) e1 x e hx), fun b' hb' => hS _ (b b' hb')⟩
 ·rw [aget_aset] at e1 e2
  by_cases hk1 : k = k1
  ·have hk2 : ¬ k = k2 := fun e => hne (hk1 ▸ e)
   rw [if_pos hk1] at e1
   rw [if_neg hk2] at e2
   cases e1
   exact hap k2 v2 (fun q => hk2 q.symm) e2 b hb
  ·rw [if_neg hk1] at e1
   by_cases hk2 : k = k2
   ·rw [if_pos hk2] at e2
    cases e2
    exact fun e => hap k1 v1 (fun q => hk1 q.symm) e1 b e hb
   ·rw [if_neg hk2] at e2
    exact h.apart k1 k2 v1 v2 hne e1 e2 b hb
def Tab.drop (T : Tab) (k : ByteArray) (lo : Int) : Tab :=
 match (T.row k)[idxE (T.row k) lo]? with
 | some e => if e.lo = lo then ⟨if (T.row k).length = 1 then adel T.rows k else aset T.rows k (delL (T.row k) (idxE (T.row k) lo)), IntKind.i64.wrap (T.n - 1), IntKind.i64.wrap (T.bytes - costE e)⟩ else T
 | none => T
set_option maxHeartbeats 16000000 in
theorem drop_spec {w : World} {tb : Nat} {S : List Nat} {T : Tab} {N : Nat} {k : ByteArray} {lo : Int} {K : Value → World → Prop} (h : TabAt w tb S T) (hwf : T.WF N) (hN : N ≤ 1000000000000)
  (hK : ∀ w', TabAt w' tb S (T.drop k lo) → Fr S w w' → K (.bool (hasE (T.row k) lo)) w') : CallsN Tryz.prog 89 [.pointer (some ⟨tb, 0, none⟩), .string k, .int .i64 lo] w K := by
 have cw := cur w
 refine call89 ?_
 simp (maxSteps:=9^7)(disch:=first|assumption|(simp only[dz];first|done|assumption|omega)|omega|apply_rules[Fr.refl,Fr.alloc,Fr.drew]|rfl) only [↓gsd,gs,gv,Nat.reduceAdd,Nat.reduceEqDiff, gt, ↓hk89]
 refine find_spec h hwf hN fun w1 hf1 => ?_
 have cw1 := cur w1
 have hz1 := hf1.size
 have hfS : Fr S w w1 := Fr.trans (M' := []) (Fr.refl _ w) hf1 (by simp)
 have h1 := h.frN hf1
 cases hh : hasE (T.row k) lo with
 | false =>
   rw [hh] at hK
   have e : T.drop k lo = T := by
    unfold Tab.drop
    unfold hasE at hh
    cases hx : (T.row k)[idxE (T.row k) lo]? with
    | none => rfl
    | some x => rw [hx] at hh; simp only at hh ⊢; rw [if_neg (by simpa using hh)]
   rw [e] at hK
   simp (maxSteps:=9^7)(disch:=first|assumption|(simp only[dz];first|done|assumption|omega)|omega|apply_rules[Fr.refl,Fr.alloc,Fr.drew]|rfl) only [↓gsd,gs,gv,Nat.reduceAdd,Nat.reduceEqDiff, gt, ↓hk89, hh]
   exact hK _ h1 hfS
 | true =>
   obtain ⟨x, hx, hxlo⟩ : ∃ x, (T.row k)[idxE (T.row k) lo]? = some x ∧ x.lo = lo := by
    unfold hasE at hh
    cases hx : (T.row k)[idxE (T.row k) lo]? with
    | none => rw [hx] at hh; cases hh
    | some x => rw [hx] at hh; exact ⟨x, rfl, by simpa using hh⟩
   have hT : T.drop k lo = ⟨if (T.row k).length = 1 then adel T.rows k else aset T.rows k (delL (T.row k) (idxE (T.row k) lo)), IntKind.i64.wrap (T.n - 1), IntKind.i64.wrap (T.bytes - costE x)⟩ := by
    unfold Tab.drop
    rw [hx]
    simp only [hxlo, if_true]
   rw [hT, hh] at hK
   generalize hi : idxE (T.row k) lo = i at hx hK ⊢
   have hil : i < (T.row k).length := (List.getElem?_eq_some_iff.1 hx).1
   have hrl := hwf.len k
   obtain ⟨⟨mb, hb1, hr⟩, htS, hlt⟩ := h1
   have htl := lt_of_get _ _ hb1
   cases mb with
   | none =>
     have : T.row k = [] := by unfold Tab.row; rw [show T.rows = [] from hr]; rfl
     rw [this] at hil; simp at hil
   | some bm =>
   obtain ⟨es, hr⟩ := hr
   obtain ⟨ents, clock, hbo, _⟩ := id hr.map.ex
   have hm := hr.map
   rw [hbo] at hm
   have hmv := fun orig K => mapV_at inj_string hm orig K
   have hbl := lt_of_get _ _ hbo
   obtain ⟨g1, g2⟩ := hr.get k
   change Own 8 52 w1 ((aget es k).getD sliceZ) (T.row k).length (cellsOf encEnt (T.row k)) at g1
   obtain ⟨g, cap, hvg⟩ : ∃ g cap, (aget es k).getD sliceZ = .slice (some ⟨g, 0, none⟩) (T.row k).length cap := by
    rcases g1.2 with ⟨_, h0⟩ | ⟨g, cap, cur', e', _⟩
    ·omega
    ·exact ⟨g, cap, e'⟩
   rw [hvg] at g1 g2
   have hgS : g ∈ S := g2 g rfl
   have hgt : g ≠ tb := fun e => own_head g1 hb1 (by decide) (by rw [← e]; rfl)
   have hgm : g ≠ bm := fun e => own_map g1 hbo (by rw [← e]; rfl)
   have htm : tb ≠ bm := fun e => by rw [e, hbo] at hb1; cases hb1
   obtain ⟨bb, off, cap1, ob, hv1, hob, hobl, _, _⟩ := (show SlOf 8 encEnt w1 _ (T.row k) from g1.sl).read encEnt_len i x hx
   have hfr := fun orig K => factRead (show SlOf 8 encEnt w1 _ (T.row k) from g1.sl) hx hv1 hob orig K
   simp only [Value.slice.injEq, Option.some.injEq, Addr.mk.injEq] at hv1
   obtain ⟨⟨rfl, rfl, _⟩, _, rfl⟩ := hv1
   simp only [Nat.zero_add] at hfr
   have i0 : (0 : Int) ≤ (i : Int) := by omega
   have i1 : (i : Int) < ((T.row k).length : Int) := by omega
   simp (maxSteps:=9^7)(disch:=first|assumption|(simp only[dz];first|done|assumption|omega)|omega|apply_rules[Fr.refl,Fr.alloc,Fr.drew]|rfl) only [↓gsd,gs,gv,Nat.reduceAdd,Nat.reduceEqDiff, gt, ↓hk89, hh, hi, hb1, hbo, hmv, hvg]
   generalize hW : World.setB w1 tb _ = w2
   have hf2 : Fr [tb] w1 w2 := by rw [← hW]; exact fr_
   have hb2 : w2.heap[tb]? = some (.cells ([.map (some bm), .int .i64 (IntKind.i64.wrap (T.n - 1)), .int .i64 T.bytes] : List Value).toArray 194 (0, 0)) := by rw [← hW]; simp (maxSteps:=9^7)(disch:=first|assumption|(simp only[dz];first|done|assumption|omega)|omega|apply_rules[Fr.refl,Fr.alloc,Fr.drew]|rfl) only [↓gsd,gs,gv,Nat.reduceAdd,Nat.reduceEqDiff]
   clear hW
   have cw2 := cur w2
   have hz2 := hf2.size
   have hbo2 : w2.heap[bm]? = some (.map ents clock) := hf2.get hbo (by simp; exact fun e => htm e.symm)
   have hob2 : w2.heap[g]? = some ob := hf2.get hob (by simp; exact hgt)
   have hgl2 := lt_of_get _ _ hob2
   have htl2 := lt_of_get _ _ hb2
   have g12 : Own 8 52 w2 (.slice (some ⟨g, 0, none⟩) (T.row k).length cap) (T.row k).length (cellsOf encEnt (T.row k)) := g1.fr hf2 fun y hy e => by simp at hy; subst hy; simp [Value.ownBlock] at e; exact hgt e
   refine draw_intro2 (w := w2.drew) (fun t => if t = 11 then [tb] else []) ?_
   simp (maxSteps:=9^7)(disch:=first|assumption|(simp only[dz];first|done|assumption|omega)|omega|apply_rules[Fr.refl,Fr.alloc,Fr.drew]|rfl) only [↓gsd,gs,gv,Nat.reduceAdd,Nat.reduceEqDiff, gt, ↓hk89, Fr_self, i0, i1, Int.toNat_natCast, hob2, hfr, Nat.zero_add, hb2]
   refine cost_spec fun w3 hf3 => ?_
   have cw3 := cur w3
   have hz3 := hf3.size
   have hf23 : Fr [] w2 w3 := (Fr.refl _ _).drew.trans' hf3
   have hb3 := hf23.getN hb2
   have htl3 := lt_of_get _ _ hb3
   have hbo3 := hf23.getN hbo2
   have g13 := Go.Proofs.YtomlgkecckffeaaGreat.Own.frN g12 hf23
   have hT3 : ∀ o, Fr [tb] w2.drew (w3.setB tb o) = True := fun o => eq_true ((Fr.trans (M' := []) (Fr.refl [tb] _) hf3 (by simp)).setB _ _ (.inl (by simp)))
   have hT3' : Fr [tb] w2.drew w3 = True := eq_true (Fr.trans (M' := []) (Fr.refl [tb] _) hf3 (by simp))
   simp (maxSteps:=9^7)(disch:=first|assumption|(simp only[dz];first|done|assumption|omega)|omega|apply_rules[Fr.refl,Fr.alloc,Fr.drew]|rfl) only [↓gsd,gs,gv,Nat.reduceAdd,Nat.reduceEqDiff, gt, ↓hk89, hT3', eq_true hf3, hb3, hT3]
   generalize hW : World.setB w3 tb _ = w4
   have hf4 : Fr [tb] w3 w4 := by rw [← hW]; exact fr_
   have hb4 : w4.heap[tb]? = some (.cells ([.map (some bm), .int .i64 (IntKind.i64.wrap (T.n - 1)), .int .i64 (IntKind.i64.wrap (T.bytes - costE x))] : List Value).toArray 194 (0, 0)) := by rw [← hW]; simp (maxSteps:=9^7)(disch:=first|assumption|(simp only[dz];first|done|assumption|omega)|omega|apply_rules[Fr.refl,Fr.alloc,Fr.drew]|rfl) only [↓gsd,gs,gv,Nat.reduceAdd,Nat.reduceEqDiff]
   clear hW
   have cw4 := cur w4
   have hz4 := hf4.size
   have htl4 := lt_of_get _ _ hb4
   have hbo4 : w4.heap[bm]? = some (.map ents clock) := hf4.get hbo3 (by simp; exact fun e => htm e.symm)
   have g14 : Own 8 52 w4 (.slice (some ⟨g, 0, none⟩) (T.row k).length cap) (T.row k).length (cellsOf encEnt (T.row k)) := g13.fr hf4 fun y hy e => by simp at hy; subst hy; simp [Value.ownBlock] at e; exact hgt e
   have hF4 : Fr [tb] w1 w4 := (hf2.trans' hf23).trans hf4 fun y hy => .inl hy
   have hr4 : RowsM w4 S bm T.rows es := hr.head hb1 hF4
   by_cases hl1 : (T.row k).length = 1
   ·have d : decide (((T.row k).length : Int) = 1) = true := decide_eq_true (by omega)
    have hdel := (map_delete (P := Tryz.prog) (kt' := 9) Tryz.runUnderlying192 kOK192 0 hr4.map k).2
    rw [hbo4] at hdel
    have hmv4 := fun orig K => mapV_at inj_string hm orig K
    rw [if_pos hl1] at hK
    simp (maxSteps:=9^7)(disch:=first|assumption|(simp only[dz];first|done|assumption|omega)|omega|apply_rules[Fr.refl,Fr.alloc,Fr.drew]|rfl) only [↓gsd,gs,gv,Nat.reduceAdd,Nat.reduceEqDiff, gt, ↓hk89, d, hbo3, hmv4]
    refine hK _ ⟨⟨some bm, ?_, _, hr4.del k hdel⟩, htS, fun y hy => ?_⟩ ?_
    ·rw [get_setB_ne _ _ _ _ (fun e => htm e.symm)]; exact hb4
    ·rw [size_setB]; have := hlt y hy; have := hF4.size; omega
    ·exact ((hfS.trans hF4 fun y hy => by simp at hy; subst hy; exact .inl htS)).setB _ _ (.inl hr.mem)
   ·have d : decide (((T.row k).length : Int) = 1) = false := decide_eq_false (by omega)
    rw [if_neg hl1] at hK
    have wr : IntKind.i64.wrap ((i : Int) + 1) = (i : Int) + 1 := wrap64 (by omega) (by omega)
    have htg : tb ∉ [g] := by simp; exact fun e => hgt e.symm
    have hbmg : bm ∉ [g] := by simp; exact fun e => hgm e.symm
    simp (maxSteps:=9^7)(disch:=first|assumption|(simp only[dz];first|done|assumption|omega)|omega|apply_rules[Fr.refl,Fr.alloc,Fr.drew]|rfl) only [↓gsd,gs,gv,Nat.reduceAdd,Nat.reduceEqDiff, gt, ↓hk89, d]
    refine draw_intro2 (w := w4.drew) (fun _ => [g]) ?_
    simp (maxSteps:=9^7)(disch:=first|assumption|(simp only[dz];first|done|assumption|omega)|omega|apply_rules[Fr.refl,Fr.alloc,Fr.drew]|rfl) only [↓gsd,gs,gv,Nat.reduceAdd,Nat.reduceEqDiff, gt, ↓hk89, Fr_self, hb4, htg, wr]
    refine del_spec (w := w4.drew) g14 hil (by omega) fun v' w5 hown5 hbk5 hf5 => ?_
    have cw5 := cur w5
    have hz5 := hf5.size
    have hf5' : Fr [g] w4 w5 := (Fr.refl [g] w4).drew.trans hf5 fun y hy => by simp [blkL, Value.ownBlock] at hy; subst hy; exact .inl (by simp)
    have hbo5 := hf5'.get hbo4 hbmg
    have hbl5 := lt_of_get _ _ hbo5
    have hb5 := hf5'.get hb4 htg
    have hm5 : MapAt Value.string w5.heap[bm]? es := by rw [hbo5]; exact hm
    have hup := (map_updateX (P := Tryz.prog) Tryz.runUnderlying192 kOK192 hm5 k v').2
    rw [hbo5] at hup
    have hfg : Fr [g] w4.drew w5 := by simpa [blkL, Value.ownBlock] using hf5
    have hdl : (delL (T.row k) i).length = (T.row k).length - 1 := by unfold delL; rw [List.length_append, List.length_take, List.length_drop]; omega
    rw [← hdl] at hown5
    have hek : aget es k = some (.slice (some ⟨g, 0, none⟩) (T.row k).length cap) := by
     cases he : aget es k with
     | none => rw [he] at hvg; cases hvg
     | some v0 => rw [he] at hvg; simpa using hvg
    simp (maxSteps:=9^7)(disch:=first|assumption|(simp only[dz];first|done|assumption|omega)|omega|apply_rules[Fr.refl,Fr.alloc,Fr.drew]|rfl) only [↓gsd,gs,gv,Nat.reduceAdd,Nat.reduceEqDiff, gt, ↓hk89, eq_true hfg, hbo5, hmv]
    have hset := hr4.set (S' := S) (l := delL (T.row k) i) hf5' hbmg (fun k' v'' hk' e1 b hb hm' => by
     simp at hm'; subst hm'
     exact hr4.apart k' k v'' _ hk' e1 hek b hb rfl) hown5 (fun y hy => hy) (fun b hb => by rw [hbk5] at hb; simp [Value.ownBlock] at hb; subst hb; exact hgS) (fun k' v'' hk' e1 b hb e => by
     rw [hbk5] at hb
     exact hr4.apart k' k v'' _ hk' e1 hek b e hb) hup
    refine hK _ ⟨⟨some bm, ?_, _, hset⟩, htS, fun y hy => ?_⟩ ?_
    ·rw [get_setB_ne _ _ _ _ (fun e => htm e.symm)]; exact hb5
    ·rw [size_setB]; have := hlt y hy; have := hF4.size; have := hf5'.size; omega
    ·exact (((hfS.trans hF4 fun y hy => by simp at hy; subst hy; exact .inl htS)).trans hf5' fun y hy => by simp at hy; subst hy; exact .inl hgS).setB _ _ (.inl hr.mem)
def delE (l : Ents) (lo : Int) : Ents := if hasE l lo = true then delL l (idxE l lo) else l
theorem drop_row {T : Tab} {k : ByteArray} {lo : Int} (hn : (T.rows.map (·.1)).Nodup) (k' : ByteArray) : (T.drop k lo).row k' = if k = k' then delE (T.row k) lo else T.row k' := by
 cases hx : (T.row k)[idxE (T.row k) lo]? with
 | none =>
   have hh : hasE (T.row k) lo = false := by unfold hasE; rw [hx]
   have e : T.drop k lo = T := by unfold Tab.drop; rw [hx]
   have e2 : delE (T.row k) lo = T.row k := by unfold delE; rw [hh]; rfl
   rw [e, e2]
   split
   ·rename_i h; rw [h]
   ·rfl
 | some x =>
   by_cases he : x.lo = lo
   ·have hh : hasE (T.row k) lo = true := by unfold hasE; rw [hx]; exact decide_eq_true he
    have e : T.drop k lo = ⟨if (T.row k).length = 1 then adel T.rows k else aset T.rows k (delL (T.row k) (idxE (T.row k) lo)), IntKind.i64.wrap (T.n - 1), IntKind.i64.wrap (T.bytes - costE x)⟩ := by unfold Tab.drop; rw [hx]; simp only [he, if_true]
    have e2 : delE (T.row k) lo = delL (T.row k) (idxE (T.row k) lo) := by unfold delE; rw [hh]; rfl
    rw [e, e2]
    have hil : idxE (T.row k) lo < (T.row k).length := (List.getElem?_eq_some_iff.1 hx).1
    show (aget (if (T.row k).length = 1 then adel T.rows k else aset T.rows k (delL (T.row k) (idxE (T.row k) lo))) k').getD [] = _
    by_cases h1 : (T.row k).length = 1
    ·rw [if_pos h1, aget_adel _ hn]
     by_cases hk : k = k'
     ·rw [if_pos hk, if_pos hk]
      have : (delL (T.row k) (idxE (T.row k) lo)).length = 0 := by unfold delL; rw [List.length_append, List.length_take, List.length_drop]; omega
      rw [List.eq_nil_of_length_eq_zero this]; rfl
     ·rw [if_neg hk, if_neg hk]; rfl
    ·rw [if_neg h1, aget_aset]
     by_cases hk : k = k'
     ·rw [if_pos hk, if_pos hk]; rfl
     ·rw [if_neg hk, if_neg hk]; rfl
   ·have hh : hasE (T.row k) lo = false := by unfold hasE; rw [hx]; exact decide_eq_false he
    have e : T.drop k lo = T := by unfold Tab.drop; rw [hx]; simp only [he, if_false]
    have e2 : delE (T.row k) lo = T.row k := by unfold delE; rw [hh]; rfl
    rw [e, e2]
    split
    ·rename_i h; rw [h]
    ·rfl
theorem TabAt.nd {w : World} {tb : Nat} {S : List Nat} {T : Tab} (h : TabAt w tb S T) : (T.rows.map (·.1)).Nodup := by
 obtain ⟨⟨mb, _, h2⟩, _, _⟩ := h
 cases mb with
 | none => rw [show T.rows = [] from h2]; exact List.nodup_nil
 | some bm => obtain ⟨es, h2⟩ := h2; rw [← h2.keys]; exact h2.map.nd
theorem delL_sub (l : Ents) (i : Nat) : (delL l i).Sublist l := by
 unfold delL
 conv => rhs; rw [← List.take_append_drop i l]
 refine List.Sublist.append (List.Sublist.refl _) ?_
 rw [← List.drop_drop]
 exact List.drop_sublist _ _
theorem delE_sub (l : Ents) (lo : Int) : (delE l lo).Sublist l := by
 unfold delE
 split
 ·exact delL_sub l _
 ·exact List.Sublist.refl _
theorem Tab.WF.drop {T : Tab} {N : Nat} (h : T.WF N) (hn : (T.rows.map (·.1)).Nodup) (k : ByteArray) (lo : Int) : (T.drop k lo).WF N := by
 refine ⟨fun k' => ?_, fun k' => ?_⟩
 ·rw [drop_row hn]
  split
  ·exact (h.sort k).sublist (delE_sub _ _)
  ·exact h.sort k'
 ·rw [drop_row hn]
  split
  ·exact Nat.le_trans (delE_sub _ _).length_le (h.len k)
  ·exact h.len k'
theorem hasE_false {l : Ents} (hs : SortE l) {lo : Int} (h : hasE l lo = false) : (∀ e ∈ l.take (idxE l lo), e.lo < lo) ∧ ∀ e ∈ l.drop (idxE l lo), lo < e.lo := by
 refine ⟨fun e he => ?_, fun e he => ?_⟩
 ·obtain ⟨t, ht⟩ := List.getElem?_of_mem he
  have htl := (List.getElem?_eq_some_iff.1 ht).1
  rw [List.length_take] at htl
  rw [List.getElem?_take, if_pos (by omega)] at ht
  exact (idxE_lt hs ht).1 (by omega)
 ·obtain ⟨t, ht⟩ := List.getElem?_of_mem he
  rw [List.getElem?_drop] at ht
  have h1 : ¬ e.lo < lo := fun q => by have := (idxE_lt hs ht).2 q; omega
  cases t with
  | zero =>
    unfold hasE at h
    rw [Nat.add_zero] at ht
    rw [ht] at h
    have : e.lo ≠ lo := by simpa using h
    omega
  | succ t =>
    obtain ⟨x, hx⟩ : ∃ x, l[idxE l lo]? = some x := ⟨l[idxE l lo]'(by have := (List.getElem?_eq_some_iff.1 ht).1; omega), List.getElem?_eq_getElem _⟩
    obtain ⟨g1, g2⟩ := List.getElem?_eq_some_iff.1 hx
    obtain ⟨g3, g4⟩ := List.getElem?_eq_some_iff.1 ht
    have := List.pairwise_iff_getElem.1 hs (idxE l lo) (idxE l lo + (t + 1)) g1 g3 (by omega)
    rw [g2, g4] at this
    have h2 : ¬ x.lo < lo := fun q => by have := (idxE_lt hs hx).2 q; omega
    omega
theorem insL_sort {l : Ents} (hs : SortE l) {e : Ent} (h : hasE l e.lo = false) : SortE (insL l (idxE l e.lo) e) := by
 obtain ⟨h1, h2⟩ := hasE_false hs h
 unfold SortE insL
 rw [List.pairwise_append, List.pairwise_cons]
 refine ⟨hs.sublist (List.take_sublist _ _), ⟨fun x hx => h2 x hx, hs.sublist (List.drop_sublist _ _)⟩, fun a ha b hb => ?_⟩
 rcases List.mem_cons.1 hb with rfl | hb
 ·exact h1 a ha
 ·have := h1 a ha
  have := h2 b hb
  omega
theorem delE_has {l : Ents} (hs : SortE l) (lo : Int) : hasE (delE l lo) lo = false := by
 have hsd : SortE (delE l lo) := hs.sublist (delE_sub _ _)
 cases hh : hasE (delE l lo) lo with
 | false => rfl
 | true =>
   exfalso
   obtain ⟨x, hx, hxl⟩ : ∃ x, (delE l lo)[idxE (delE l lo) lo]? = some x ∧ x.lo = lo := by
    unfold hasE at hh
    cases hx : (delE l lo)[idxE (delE l lo) lo]? with
    | none => rw [hx] at hh; cases hh
    | some x => rw [hx] at hh; exact ⟨x, rfl, by simpa using hh⟩
   have hm := List.mem_of_getElem? hx
   unfold delE at hm
   split at hm
   ·rename_i hq
    unfold hasE at hq
    cases hy : l[idxE l lo]? with
    | none => rw [hy] at hq; cases hq
    | some y =>
      rw [hy] at hq
      have hyl : y.lo = lo := by simpa using hq
      obtain ⟨g1, g2⟩ := List.getElem?_eq_some_iff.1 hy
      unfold delL at hm
      rcases List.mem_append.1 hm with hm | hm
      ·obtain ⟨t, ht⟩ := List.getElem?_of_mem hm
       have htl := (List.getElem?_eq_some_iff.1 ht).1
       rw [List.length_take] at htl
       rw [List.getElem?_take, if_pos (by omega)] at ht
       have := (idxE_lt hs (lo := lo) ht).1 (by omega)
       omega
      ·obtain ⟨t, ht⟩ := List.getElem?_of_mem hm
       rw [List.getElem?_drop] at ht
       obtain ⟨g3, g4⟩ := List.getElem?_eq_some_iff.1 ht
       have := List.pairwise_iff_getElem.1 hs (idxE l lo) (idxE l lo + 1 + t) g1 g3 (by omega)
       rw [g2, g4] at this
       omega
   ·rename_i hq
    obtain ⟨t, ht⟩ := List.getElem?_of_mem hm
    obtain ⟨p1, p2⟩ := hasE_false hs (by simpa using hq)
    have : x ∈ l.take (idxE l lo) ++ l.drop (idxE l lo) := by rw [List.take_append_drop]; exact hm
    rcases List.mem_append.1 this with q | q
    ·have := p1 x q; omega
    ·have := p2 x q; omega
def Tab.put (T : Tab) (e : Ent) : Tab := ⟨aset (T.drop e.key e.lo).rows e.key (insL (delE (T.row e.key) e.lo) (idxE (delE (T.row e.key) e.lo) e.lo) e), IntKind.i64.wrap ((T.drop e.key e.lo).n + 1), IntKind.i64.wrap ((T.drop e.key e.lo).bytes + costE e)⟩
def Tab.putR (T : Tab) (e : Ent) : Tab := if goodE e = true then T.put e else T
def putE (l : Ents) (e : Ent) : Ents := insL (delE l e.lo) (idxE (delE l e.lo) e.lo) e
theorem put_row {T : Tab} {e : Ent} (hn : (T.rows.map (·.1)).Nodup) (k' : ByteArray) : (T.put e).row k' = if e.key = k' then putE (T.row e.key) e else T.row k' := by
 show (aget (aset (T.drop e.key e.lo).rows e.key _) k').getD [] = _
 rw [aget_aset]
 by_cases hk : e.key = k'
 ·rw [if_pos hk, if_pos hk]; rfl
 ·rw [if_neg hk, if_neg hk]
  have := drop_row (k := e.key) (lo := e.lo) hn k'
  rw [if_neg hk] at this
  exact this
theorem putE_sort {l : Ents} (hs : SortE l) (e : Ent) : SortE (putE l e) := insL_sort (hs.sublist (delE_sub _ _)) (delE_has hs e.lo)
theorem insL_len (l : Ents) (i : Nat) (e : Ent) : (insL l i e).length = l.length + 1 := by
 unfold insL
 rw [List.length_append, List.length_cons, List.length_take, List.length_drop]
 omega
theorem Tab.WF.put {T : Tab} {N : Nat} (h : T.WF N) (hn : (T.rows.map (·.1)).Nodup) (e : Ent) : (T.put e).WF (N + 1) := by
 refine ⟨fun k' => ?_, fun k' => ?_⟩
 ·rw [put_row hn]
  split
  ·exact putE_sort (h.sort _) e
  ·exact h.sort k'
 ·rw [put_row hn]
  split
  ·unfold putE
   rw [insL_len]
   have := (delE_sub (T.row e.key) e.lo).length_le
   have := h.len e.key
   omega
  ·have := h.len k'; omega
theorem Tab.WF.mono {T : Tab} {N M : Nat} (h : T.WF N) (hm : N ≤ M) : T.WF M := ⟨h.sort, fun k => Nat.le_trans (h.len k) hm⟩
theorem Tab.WF.putR {T : Tab} {N : Nat} (h : T.WF N) (hn : (T.rows.map (·.1)).Nodup) (e : Ent) : (T.putR e).WF (N + 1) := by
 unfold Tab.putR
 split
 ·exact h.put hn e
 ·exact h.mono (by omega)
end Go.Proofs.YtomlgkecckffeaaGreat
