/- Put into a table, walked. Table: New, Len, Bytes, entry; spans; Meets; Find. -/
import Derived.Test.YtomlgkecckffeaaGreatA8
set_option linter.unusedVariables false
set_option linter.unusedSimpArgs false
set_option maxRecDepth 10000
namespace Go.Proofs.YtomlgkecckffeaaGreat
open Go.VW
set_option maxHeartbeats 16000000 in
theorem put_spec {w : World} {tb : Nat} {S : List Nat} {T : Tab} {N : Nat} {e : Ent} {K : Value → World → Prop} (h : TabAt w tb S T) (hwf : T.WF N) (hN : N ≤ 1000000000)
  (hK : ∀ w' S', TabAt w' tb S' (T.putR e) → (∀ x ∈ S, x ∈ S') → (∀ x ∈ S', x ∈ S ∨ w.heap.size ≤ x) → Fr S w w' → K (.bool (goodE e)) w') : CallsN Tryz.prog 114 [.pointer (some ⟨tb, 0, none⟩), .agg (encEnt e).toArray] w K := by
 have cw := cur w
 refine call114 ?_
 unfold encEnt
 simp (maxSteps:=9^7)(disch:=first|assumption|(simp only[dz];first|done|assumption|omega)|omega|apply_rules[Fr.refl,Fr.alloc,Fr.drew]|rfl) only [↓gsd,gs,gv,Nat.reduceAdd,Nat.reduceEqDiff, gt, ↓hk114]
 generalize hW : World.alloc w _ = w1
 have hf1 : Fr [] w w1 := by rw [← hW]; exact fr_
 have hz1 : w1.heap.size = w.heap.size + 1 := by rw [← hW]; simp only [gz]
 have ge : w1.heap[w.heap.size]? = some (.cells (encEnt e).toArray 52 (0, 0)) := by rw [← hW]; exact get_alloc_new _ _
 clear hW
 have cw1 := cur w1
 have hfS1 : Fr S w w1 := Fr.trans (M' := []) (Fr.refl _ w) hf1 (by simp)
 refine good_spec (e := e) fun w2 hf2 => ?_
 have cw2 := cur w2
 have hz2 := hf2.size
 have hfS2 := hfS1.trans' hf2
 have h2 := (h.frN hf1).frN hf2
 have ge2 := hf2.getN ge
 have hel2 := lt_of_get _ _ ge2
 unfold Tab.putR at hK
 cases hg : goodE e with
 | false =>
   rw [hg] at hK
   simp (maxSteps:=9^7)(disch:=first|assumption|(simp only[dz];first|done|assumption|omega)|omega|apply_rules[Fr.refl,Fr.alloc,Fr.drew]|rfl) only [↓gsd,gs,gv,Nat.reduceAdd,Nat.reduceEqDiff, gt, ↓hk114, hg]
   exact hK _ S h2 (fun x hx => hx) (fun x hx => .inl hx) hfS2
 | true =>
   rw [hg] at hK
   simp only [if_true] at hK
   unfold encEnt at ge2
   simp (maxSteps:=9^7)(disch:=first|assumption|(simp only[dz];first|done|assumption|omega)|omega|apply_rules[Fr.refl,Fr.alloc,Fr.drew]|rfl) only [↓gsd,gs,gv,Nat.reduceAdd,Nat.reduceEqDiff, gt, ↓hk114, hg, ge2]
   refine drop_spec h2 hwf (by omega) fun w3 h3 hf3 => ?_
   have cw3 := cur w3
   have hz3 := hf3.size
   have heS : w.heap.size ∉ S := fun hm => by have := h.lt _ hm; omega
   have ge3 := hf3.get ge2 heS
   have hel3 := lt_of_get _ _ ge3
   have hfS3 : Fr S w w3 := hfS2.trans hf3 fun y hy => .inl hy
   obtain ⟨⟨mb, hb3, hr3⟩, htS, hlt3⟩ := id h3
   have htl3 := lt_of_get _ _ hb3
   have hnd := h.nd
   have hwf1 := hwf.drop hnd e.key e.lo
   -- the map is there
   have hTail : ∀ (e' : Env) (w4 : World) (S4 : List Nat) (bm : Nat) (es : List (ByteArray × Value)), e' 0 = .pointer (some ⟨tb, 0, none⟩) → e' 3 = .pointer (some ⟨w.heap.size, 0, none⟩) → e' 5 = .string e.key → w4.heap[w.heap.size]? = some (.cells (encEnt e).toArray 52 (0, 0)) →
     w4.heap[tb]? = some (.cells ([.map (some bm), .int .i64 (T.drop e.key e.lo).n, .int .i64 (T.drop e.key e.lo).bytes] : List Value).toArray 194 (0, 0)) → RowsM w4 S4 bm (T.drop e.key e.lo).rows es → (∀ x ∈ S, x ∈ S4) → (∀ x ∈ S4, x ∈ S ∨ w.heap.size ≤ x) → (∀ x ∈ S4, x < w4.heap.size ∧ x ≠ w.heap.size) → Fr S w w4 →
     W2 Tryz.prog 75 V114 c114_5 (retQ Tryz.prog [.tmp 4] K) e' w4 := by
    intro e' w4 S4 bm es e0 e3 e5 ge4 hb4 hr4 hS1 hS2 hS3 hF4
    have cw4 := cur w4
    have hTA : TabAt w4 tb S4 (T.drop e.key e.lo) := ⟨⟨some bm, hb4, es, hr4⟩, hS1 _ htS, fun x hx => (hS3 x hx).1⟩
    have hz4 := hF4.size
    have hel4 := lt_of_get _ _ ge4
    have ge4' := ge4
    unfold encEnt at ge4'
    simp (maxSteps:=9^7)(disch:=first|assumption|(simp only[dz];first|done|assumption|omega)|omega|apply_rules[Fr.refl,Fr.alloc,Fr.drew]|rfl) only [↓gsd,gs,gv,Nat.reduceAdd,Nat.reduceEqDiff, gt, ↓hk114, e0, e3, e5, ge4']
    refine find_spec hTA hwf1 (by omega) fun w5 hf5 => ?_
    have cw5 := cur w5
    have hz5 := hf5.size
    have hrow := drop_row (k := e.key) (lo := e.lo) hnd e.key
    rw [if_pos rfl] at hrow
    have hrl := hwf1.len e.key
    rw [hrow] at hrl ⊢
    have hb5 := hf5.getN hb4
    have ge5 := hf5.getN ge4'
    have hel5 := lt_of_get _ _ ge5
    have htl5 := lt_of_get _ _ hb5
    have hr5 : RowsM w5 S4 bm (T.drop e.key e.lo).rows es := hr4.fr (fun x hx => (hS3 x hx).1) hf5 (by simp)
    obtain ⟨ents, clock, hbo, _⟩ := id hr5.map.ex
    have hbl5 := lt_of_get _ _ hbo
    have hm := hr5.map
    rw [hbo] at hm
    have hmv := fun orig K => mapV_at inj_string hm orig K
    obtain ⟨g1, g2⟩ := hr5.get e.key
    change Own 8 52 w5 ((aget es e.key).getD sliceZ) ((T.drop e.key e.lo).row e.key).length (cellsOf encEnt ((T.drop e.key e.lo).row e.key)) at g1
    rw [hrow] at g1
    have hek : ∀ k' v', k' ≠ e.key → aget es k' = some v' → ∀ b, ((aget es e.key).getD sliceZ).ownBlock = some b → v'.ownBlock ≠ some b := fun k' v' hk e1 b hb => by
     cases he : aget es e.key with
     | none => rw [he] at hb; simp [Value.ownBlock] at hb
     | some v0 =>
       rw [he] at hb
       exact hr5.apart e.key k' v0 v' (fun q => hk q.symm) he e1 b hb
    generalize hV : (aget es e.key).getD sliceZ = V at g1 g2 hek
    have htm : tb ≠ bm := fun q => by rw [q, hbo] at hb5; cases hb5
    have htv : tb ∉ blkL V := fun hm' => own_head g1 hb5 (by decide) (mem_blkL.1 hm')
    have hbv : bm ∉ blkL V := fun hm' => own_map g1 hbo (mem_blkL.1 hm')
    have hev : w.heap.size ∉ blkL V := fun hm' => (hS3 _ (g2 _ (mem_blkL.1 hm'))).2 rfl
    have hFa : ∀ o, Fr (blkL V) w5.drew (w5.drew.alloc o) = True := fun o => eq_true ((Fr.refl _ _).alloc _)
    simp (maxSteps:=9^7)(disch:=first|assumption|(simp only[dz];first|done|assumption|omega)|omega|apply_rules[Fr.refl,Fr.alloc,Fr.drew]|rfl) only [↓gsd,gs,gv,Nat.reduceAdd,Nat.reduceEqDiff, gt, ↓hk114, e0, e3, e5]
    refine draw_intro2 (w := w5.drew) (fun _ => blkL V) ?_
    simp (maxSteps:=9^7)(disch:=first|assumption|(simp only[dz];first|done|assumption|omega)|omega|apply_rules[Fr.refl,Fr.alloc,Fr.drew]|rfl) only [↓gsd,gs,gv,Nat.reduceAdd,Nat.reduceEqDiff, gt, ↓hk114, Fr_self, e0, e3, e5, hb5, htv, hbv, hev, hbo, hmv, ge5, hV, hFa]
    generalize hW : World.alloc w5.drew _ = w6
    have hf6 : Fr [] w5 w6 := by rw [← hW]; exact (Fr.refl _ _).drew.alloc _
    have hz6 : w6.heap.size = w5.heap.size + 1 := by rw [← hW]; simp only [gz]
    have hx6 : Blk w6 w5.heap.size 52 (encEnt e) := by rw [← hW]; exact get_alloc_new w5.drew _
    have hT6 : Fr (blkL V) w5.drew w6 := by rw [← hW]; exact (Fr.refl _ _).alloc _
    clear hW
    have cw6 := cur w6
    have g16 := Go.Proofs.YtomlgkecckffeaaGreat.Own.frN g1 hf6
    refine ins_spec g16 (idxE_le _ _) (by omega) hx6 (fun q => by have := (hS3 _ (g2 _ q)).1; omega) fun v' w7 hown7 hbk7 hf7 => ?_
    have cw7 := cur w7
    have hz7 := hf7.size
    have hT7 : Fr (blkL V) w5.drew w7 := hT6.trans hf7 fun y hy => .inl hy
    have hF57 : Fr (blkL V) w5 w7 := Fr.trans (Fr.trans (M' := []) (Fr.refl _ w5) hf6 (by simp)) hf7 fun y hy => .inl hy
    have hbo7 := hF57.get hbo hbv
    have hbl7 := lt_of_get _ _ hbo7
    have hb7 := hF57.get hb5 htv
    have htl7 := lt_of_get _ _ hb7
    have ge7 := hF57.get ge5 hev
    have hm7 : MapAt Value.string w7.heap[bm]? es := by rw [hbo7]; exact hm
    have hup := (map_updateX (P := Tryz.prog) Tryz.runUnderlying192 kOK192 hm7 e.key v').2
    rw [hbo7] at hup
    have hSz : ∀ x ∈ S4, x < w5.heap.size := fun x hx => by have := (hS3 x hx).1; omega
    rw [← insL_len (delE (T.row e.key) e.lo) (idxE (delE (T.row e.key) e.lo) e.lo) e] at hown7
    have hset := hr5.set (S' := blkL v' ++ S4) hF57 hbv (fun k' v'' hk' e1 b hb hm' => hek k' v'' hk' e1 b (mem_blkL.1 hm') hb) hown7 (fun y hy => List.mem_append_right _ hy) (fun b hb => List.mem_append_left _ (mem_blkL.2 hb)) (fun k' v'' hk' e1 b hb q => by
     rcases hbk7 with q1 | ⟨b', q1, q2⟩
     ·exact hek k' v'' hk' e1 b (q1 ▸ hb) q
     ·rw [q1] at hb; cases hb
      have hk : k' ∈ (T.drop e.key e.lo).rows.map (·.1) := by rw [← hr5.keys]; exact (mem_keys_aget es k').2 ⟨_, e1⟩
      obtain ⟨l', e3⟩ := (mem_keys_aget _ k').1 hk
      have := hSz _ ((hr5.own k' v'' l' e1 e3).2 b q)
      omega) hup
    have hS'lt : ∀ x ∈ blkL v' ++ S4, x < w7.heap.size := fun x hx => by
     rcases List.mem_append.1 hx with hx | hx
     ·exact hown7.lt (mem_blkL.1 hx)
     ·have := hSz x hx; omega
    have hS'2 : ∀ x ∈ blkL v' ++ S4, x ∈ S ∨ w.heap.size ≤ x := fun x hx => by
     rcases List.mem_append.1 hx with hx | hx
     ·rcases hbk7 with q1 | ⟨b', q1, q2⟩
      ·exact hS2 x (g2 x (q1 ▸ mem_blkL.1 hx))
      ·rw [mem_blkL.1 hx] at q1; cases q1; exact .inr (by omega)
     ·exact hS2 x hx
    have hFw7 : Fr S w w7 := ((hF4.trans' hf5).trans hF57 fun y hy => hS2 y (g2 y (mem_blkL.1 hy)))
    simp (maxSteps:=9^7)(disch:=first|assumption|(simp only[dz];first|done|assumption|omega)|omega|apply_rules[Fr.refl,Fr.alloc,Fr.drew]|rfl) only [↓gsd,gs,gv,Nat.reduceAdd,Nat.reduceEqDiff, gt, ↓hk114, eq_true hT7, hbo7, hmv, e0, e3, e5]
    generalize hW : World.setB w7 bm _ = w8 at *
    have hf8 : Fr [bm] w7 w8 := by rw [← hW]; exact fr_
    clear hW
    have cw8 := cur w8
    have hz8 := hf8.size
    have hb8 := hf8.get hb7 (by simp; exact htm)
    have hbm8 : w.heap.size ≠ bm := fun q => (hS3 _ hr5.mem).2 q.symm
    have ge8 := hf8.get ge7 (by simp; exact hbm8)
    have htl8 := lt_of_get _ _ hb8
    have hel8 := lt_of_get _ _ ge8
    simp (maxSteps:=9^7)(disch:=first|assumption|(simp only[dz];first|done|assumption|omega)|omega|apply_rules[Fr.refl,Fr.alloc,Fr.drew]|rfl) only [↓gsd,gs,gv,Nat.reduceAdd,Nat.reduceEqDiff, gt, ↓hk114, hb7, hb8, e0, e3, e5]
    generalize hW : World.setB w8 tb _ = w9
    have hf9 : Fr [tb] w8 w9 := by rw [← hW]; exact fr_
    have hb9 : w9.heap[tb]? = some (.cells ([.map (some bm), .int .i64 (IntKind.i64.wrap ((T.drop e.key e.lo).n + 1)), .int .i64 (T.drop e.key e.lo).bytes] : List Value).toArray 194 (0, 0)) := by rw [← hW]; simp (maxSteps:=9^7)(disch:=first|assumption|(simp only[dz];first|done|assumption|omega)|omega|apply_rules[Fr.refl,Fr.alloc,Fr.drew]|rfl) only [↓gsd,gs,gv,Nat.reduceAdd,Nat.reduceEqDiff]
    clear hW
    have cw9 := cur w9
    have hz9 := hf9.size
    have htl9 := lt_of_get _ _ hb9
    have hte : w.heap.size ≠ tb := fun q => heS (by rw [q]; exact htS)
    have ge9 := hf9.get ge8 (by simp; exact hte)
    have hel9 := lt_of_get _ _ ge9
    refine draw_intro2 (w := w9.drew) (fun t => if t = 8 then [tb] else []) ?_
    simp (maxSteps:=9^7)(disch:=first|assumption|(simp only[dz];first|done|assumption|omega)|omega|apply_rules[Fr.refl,Fr.alloc,Fr.drew]|rfl) only [↓gsd,gs,gv,Nat.reduceAdd,Nat.reduceEqDiff, gt, ↓hk114, Fr_self, hb9, ge9, e0, e3, e5]
    refine cost_spec (e := e) fun w10 hf10 => ?_
    have cw10 := cur w10
    have hz10 := hf10.size
    have hf910 : Fr [] w9 w10 := (Fr.refl _ _).drew.trans' hf10
    have hb10 := hf910.getN hb9
    have htl10 := lt_of_get _ _ hb10
    have hT10 : ∀ o, Fr [tb] w9.drew (w10.setB tb o) = True := fun o => eq_true ((Fr.trans (M' := []) (Fr.refl [tb] _) hf10 (by simp)).setB _ _ (.inl (by simp)))
    have hT10' : Fr [tb] w9.drew w10 = True := eq_true (Fr.trans (M' := []) (Fr.refl [tb] _) hf10 (by simp))
    simp (maxSteps:=9^7)(disch:=first|assumption|(simp only[dz];first|done|assumption|omega)|omega|apply_rules[Fr.refl,Fr.alloc,Fr.drew]|rfl) only [↓gsd,gs,gv,Nat.reduceAdd,Nat.reduceEqDiff, gt, ↓hk114, eq_true hf10, hT10, hT10', hb10, e0, e3, e5]
    generalize hW : World.setB w10 tb _ = w11
    have hf11 : Fr [tb] w10 w11 := by rw [← hW]; exact fr_
    have hb11 : w11.heap[tb]? = some (.cells ([.map (some bm), .int .i64 (IntKind.i64.wrap ((T.drop e.key e.lo).n + 1)), .int .i64 (IntKind.i64.wrap ((T.drop e.key e.lo).bytes + costE e))] : List Value).toArray 194 (0, 0)) := by rw [← hW]; simp (maxSteps:=9^7)(disch:=first|assumption|(simp only[dz];first|done|assumption|omega)|omega|apply_rules[Fr.refl,Fr.alloc,Fr.drew]|rfl) only [↓gsd,gs,gv,Nat.reduceAdd,Nat.reduceEqDiff]
    clear hW
    have hF811 : Fr [tb] w8 w11 := (hf9.trans' hf910).trans hf11 fun y hy => .inl hy
    refine hK w11 (blkL v' ++ S4) ⟨⟨some bm, hb11, _, hset.head hb8 hF811⟩, List.mem_append_right _ (hS1 _ htS), fun x hx => ?_⟩ (fun x hx => List.mem_append_right _ (hS1 x hx)) hS'2 ?_
    ·have := hS'lt x hx; have := hF811.size; omega
    ·exact ((hFw7.trans hf8 fun y hy => by simp at hy; subst hy; exact hS2 _ hr5.mem)).trans hF811 fun y hy => by simp at hy; subst hy; exact .inl htS
   cases mb with
   | none =>
     have hrn : (T.drop e.key e.lo).rows = [] := hr3
     simp (maxSteps:=9^7)(disch:=first|assumption|(simp only[dz];first|done|assumption|omega)|omega|apply_rules[Fr.refl,Fr.alloc,Fr.drew]|rfl) only [↓gsd,gs,gv,Nat.reduceAdd,Nat.reduceEqDiff, gt, ↓o114_0_eq, ↓o114_3_eq, ↓o114_4_eq, ↓o114_7_eq, ↓o114_8_eq, ↓o114_9_eq, ↓o114_10_eq, ↓o114_11_eq, ↓c114_9_s, ↓c114_8_s, ↓c114_7_s, ↓c114_6_s, ↓o114_5_eq, ↓o114_6_eq, ↓c114_12_s, ↓c114_11_s, ↓c114_10_s, ↓c114_4_s, ↓c114_3_s, ↓c114_2_s, ↓o114_1_eq, ↓o114_2_eq, ↓c114_15_s, ↓c114_14_s, ↓c114_13_s, ↓c114_1_s, ↓c114_s, ge3, hb3]
     have hF4 : Fr S w ((w3.alloc (Obj.map #[] 0)).setB tb (Obj.cells ([Value.map (some w3.heap.size), Value.int IntKind.i64 (T.drop e.key e.lo).n, Value.int IntKind.i64 (T.drop e.key e.lo).bytes] : List Value).toArray 194)) := (hfS3.alloc _).setB _ _ (.inl htS)
     have hne : ¬ tb = w3.heap.size := by omega
     refine hTail _ _ (w3.heap.size :: S) w3.heap.size [] rfl rfl rfl ?_ ?_ ?_ (fun x hx => List.mem_cons_of_mem _ hx) (fun x hx => ?_) (fun x hx => ?_) hF4
     ·rw [get_setB_ne _ _ _ _ (fun q => heS (by rw [← q]; exact htS)), get_alloc_old _ _ _ hel3]; exact ge3
     ·rw [get_setB_same _ _ _ (by rw [size_alloc]; omega)]
     ·rw [hrn]
      refine ⟨List.mem_cons_self .., ?_, rfl, fun k v l q => by simp [aget] at q, fun k k' v v' _ q => by simp [aget] at q⟩
      rw [get_setB_ne _ _ _ _ hne, get_alloc_new]; exact MapAt.empty
     ·rcases List.mem_cons.1 hx with rfl | hx
      ·exact .inr (by omega)
      ·exact .inl hx
     ·rw [size_setB, size_alloc]
      rcases List.mem_cons.1 hx with rfl | hx
      ·omega
      ·have := hlt3 x hx
       exact ⟨by omega, fun q => heS (q ▸ hx)⟩
   | some bm =>
     obtain ⟨es, hr3⟩ := hr3
     simp (maxSteps:=9^7)(disch:=first|assumption|(simp only[dz];first|done|assumption|omega)|omega|apply_rules[Fr.refl,Fr.alloc,Fr.drew]|rfl) only [↓gsd,gs,gv,Nat.reduceAdd,Nat.reduceEqDiff, gt, ↓o114_0_eq, ↓o114_3_eq, ↓o114_4_eq, ↓o114_7_eq, ↓o114_8_eq, ↓o114_9_eq, ↓o114_10_eq, ↓o114_11_eq, ↓c114_9_s, ↓c114_8_s, ↓c114_7_s, ↓c114_6_s, ↓o114_5_eq, ↓o114_6_eq, ↓c114_12_s, ↓c114_11_s, ↓c114_10_s, ↓c114_4_s, ↓c114_3_s, ↓c114_2_s, ↓o114_1_eq, ↓o114_2_eq, ↓c114_15_s, ↓c114_14_s, ↓c114_13_s, ↓c114_1_s, ↓c114_s, ge3, hb3]
     exact hTail _ w3 S bm es rfl rfl rfl ge3 hb3 hr3 (fun x hx => hx) (fun x hx => .inl hx) (fun x hx => ⟨hlt3 x hx, fun q => heS (q ▸ hx)⟩) hfS3
theorem new_spec {w : World} {K : Value → World → Prop} (hK : ∀ tb w', Fr [] w w' → w.heap.size ≤ tb → TabAt w' tb [tb] ⟨[], 0, 0⟩ → K (.pointer (some ⟨tb, 0, none⟩)) w') : CallsN Tryz.prog 107 [] w K := by
 have cw := cur w
 refine call107 ?_
 simp (maxSteps:=9^7)(disch:=first|assumption|(simp only[dz];first|done|assumption|omega)|omega|apply_rules[Fr.refl,Fr.alloc,Fr.drew]|rfl) only [↓gd,gp,Nat.reduceAdd,Nat.reduceEqDiff, ↓hk107]
 refine hK _ _ ((Fr.refl _ _).alloc _) (Nat.le_refl _) ⟨⟨none, get_alloc_new _ _, rfl⟩, by simp, fun x hx => ?_⟩
 simp at hx; subst hx; rw [size_alloc]; omega
theorem bytes_spec {w : World} {tb : Nat} {S : List Nat} {T : Tab} {K : Value → World → Prop} (h : TabAt w tb S T) (hK : K (.int .i64 T.bytes) w) : CallsN Tryz.prog 78 [.pointer (some ⟨tb, 0, none⟩)] w K := by
 have cw := cur w
 obtain ⟨⟨mb, h1, _⟩, _, _⟩ := h
 have hlt := lt_of_get _ _ h1
 refine call78 ?_
 simp (maxSteps:=9^7)(disch:=first|assumption|(simp only[dz];first|done|assumption|omega)|omega|apply_rules[Fr.refl,Fr.alloc,Fr.drew]|rfl) only [↓gd,gp,Nat.reduceAdd,Nat.reduceEqDiff, ↓hk78, h1]
 exact hK
abbrev entZ : Ent := ⟨⟨#[]⟩, false, ⟨#[]⟩, 0, 0, false, 0, 0⟩
end Go.Proofs.YtomlgkecckffeaaGreat
