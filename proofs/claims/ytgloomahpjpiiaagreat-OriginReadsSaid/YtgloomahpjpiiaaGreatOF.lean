/- commit. commit: keys, append, records. commit: a request that is new. -/
import Derived.Test.YtgloomahpjpiiaaGreatOB
import Derived.Test.YtgloomahpjpiiaaGreatS7
set_option linter.unusedVariables false
set_option linter.unusedSimpArgs false
set_option maxRecDepth 10000
namespace Go.Proofs.YtgloomahpjpiiaaGreat.Or
open Go.VW
def ackA (m : Msg) (q : Req) : Ans := ⟨{ msg0 with kind := 2, ses := m.ses, seq := m.seq, n := q.n, err := q.err }, []⟩
def Ori.req (o : Ori) (s : Int) : Req := (aget o.ses s).getD req0
set_option maxHeartbeats 4000000 in
theorem ack_spec {w : World} {mb : Nat} {m : Msg} {q : Req} {K : Value → World → Prop} (hm : w.heap[mb]? = some (.cells (encMsg m).toArray 40 (0, 0)))
  (hK : ∀ w', Fr [] w w' → K (.agg (encMsg (ackA m q).m).toArray) w') : CallsN Tryz.prog 55 [reqV q, .pointer (some ⟨mb, 0, none⟩)] w K := by
 have cw := cur w
 have lm := lt_of_get _ _ hm
 unfold encMsg at hm
 unfold ackA msg0 encMsg at hK
 refine call55 ?_
 unfold reqV encReq
 simp (maxSteps:=4000000)(disch:=first|assumption|(simp only[dz];first|done|assumption|omega)|omega|apply_rules[Fr.refl,Fr.alloc,Fr.drew]|rfl) only [↓gd,gp,Nat.reduceAdd,Nat.reduceEqDiff, ↓hk55, hm]
 exact hK _ (by (repeat (first | exact Fr.refl _ _ | assumption | with_reducible apply Fr.alloc | with_reducible apply Fr.drew | with_reducible refine Fr.setB ?_ _ _ (.inr (by first | omega | (simp only [gz]; omega))) | with_reducible refine Fr.setB ?_ _ _ (.inl (by first | assumption | simp)) | with_reducible refine Fr.trans' ?_ (by assumption))))
theorem i64_inj : ∀ a b : Int, Value.int .i64 a = Value.int .i64 b → a = b := fun a b h => by injection h
set_option maxHeartbeats 16000000 in
theorem commit_old {w : World} {a : Ad} {Wr Rd : List Nat} {o : Ori} {m : Msg} {K : Value → World → Prop} (h : OrAt w a Wr Rd o) (hs : m.seq ≤ (o.req m.ses).seq)
  (hK : ∀ v w', AnsAt w' (fun b => w.heap.size ≤ b) (fun b => w.heap.size ≤ b) v (if m.seq < (o.req m.ses).seq then [] else [ackA m (o.req m.ses)]) → Fr [] w w' → K v w') :
  CallsN Tryz.prog 31 [.pointer (some ⟨a.ob, 0, none⟩), .agg (encMsg m).toArray] w K := by
 have cw := cur w
 have hd := h.hd
 have hms := h.ms
 have lq := h.ms.lt
 refine call31 ?_
 unfold encMsg
 simp (maxSteps:=4000000)(disch:=first|assumption|(simp only[dz];first|done|assumption|omega)|omega|apply_rules[Fr.refl,Fr.alloc,Fr.drew]|rfl) only [↓gd,gp,Nat.reduceAdd,Nat.reduceEqDiff, ↓c31_14_s, ↓c31_21_s, ↓c31_24_s, ↓c31_23_s, ↓c31_22_s, ↓c31_20_s, ↓c31_25_s, ↓c31_19_s, ↓c31_18_s, ↓c31_17_s, ↓c31_16_s, ↓c31_15_s, ↓c31_13_s, ↓c31_12_s, ↓c31_32_s, ↓c31_35_s, ↓c31_34_s, ↓c31_33_s, ↓c31_31_s, ↓c31_36_s, ↓c31_30_s, ↓c31_29_s, ↓c31_28_s, ↓c31_27_s, ↓c31_26_s, ↓c31_11_s, ↓c31_10_s, ↓c31_39_s, ↓c31_38_s, ↓c31_37_s, ↓c31_9_s, ↓c31_8_s, ↓c31_7_s, ↓c31_6_s, ↓c31_5_s, ↓c31_42_s, ↓c31_41_s, ↓c31_40_s, ↓c31_4_s, ↓c31_3_s, ↓c31_45_s, ↓c31_44_s, ↓c31_43_s, ↓c31_2_s, ↓c31_s, ↓w3t_31]
 generalize hW : World.alloc w _ = w1
 have hf1 : Fr [] w w1 := by rw [← hW]; (repeat (first | exact Fr.refl _ _ | assumption | with_reducible apply Fr.alloc | with_reducible apply Fr.drew | with_reducible refine Fr.setB ?_ _ _ (.inr (by first | omega | (simp only [gz]; omega))) | with_reducible refine Fr.setB ?_ _ _ (.inl (by first | assumption | simp)) | with_reducible refine Fr.trans' ?_ (by assumption)))
 have hz1 : w1.heap.size = w.heap.size + 1 := by rw [← hW]; simp only [gz]
 have g : w1.heap[w.heap.size]? = some (.cells (encMsg m).toArray 40 (0, 0)) := by rw [← hW]; exact get_alloc_new _ _
 clear hW
 have cw1 := cur w1
 have hd1 := hf1.getN hd
 have hm1 : MapAt (Value.int .i64) w1.heap[a.qb]? (sesV o.ses) := by rw [hf1.keepN _ lq]; exact hms
 unfold encMsg at g
 have hq : (aget (sesV o.ses) m.ses).getD (.agg ([(.int .i64 0), (.int .i64 0), (.int .i64 0)] : List Value).toArray) = .agg (encReq (o.req m.ses)).toArray := by
  rw [aget_ses, Ori.req]
  cases aget o.ses m.ses <;> rfl
 unfold encReq at hq
 have hmv := fun orig K => mapV_at i64_inj hm1 orig K
 simp (maxSteps:=4000000)(disch:=first|assumption|(simp only[dz];first|done|assumption|omega)|omega|apply_rules[Fr.refl,Fr.alloc,Fr.drew]|rfl) only [↓gd,gp,Nat.reduceAdd,Nat.reduceEqDiff, ↓c31_14_s, ↓c31_21_s, ↓c31_24_s, ↓c31_23_s, ↓c31_22_s, ↓c31_20_s, ↓c31_25_s, ↓c31_19_s, ↓c31_18_s, ↓c31_17_s, ↓c31_16_s, ↓c31_15_s, ↓c31_13_s, ↓c31_12_s, ↓c31_32_s, ↓c31_35_s, ↓c31_34_s, ↓c31_33_s, ↓c31_31_s, ↓c31_36_s, ↓c31_30_s, ↓c31_29_s, ↓c31_28_s, ↓c31_27_s, ↓c31_26_s, ↓c31_11_s, ↓c31_10_s, ↓c31_39_s, ↓c31_38_s, ↓c31_37_s, ↓c31_9_s, ↓c31_8_s, ↓c31_7_s, ↓c31_6_s, ↓c31_5_s, ↓c31_42_s, ↓c31_41_s, ↓c31_40_s, ↓c31_4_s, ↓c31_3_s, ↓c31_45_s, ↓c31_44_s, ↓c31_43_s, ↓c31_1_s, ↓c31_s, ↓w3t_31, g, hd1, hmv, hq]
 generalize hW : World.alloc (World.drew w1) _ = w2
 have hf2 : Fr [] w1 w2 := by rw [← hW]; exact (Fr.drew (Fr.refl _ _)).alloc _
 have hz2 : w2.heap.size = w1.heap.size + 1 := by rw [← hW]; simp only [gz]
 have gq : w2.heap[w1.heap.size]? = some (.cells (encReq (o.req m.ses)).toArray 99 (0, 0)) := by rw [← hW, ← size_drew w1]; exact get_alloc_new _ _
 clear hW
 have cw2 := cur w2
 have hd2 := hf2.getN hd1
 have g2 := hf2.getN g
 unfold encReq at gq
 by_cases q : m.seq < (o.req m.ses).seq
 ·have d : decide (m.seq < (o.req m.ses).seq) = true := decide_eq_true q
  rw [if_pos q] at hK
  simp (maxSteps:=4000000)(disch:=first|assumption|(simp only[dz];first|done|assumption|omega)|omega|apply_rules[Fr.refl,Fr.alloc,Fr.drew]|rfl) only [↓gd,gp,Nat.reduceAdd,Nat.reduceEqDiff, ↓hk31, g2, gq, d]
  exact hK _ _ AnsAt.nil (hf1.trans' hf2)
 ·have d : decide (m.seq < (o.req m.ses).seq) = false := decide_eq_false q
  have d2 : decide (m.seq = (o.req m.ses).seq) = true := decide_eq_true (by omega)
  rw [if_neg q] at hK
  simp (maxSteps:=4000000)(disch:=first|assumption|(simp only[dz];first|done|assumption|omega)|omega|apply_rules[Fr.refl,Fr.alloc,Fr.drew]|rfl) only [↓gd,gp,Nat.reduceAdd,Nat.reduceEqDiff, ↓hk31, g2, gq, d, d2]
  refine ack_spec g2 fun w3 hf3 => ?_
  have cw3 := cur w3
  have hz3 := hf3.size
  have hlen : (encMsg (ackA m (o.req m.ses)).m).length = 16 := rfl
  simp (maxSteps:=4000000)(disch:=first|assumption|(simp only[dz];first|done|assumption|omega)|omega|apply_rules[Fr.refl,Fr.alloc,Fr.drew]|rfl) only [↓gd,gp,Nat.reduceAdd,Nat.reduceEqDiff, ↓hk31, hlen]
  exact hK _ _ (AnsAt.one (get_alloc_new _ _) (AnsIs.plain ⟨rfl, rfl, rfl⟩) (by omega)) (((hf1.trans' hf2).trans' hf3).alloc _)
theorem Sm.LogAt.min {w : World} {lb : Nat} {Wr Rd : List Nat} {L : List Sm.Ks} (h : Sm.LogAt w lb Wr Rd L) : ∃ Wr0, Sm.LogAt w lb Wr0 Rd L ∧ (∀ x ∈ Wr0, x ∈ Wr) ∧ ∀ x ∈ Wr0, ∀ cs fr, w.heap[x]? ≠ some (.cells cs 94 fr) := by
 obtain ⟨⟨vl, vs, hh, ho, hl, hk, hb⟩, h1, h2, h3, h4⟩ := h
 refine ⟨lb :: blkL vl, ⟨⟨vl, vs, hh, ho, hl, hk, fun b hb => List.mem_cons_of_mem _ (Sm.mem_blkL.2 hb)⟩, List.mem_cons_self, fun x hx => ?_, h3, h4⟩, fun x hx => ?_, fun x hx cs fr e => ?_⟩
 ·rcases hx with hx | hx
  ·rcases List.mem_cons.1 hx with rfl | hx
   ·exact h2 _ (.inl h1)
   ·exact h2 _ (.inl (hb _ (Sm.mem_blkL.1 hx)))
  ·exact h2 _ (.inr hx)
 ·rcases List.mem_cons.1 hx with rfl | hx
  ·exact h1
  ·exact hb _ (Sm.mem_blkL.1 hx)
 ·rcases List.mem_cons.1 hx with rfl | hx
  ·rw [hh] at e; cases e
  ·exact Sm.own_head ho e (by decide) (Sm.mem_blkL.1 hx)
theorem OrAt.min {w : World} {a : Ad} {Wr Rd : List Nat} {o : Ori} (h : OrAt w a Wr Rd o) : ∃ Wr0, OrAt w a Wr0 Rd o ∧ (∀ x ∈ Wr0, x ∈ Wr) ∧ ∀ x ∈ Wr0, ∀ cs fr, w.heap[x]? ≠ some (.cells cs 94 fr) := by
 obtain ⟨h1, h2, h3, h4, h5, h6, h7⟩ := h
 obtain ⟨Wr0, q1, q2, q3⟩ := Sm.LogAt.min h3
 exact ⟨Wr0, ⟨h1, h2, q1, h4, fun x hx => ⟨fun e => (h5 x hx).1 (q2 x e), (h5 x hx).2⟩, h6, h7⟩, q2, q3⟩
end Go.Proofs.YtgloomahpjpiiaaGreat.Or
namespace Go.Proofs.YtgloomahpjpiiaaGreat.Or
open Go.VW
def recsA (L : List Sm.Ks) (n : Int) (k : Nat) : List Ans := (List.range k).flatMap fun (i : Nat) => (Sm.fromL L n 1).map (recA (i : Int))
theorem recsA_len (L : List Sm.Ks) (n : Int) (k : Nat) : (recsA L n k).length ≤ k := by
 unfold recsA
 induction k with
 | zero => simp
 | succ j ih =>
   have h1 : (Sm.fromL L n 1).length ≤ 1 := by unfold Sm.fromL; rw [List.length_take]; exact Nat.min_le_left _ _
   rw [List.range_succ, List.flatMap_append, List.length_append]
   simp only [List.flatMap_cons, List.flatMap_nil, List.append_nil, List.length_map]
   exact Nat.add_le_add ih h1
def Fresh (w : World) (Wr Rd : List Nat) (b : Nat) : Prop := w.heap.size ≤ b ∧ b ∉ Wr ∧ b ∉ Rd
theorem storeFrM {w w' : World} {b bm : Nat} {st : St.St} (h : St.StoreAt w b bm st) {M : List Nat} (hf : Fr M w w') (hb : b ∉ M) (hbm : bm ∉ M) (ht : ∀ x ∈ M, ∀ cs fr, w.heap[x]? ≠ some (.cells cs 94 fr)) : St.StoreAt w' b bm st :=
 ⟨hf.get h.head hb, by rw [hf.keep _ h.lt.2.1 hbm]; exact h.rows.fr hf ht⟩
theorem OrAt.frA {w w' : World} {a : Ad} {Wr Rd : List Nat} {o : Ori} {R R' : Nat → Prop} {v : Value} {l : List Ans} (h : OrAt w a Wr Rd o) (ha : AnsAt w R R' v l) (hf : Fr (blkL v) w w')
  (hR : ∀ b, R' b → b ∉ Wr ∧ b ∉ Rd ∧ b ≠ a.ob ∧ b ≠ a.sb ∧ b ≠ a.sm ∧ b ≠ a.qb) : OrAt w' a Wr Rd o := by
 obtain ⟨h1, h2, h3, h4, h5, h6, h7⟩ := h
 have hb : ∀ x ∈ blkL v, R' x := fun x hx => ha.blk x (Sm.mem_blkL.1 hx)
 obtain ⟨⟨ms, ho, _, _⟩, _⟩ := ha
 refine ⟨hf.get h1 (fun e => (hR _ (hb _ e)).2.2.1 rfl), storeFrM h2 hf (fun e => (hR _ (hb _ e)).2.2.2.1 rfl) (fun e => (hR _ (hb _ e)).2.2.2.2.1 rfl) (fun x hx cs fr e => Sm.own_head ho e (by decide) (Sm.mem_blkL.1 hx)),
  h3.fr hf (fun x hx => ⟨(hR _ (hb _ hx)).1, (hR _ (hb _ hx)).2.1⟩), ?_, h5, h6, h7⟩
 rw [hf.keep _ h4.lt (fun e => (hR _ (hb _ e)).2.2.2.2.2 rfl)]; exact h4
set_option maxHeartbeats 32000000 in
theorem commit_tail {w0 w : World} {M : List Nat} {a : Ad} {Wr Rd : List Nat} {o : Ori} {m : Msg} {ws : List St.Wr} {n : Int} {mb : Nat} {v0 : Value} {l0 : List Ans} {e : Env} {K : Value → World → Prop}
  (h : OrAt w a Wr Rd o) (hF : Fr M w0 w) (hM : ∀ x ∈ Wr, x ∈ M) (hw : SlOf 3 St.encWr w m.wv ws) (hwl : ws.length ≤ 8) (g : w.heap[mb]? = some (.cells (encMsg m).toArray 40 (0, 0)))
  (hn : 0 ≤ o.cfg.nodes ∧ o.cfg.nodes ≤ 8) (hlt : ∀ x, x = a.ob ∨ x = a.sb ∨ x = a.sm ∨ x = a.qb ∨ x ∈ Wr ∨ x ∈ Rd → x < w0.heap.size)
  (ha : AnsAt w (fun b => w0.heap.size ≤ b ∧ b < w.heap.size) (fun b => w0.heap.size ≤ b ∧ b < w.heap.size) v0 l0) (hl0 : l0.length ≤ 1)
  (e0 : e 0 = .pointer (some ⟨a.ob, 0, none⟩)) (e3 : e 3 = .pointer (some ⟨mb, 0, none⟩)) (e7 : e 7 = .int .i64 n) (e10 : e 10 = v0)
  (hK : ∀ v w' Wr' Rd', OrAt w' a Wr' Rd' { o with L := (Sm.appL o.L (ws.map (·.key))).2 } → Fr M w0 w' → (∀ x ∈ Wr', x ∈ Wr ∨ w0.heap.size ≤ x) → (∀ x ∈ Rd', x ∈ Rd ∨ w0.heap.size ≤ x) →
   AnsAt w' (Fresh w0 Wr' Rd') (Fresh w0 Wr' Rd') v (l0 ++ recsA (Sm.appL o.L (ws.map (·.key))).2 n o.cfg.nodes.toNat) → K v w') :
  W3 Tryz.prog 101 V31 c31_10 (retQ Tryz.prog [ResultVar.tmp 4] K) e w := by
 have cw := cur w
 have hz0 := hF.size
 unfold encMsg at g
 obtain ⟨va, vc, hv⟩ := hw.form
 have hv2 : m.wl = ws.length := by simp only [Msg.wv, Value.slice.injEq] at hv; exact hv.2.1
 obtain ⟨oa, oc, hvo⟩ := ha.form
 rw [hvo] at e10
 simp (maxSteps:=4000000)(disch:=first|assumption|(simp only[dz];first|done|assumption|omega)|omega|apply_rules[Fr.refl,Fr.alloc,Fr.drew]|rfl) only [↓gd,gp,Nat.reduceAdd,Nat.reduceEqDiff, ↓c31_14_s, ↓c31_21_s, ↓c31_24_s, ↓c31_23_s, ↓c31_22_s, ↓c31_20_s, ↓c31_25_s, ↓c31_19_s, ↓c31_18_s, ↓c31_17_s, ↓c31_16_s, ↓c31_15_s, ↓c31_13_s, ↓c31_32_s, ↓c31_35_s, ↓c31_34_s, ↓c31_33_s, ↓c31_31_s, ↓c31_36_s, ↓c31_30_s, ↓c31_29_s, ↓c31_28_s, ↓c31_27_s, ↓c31_26_s, ↓c31_11_s, ↓c31_10_s, ↓c31_39_s, ↓c31_38_s, ↓c31_37_s, ↓c31_9_s, ↓c31_8_s, ↓c31_7_s, ↓c31_6_s, ↓c31_5_s, ↓c31_42_s, ↓c31_41_s, ↓c31_40_s, ↓c31_4_s, ↓c31_3_s, ↓c31_45_s, ↓c31_44_s, ↓c31_43_s, ↓c31_2_s, ↓c31_1_s, ↓c31_s, ↓w3t_31, e0, e3, e7, e10, g]
 rw [hv2]
 refine for_intro ws.length 69 0 (fun i e w' => e 0 = .pointer (some ⟨a.ob, 0, none⟩) ∧ e 7 = .int .i64 n ∧ e 10 = v0 ∧ e 67 = m.wv ∧ e 68 = .int .i64 ws.length ∧
  VW.Own 1 9 w' (e 11) i (cellsOf Sm.encS ((ws.take i).map (·.key))) ∧ (∀ b, (e 11).ownBlock = some b → w.heap.size ≤ b) ∧ Fr [] w w') ?_ (Nat.zero_le _) ?_ ?_
 ·simp (maxSteps:=4000000)(disch:=first|assumption|(simp only[dz];first|done|assumption|omega)|omega|apply_rules[Fr.refl,Fr.alloc,Fr.drew]|rfl) only [↓gsd,gs,gv,Nat.reduceAdd,Nat.reduceEqDiff]; rfl
 ·simp (maxSteps:=4000000)(disch:=first|assumption|(simp only[dz];first|done|assumption|omega)|omega|apply_rules[Fr.refl,Fr.alloc,Fr.drew]|rfl) only [↓gsd,gs,gv,Nat.reduceAdd,Nat.reduceEqDiff, hvo, hv2]
  exact ⟨e0, e7, e10, by rw [Msg.wv, hv2], VW.Own.nil, fun b hb => by simp [Value.ownBlock] at hb, Fr.refl _ _⟩
 rintro i e w1 kk hi e69 ⟨e0, e7, e10, e67, e68, ho, hob, hf⟩ hk
 have cw1 := cur w1
 have hz1 := hf.size
 by_cases hil : i < ws.length
 ·have d : decide ((i : Int) < (ws.length : Int)) = true := decide_eq_true (by omega)
  have i0 : (0 : Int) ≤ (i : Int) := by omega
  have i1 : (i : Int) < (ws.length : Int) := by omega
  have wr : IntKind.i64.wrap ((i : Int) + 1) = (i : Int) + 1 := wrap64 (by omega) (by omega)
  obtain ⟨x, hxi⟩ : ∃ x, ws[i]? = some x := ⟨ws[i]'hil, List.getElem?_eq_getElem hil⟩
  obtain ⟨bb, off, cap, ob, hv1, hob1, _, hrow, _⟩ := (hw.frN hf).read St.encWr_len i x hxi
  rw [hv1] at e67
  obtain ⟨ka, kc, hkv⟩ := ho.sl.form
  obtain ⟨kv, e11⟩ : ∃ kv, kv = e 11 := ⟨_, rfl⟩
  rw [← e11] at ho hob hkv
  unfold St.encWr at hrow
  simp (maxSteps:=4000000)(disch:=first|assumption|(simp only[dz];first|done|assumption|omega)|omega|apply_rules[Fr.refl,Fr.alloc,Fr.drew]|rfl) only [↓gd,gp,Nat.reduceAdd,Nat.reduceEqDiff, ↓c31_14_s, ↓c31_21_s, ↓c31_24_s, ↓c31_23_s, ↓c31_22_s, ↓c31_20_s, ↓c31_25_s, ↓c31_19_s, ↓c31_18_s, ↓c31_17_s, ↓c31_16_s, ↓c31_15_s, ↓c31_13_s, ↓c31_32_s, ↓c31_35_s, ↓c31_34_s, ↓c31_33_s, ↓c31_31_s, ↓c31_36_s, ↓c31_30_s, ↓c31_29_s, ↓c31_28_s, ↓c31_27_s, ↓c31_26_s, ↓c31_11_s, ↓c31_10_s, ↓c31_39_s, ↓c31_38_s, ↓c31_37_s, ↓c31_9_s, ↓c31_8_s, ↓c31_7_s, ↓c31_6_s, ↓c31_5_s, ↓c31_42_s, ↓c31_41_s, ↓c31_40_s, ↓c31_4_s, ↓c31_3_s, ↓c31_45_s, ↓c31_44_s, ↓c31_43_s, ↓c31_2_s, ↓c31_1_s, ↓c31_s, ↓w3t_31, e0, e7, e10, e67, e68, e69, ← e11, hkv, d, i0, i1, Int.toNat_natCast, hob1, hrow]
  generalize hW : World.alloc (World.alloc w1 _) _ = w3
  have hf3 : Fr [] w1 w3 := by rw [← hW]; (repeat (first | exact Fr.refl _ _ | assumption | with_reducible apply Fr.alloc | with_reducible apply Fr.drew | with_reducible refine Fr.setB ?_ _ _ (.inr (by first | omega | (simp only [gz]; omega))) | with_reducible refine Fr.setB ?_ _ _ (.inl (by first | assumption | simp)) | with_reducible refine Fr.trans' ?_ (by assumption)))
  have hz3 : w3.heap.size = w1.heap.size + 2 := by rw [← hW]; simp only [gz]
  have g3 : w3.heap[w1.heap.size + 1]? = some (.cells ([.string x.key] : List Value).toArray 9 (0, 0)) := by
   rw [← hW, ← size_alloc w1 (.cells #[.string x.key, .bool x.has, .string x.data] 66)]; exact get_alloc_new _ _
  clear hW
  have cw3 := cur w3
  have hsl : Sl 1 w3 (.slice (some ⟨w1.heap.size + 1, 0, none⟩) 1 1) 1 (Sm.encS x.key) := ⟨rfl, .inr ⟨w1.heap.size + 1, 0, 1, _, 9, (0, 0), rfl, g3, rfl⟩⟩
  rw [hkv] at ho hob
  obtain ⟨v4, w4, hr4, ho4, hf4, hbk⟩ := ap38 (ty := 38) (ho.frN hf3) hsl (by rfl) (by omega)
  have cw4 := cur w4
  have hF4 : Fr [] w w4 := (hf.trans' hf3).trans hf4 fun y hy => .inr (hob y (Sm.mem_blkL.1 hy))
  simp (maxSteps:=4000000)(disch:=first|assumption|(simp only[dz];first|done|assumption|omega)|omega|apply_rules[Fr.refl,Fr.alloc,Fr.drew]|rfl) only [↓gd,gp,Nat.reduceAdd,Nat.reduceEqDiff, ↓c31_14_s, ↓c31_21_s, ↓c31_24_s, ↓c31_23_s, ↓c31_22_s, ↓c31_20_s, ↓c31_25_s, ↓c31_19_s, ↓c31_18_s, ↓c31_17_s, ↓c31_16_s, ↓c31_15_s, ↓c31_13_s, ↓c31_32_s, ↓c31_35_s, ↓c31_34_s, ↓c31_33_s, ↓c31_31_s, ↓c31_36_s, ↓c31_30_s, ↓c31_29_s, ↓c31_28_s, ↓c31_27_s, ↓c31_26_s, ↓c31_11_s, ↓c31_10_s, ↓c31_39_s, ↓c31_38_s, ↓c31_37_s, ↓c31_9_s, ↓c31_8_s, ↓c31_7_s, ↓c31_6_s, ↓c31_5_s, ↓c31_42_s, ↓c31_41_s, ↓c31_40_s, ↓c31_4_s, ↓c31_3_s, ↓c31_45_s, ↓c31_44_s, ↓c31_43_s, ↓c31_2_s, ↓c31_1_s, ↓c31_s, ↓w3t_31, e0, e7, e10, e67, e68, e69, hr4, wr]
  refine hk _ _ hil rfl ?_
  simp (maxSteps:=4000000)(disch:=first|assumption|(simp only[dz];first|done|assumption|omega)|omega|apply_rules[Fr.refl,Fr.alloc,Fr.drew]|rfl) only [↓gsd,gs,gv,Nat.reduceAdd,Nat.reduceEqDiff, e0, e7, e10, e67, e68, ← hv1]
  refine ⟨?_, ?_, hF4⟩
  ·rw [List.take_add_one, hxi, List.map_append, cellsOf_append]
   exact ho4
  ·intro b hb
   rcases hbk with q | ⟨b', q1, q2⟩
   ·exact hob b (q ▸ hb)
   ·rw [q1] at hb; cases hb; omega
 ·have d : decide ((i : Int) < (ws.length : Int)) = false := decide_eq_false (by omega)
  rw [List.take_of_length_le (by omega)] at ho
  obtain ⟨kv, e11⟩ : ∃ kv, kv = e 11 := ⟨_, rfl⟩
  rw [← e11] at ho hob
  have h1 := h.frN hf
  have hd1 := h1.hd
  have his : i = ws.length := by omega
  subst his
  simp (maxSteps:=4000000)(disch:=first|assumption|(simp only[dz];first|done|assumption|omega)|omega|apply_rules[Fr.refl,Fr.alloc,Fr.drew]|rfl) only [↓gd,gp,Nat.reduceAdd,Nat.reduceEqDiff, ↓c31_14_s, ↓c31_21_s, ↓c31_24_s, ↓c31_23_s, ↓c31_22_s, ↓c31_20_s, ↓c31_25_s, ↓c31_19_s, ↓c31_18_s, ↓c31_17_s, ↓c31_16_s, ↓c31_15_s, ↓c31_12_s, ↓c31_32_s, ↓c31_35_s, ↓c31_34_s, ↓c31_33_s, ↓c31_31_s, ↓c31_36_s, ↓c31_30_s, ↓c31_29_s, ↓c31_28_s, ↓c31_27_s, ↓c31_26_s, ↓c31_11_s, ↓c31_10_s, ↓c31_39_s, ↓c31_38_s, ↓c31_37_s, ↓c31_9_s, ↓c31_8_s, ↓c31_7_s, ↓c31_6_s, ↓c31_5_s, ↓c31_42_s, ↓c31_41_s, ↓c31_40_s, ↓c31_4_s, ↓c31_3_s, ↓c31_45_s, ↓c31_44_s, ↓c31_43_s, ↓c31_2_s, ↓c31_1_s, ↓c31_s, ↓w3t_31, e0, e7, e10, e67, e68, e69, ← e11, d, hd1]
  obtain ⟨Wr1, hm1, hsub1, htv1⟩ := h1.min
  refine Sm.append_log hm1.lg (show SlOf 1 Sm.encS w1 kv (ws.map (·.key)) from by unfold SlOf; rw [List.length_map]; exact ho.sl) (by rw [List.length_map]; omega) fun w5 Wr' Rd' hl5 hf5 hwr hrd => ?_
  have cw5 := cur w5
  have hz5 := hf5.size
  obtain ⟨L', hL'⟩ : ∃ L', L' = (Sm.appL o.L (ws.map (·.key))).2 := ⟨_, rfl⟩
  rw [← hL'] at hK hl5
  have hap : ∀ x, x = a.ob ∨ x = a.sb ∨ x = a.sm ∨ x = a.qb → x ∉ Wr1 := fun x hx => (hm1.ap x hx).1
  have hlx : ∀ x, x = a.ob ∨ x = a.sb ∨ x = a.sm ∨ x = a.qb → x < w0.heap.size := fun x hx => hlt x (by rcases hx with h | h | h | h <;> simp [h])
  have hq : MapAt (Value.int .i64) w5.heap[a.qb]? (sesV o.ses) := by rw [hf5.keep _ hm1.ms.lt (hap _ (by simp))]; exact hm1.ms
  have h5 : OrAt w5 a Wr' Rd' { o with L := L' } := by
   refine ⟨hf5.get hm1.head (hap _ (by simp)), storeFrM hm1.st hf5 (hap _ (by simp)) (hap _ (by simp)) htv1, hl5, hq, fun x hx => ⟨fun e => ?_, fun e => ?_⟩, hm1.nq, hm1.wf⟩
   ·rcases hwr x e with q | q
    ·exact hap x hx q
    ·have := hlx x hx; omega
   ·rcases hrd x e with q | q
    ·exact (hm1.ap x hx).2 q
    ·have := hlx x hx; omega
  have hwr0 : ∀ x ∈ Wr', x ∈ Wr ∨ w0.heap.size ≤ x := fun x hx => (hwr x hx).imp (hsub1 x) (fun q => by omega)
  have hrd0 : ∀ x ∈ Rd', x ∈ Rd ∨ w0.heap.size ≤ x := fun x hx => (hrd x hx).imp id (fun q => by omega)
  have ha5 : AnsAt w5 (Fresh w0 Wr' Rd') (Fresh w0 Wr' Rd') v0 l0 := by
   have hfr : ∀ b, w0.heap.size ≤ b ∧ b < w.heap.size → Fresh w0 Wr' Rd' b := fun b hb => ⟨hb.1, fun e => by
    rcases hwr b e with q | q
    ·have := hlt b (by simp [hsub1 b q]); omega
    ·omega, fun e => by
    rcases hrd b e with q | q
    ·have := hlt b (by simp [q]); omega
    ·omega⟩
   exact ((ha.frN hf).fr hf5 fun b hb => by
    have := hlt b (by simp [hsub1 b hb])
    exact ⟨fun q => by omega, fun q => by omega⟩).mono hfr hfr
  have hF5 : Fr M w0 w5 := ((hF.trans hf (fun x hx => by cases hx)).trans hf5 fun x hx => .inl (hM x (hsub1 x hx)))
  have hd5 := h5.hd
  obtain ⟨N, hN⟩ : ∃ N : Nat, o.cfg.nodes = N := ⟨o.cfg.nodes.toNat, by omega⟩
  simp only [hN, Int.toNat_natCast] at hK hd5
  simp (maxSteps:=4000000)(disch:=first|assumption|(simp only[dz];first|done|assumption|omega)|omega|apply_rules[Fr.refl,Fr.alloc,Fr.drew]|rfl) only [↓gd,gp,Nat.reduceAdd,Nat.reduceEqDiff, ↓c31_21_s, ↓c31_24_s, ↓c31_23_s, ↓c31_22_s, ↓c31_20_s, ↓c31_25_s, ↓c31_19_s, ↓c31_18_s, ↓c31_17_s, ↓c31_16_s, ↓c31_15_s, ↓c31_13_s, ↓c31_12_s, ↓c31_32_s, ↓c31_35_s, ↓c31_34_s, ↓c31_33_s, ↓c31_31_s, ↓c31_36_s, ↓c31_30_s, ↓c31_29_s, ↓c31_28_s, ↓c31_27_s, ↓c31_26_s, ↓c31_11_s, ↓c31_10_s, ↓c31_39_s, ↓c31_38_s, ↓c31_37_s, ↓c31_9_s, ↓c31_8_s, ↓c31_7_s, ↓c31_6_s, ↓c31_5_s, ↓c31_42_s, ↓c31_41_s, ↓c31_40_s, ↓c31_4_s, ↓c31_3_s, ↓c31_45_s, ↓c31_44_s, ↓c31_43_s, ↓c31_2_s, ↓c31_1_s, ↓c31_s, ↓w3t_31, e0, e7, e10, hd5]
  clear hk
  refine for_intro N 90 0 (fun i e w' => e 0 = .pointer (some ⟨a.ob, 0, none⟩) ∧ e 7 = .int .i64 n ∧ e 89 = .int .i64 N ∧ OrAt w' a Wr' Rd' { o with L := L' } ∧
   AnsAt w' (Fresh w0 Wr' Rd') (Fresh w0 Wr' Rd') (e 10) (l0 ++ recsA L' n i) ∧ Fr M w0 w') ?_ (Nat.zero_le _) ?_ ?_
  ·simp (maxSteps:=4000000)(disch:=first|assumption|(simp only[dz];first|done|assumption|omega)|omega|apply_rules[Fr.refl,Fr.alloc,Fr.drew]|rfl) only [↓gsd,gs,gv,Nat.reduceAdd,Nat.reduceEqDiff]; rfl
  ·simp (maxSteps:=4000000)(disch:=first|assumption|(simp only[dz];first|done|assumption|omega)|omega|apply_rules[Fr.refl,Fr.alloc,Fr.drew]|rfl) only [↓gsd,gs,gv,Nat.reduceAdd,Nat.reduceEqDiff]
   refine ⟨e0, e7, h5, ?_, hF5⟩
   show AnsAt _ _ _ _ (l0 ++ [])
   rw [List.append_nil, e10]; exact ha5
  rintro j e6 w6 kk6 hj e90 ⟨e0', e7', e89, h6, ha6, hF6⟩ hk6
  have cw6 := cur w6
  have hz6 := hF6.size
  obtain ⟨vo, e10'⟩ : ∃ vo, vo = e6 10 := ⟨_, rfl⟩
  rw [← e10'] at ha6
  by_cases hjl : j < N
  ·have d : decide ((j : Int) < (N : Int)) = true := decide_eq_true (by omega)
   have wr : IntKind.i64.wrap ((j : Int) + 1) = (j : Int) + 1 := wrap64 (by omega) (by omega)
   simp (maxSteps:=4000000)(disch:=first|assumption|(simp only[dz];first|done|assumption|omega)|omega|apply_rules[Fr.refl,Fr.alloc,Fr.drew]|rfl) only [↓gd,gp,Nat.reduceAdd,Nat.reduceEqDiff, ↓c31_21_s, ↓c31_24_s, ↓c31_23_s, ↓c31_22_s, ↓c31_20_s, ↓c31_25_s, ↓c31_19_s, ↓c31_18_s, ↓c31_17_s, ↓c31_16_s, ↓c31_15_s, ↓c31_13_s, ↓c31_12_s, ↓c31_32_s, ↓c31_35_s, ↓c31_34_s, ↓c31_33_s, ↓c31_31_s, ↓c31_36_s, ↓c31_30_s, ↓c31_29_s, ↓c31_28_s, ↓c31_27_s, ↓c31_26_s, ↓c31_11_s, ↓c31_10_s, ↓c31_39_s, ↓c31_38_s, ↓c31_37_s, ↓c31_9_s, ↓c31_8_s, ↓c31_7_s, ↓c31_6_s, ↓c31_5_s, ↓c31_42_s, ↓c31_41_s, ↓c31_40_s, ↓c31_4_s, ↓c31_3_s, ↓c31_45_s, ↓c31_44_s, ↓c31_43_s, ↓c31_2_s, ↓c31_1_s, ↓c31_s, ↓w3t_31, e0', e7', e89, e90, ← e10', d]
   refine record_spec h6 (by decide) fun v2 w7 ha7 hf7 => ?_
   have cw7 := cur w7
   have hz7 := hf7.size
   obtain ⟨p, c, hv2'⟩ := ha7.form
   obtain ⟨p1, c1, hvo1⟩ := ha6.form
   obtain ⟨⟨ms, hom, hml, hmi⟩, hmb⟩ := ha7
   have hfr : ∀ b, w6.heap.size ≤ b → Fresh w0 Wr' Rd' b := fun b hb => ⟨by omega, fun q => by have := h6.lg.lt b (.inl q); omega, fun q => by have := h6.lg.lt b (.inr q); omega⟩
   have hll := recsA_len L' n j
   have h1 : (Sm.fromL L' n 1).length ≤ 1 := by unfold Sm.fromL; rw [List.length_take]; exact Nat.min_le_left _ _
   obtain ⟨v8, w8, hr8, ha8, hf8⟩ := AnsAt.app (bs := (Sm.fromL L' n 1).map (recA (j : Int))) (ha6.frN hf7) hom.sl hml (fun i m a h1 h2 => (hmi i m a h1 h2).mono hfr) (by simp only [List.length_append, List.length_map]; omega) (fun b hb => hfr b (by omega))
   have cw8 := cur w8
   have h8 : OrAt w8 a Wr' Rd' { o with L := L' } := (h6.frN hf7).frA (ha6.frN hf7) hf8 fun b hb => ⟨hb.2.1, hb.2.2, fun q => by have := hlx b (by simp [q]); have := hb.1; omega, fun q => by have := hlx b (by simp [q]); have := hb.1; omega, fun q => by have := hlx b (by simp [q]); have := hb.1; omega, fun q => by have := hlx b (by simp [q]); have := hb.1; omega⟩
   have hF8 : Fr M w0 w8 := (hF6.trans hf7 (fun x hx => by cases hx)).trans hf8 fun x hx => .inr (ha6.blk x (Sm.mem_blkL.1 hx)).1
   rw [hv2', hvo1] at hr8
   simp (maxSteps:=4000000)(disch:=first|assumption|(simp only[dz];first|done|assumption|omega)|omega|apply_rules[Fr.refl,Fr.alloc,Fr.drew]|rfl) only [↓gd,gp,Nat.reduceAdd,Nat.reduceEqDiff, ↓c31_21_s, ↓c31_24_s, ↓c31_23_s, ↓c31_22_s, ↓c31_20_s, ↓c31_25_s, ↓c31_19_s, ↓c31_18_s, ↓c31_17_s, ↓c31_16_s, ↓c31_15_s, ↓c31_13_s, ↓c31_12_s, ↓c31_32_s, ↓c31_35_s, ↓c31_34_s, ↓c31_33_s, ↓c31_31_s, ↓c31_36_s, ↓c31_30_s, ↓c31_29_s, ↓c31_28_s, ↓c31_27_s, ↓c31_26_s, ↓c31_11_s, ↓c31_10_s, ↓c31_39_s, ↓c31_38_s, ↓c31_37_s, ↓c31_9_s, ↓c31_8_s, ↓c31_7_s, ↓c31_6_s, ↓c31_5_s, ↓c31_42_s, ↓c31_41_s, ↓c31_40_s, ↓c31_4_s, ↓c31_3_s, ↓c31_45_s, ↓c31_44_s, ↓c31_43_s, ↓c31_2_s, ↓c31_1_s, ↓c31_s, ↓w3t_31, e0', e7', e89, e90, ← e10', hv2', hvo1, hr8, wr]
   refine hk6 _ _ hjl rfl ?_
   simp (maxSteps:=4000000)(disch:=first|assumption|(simp only[dz];first|done|assumption|omega)|omega|apply_rules[Fr.refl,Fr.alloc,Fr.drew]|rfl) only [↓gsd,gs,gv,Nat.reduceAdd,Nat.reduceEqDiff, e0', e7', e89]
   refine ⟨h8, ?_, hF8⟩
   have : l0 ++ recsA L' n (j + 1) = l0 ++ recsA L' n j ++ (Sm.fromL L' n 1).map (recA (j : Int)) := by
    unfold recsA
    rw [List.range_succ, List.flatMap_append, List.append_assoc]
    simp
   rw [this]; exact ha8
  ·have d : decide ((j : Int) < (N : Int)) = false := decide_eq_false (by omega)
   have hjN : j = N := by omega
   subst hjN
   simp (maxSteps:=4000000)(disch:=first|assumption|(simp only[dz];first|done|assumption|omega)|omega|apply_rules[Fr.refl,Fr.alloc,Fr.drew]|rfl) only [↓gd,gp,Nat.reduceAdd,Nat.reduceEqDiff, ↓hk31, e0', e7', e89, e90, ← e10', d]
   exact hK _ _ Wr' Rd' h6 hF6 hwr0 hrd0 ha6
end Go.Proofs.YtgloomahpjpiiaaGreat.Or
namespace Go.Proofs.YtgloomahpjpiiaaGreat.Or
open Go.VW
def Ori.newReq (o : Ori) (m : Msg) (ws : List St.Wr) : Req := ⟨m.seq, (o.st.commit ws).1.1, (o.st.commit ws).1.2⟩
def Ori.app (o : Ori) (ws : List St.Wr) : List Sm.Ks := (Sm.appL o.L (ws.map (·.key))).2
def Ori.commit (o : Ori) (m : Msg) (ws : List St.Wr) : List Ans × Ori :=
 if m.seq < (o.req m.ses).seq then ([], o) else if m.seq = (o.req m.ses).seq then ([ackA m (o.req m.ses)], o) else
 if (o.newReq m ws).err = 0 then (ackA m (o.newReq m ws) :: recsA (o.app ws) (o.newReq m ws).n o.cfg.nodes.toNat, ⟨o.cfg, (o.st.commit ws).2, o.app ws, aset o.ses m.ses (o.newReq m ws)⟩)
 else ([ackA m (o.newReq m ws)], ⟨o.cfg, (o.st.commit ws).2, o.L, aset o.ses m.ses (o.newReq m ws)⟩)
theorem chk_of_ok {st : St.St} {ws : List St.Wr} (h : (st.commit ws).1.2 = 0) : ws.length ≤ 8 := by
 by_cases q : ws.length = 0 ∨ 8 < ws.length
 ·have hc : St.chk ws = 1 := by unfold St.chk; rw [if_pos q]
  rw [St.St.commit, if_pos (by rw [hc]; decide), hc] at h
  cases h
 ·omega
/-- The world behind a new commit: what was there stands but for the origin's own. -/
structure Step (w w' : World) (a : Ad) (Wr Rd Wr' Rd' : List Nat) : Prop where
 fr : Fr (a.sb :: a.sm :: a.qb :: Wr) w w'
 wr : ∀ x ∈ Wr', x ∈ Wr ∨ w.heap.size ≤ x
 rd : ∀ x ∈ Rd', x ∈ Rd ∨ w.heap.size ≤ x
theorem map_no {w : World} {r : Nat} {es : List (Int × Value)} (h : MapAt (Value.int .i64) w.heap[r]? es) {cs : Array Value} {t : TypeId} {fr : Nat × Nat} : w.heap[r]? ≠ some (.cells cs t fr) := fun e => by
 obtain ⟨ents, cl, hq, _⟩ := h.ex
 rw [hq] at e; cases e
set_option maxHeartbeats 32000000 in
theorem commit_new {w : World} {a : Ad} {Wr Rd : List Nat} {o : Ori} {m : Msg} {ws : List St.Wr} {ks : List ByteArray} {K : Value → World → Prop} (h : OrAt w a Wr Rd o) (hm : MsgAt w m ws ks)
  (hoff : ∀ x, x = a.sb ∨ x = a.sm ∨ x = a.qb → offV m.wv x) (hn : 0 ≤ o.cfg.nodes ∧ o.cfg.nodes ≤ 8) (hs : (o.req m.ses).seq < m.seq)
  (hK : ∀ v w' Wr' Rd', OrAt w' a Wr' Rd' (o.commit m ws).2 → Step w w' a Wr Rd Wr' Rd' → AnsAt w' (Fresh w Wr' Rd') (Fresh w Wr' Rd') v (o.commit m ws).1 → K v w') :
  CallsN Tryz.prog 31 [.pointer (some ⟨a.ob, 0, none⟩), .agg (encMsg m).toArray] w K := by
 have cw := cur w
 obtain ⟨Wr0, h, hsub, htv⟩ := h.min
 have hd := h.hd
 have hms := h.ms
 have lq := h.ms.lt
 have hseq : (o.commit m ws) = if (o.newReq m ws).err = 0 then (ackA m (o.newReq m ws) :: recsA (o.app ws) (o.newReq m ws).n o.cfg.nodes.toNat, ⟨o.cfg, (o.st.commit ws).2, o.app ws, aset o.ses m.ses (o.newReq m ws)⟩)
   else ([ackA m (o.newReq m ws)], ⟨o.cfg, (o.st.commit ws).2, o.L, aset o.ses m.ses (o.newReq m ws)⟩) := by
  rw [Ori.commit, if_neg (by omega), if_neg (by omega)]
 rw [hseq] at hK
 refine call31 ?_
 unfold encMsg
 simp (maxSteps:=4000000)(disch:=first|assumption|(simp only[dz];first|done|assumption|omega)|omega|apply_rules[Fr.refl,Fr.alloc,Fr.drew]|rfl) only [↓gd,gp,Nat.reduceAdd,Nat.reduceEqDiff, ↓c31_14_s, ↓c31_21_s, ↓c31_24_s, ↓c31_23_s, ↓c31_22_s, ↓c31_20_s, ↓c31_25_s, ↓c31_19_s, ↓c31_18_s, ↓c31_17_s, ↓c31_16_s, ↓c31_15_s, ↓c31_13_s, ↓c31_12_s, ↓c31_32_s, ↓c31_35_s, ↓c31_34_s, ↓c31_33_s, ↓c31_31_s, ↓c31_36_s, ↓c31_30_s, ↓c31_29_s, ↓c31_28_s, ↓c31_27_s, ↓c31_26_s, ↓c31_11_s, ↓c31_10_s, ↓c31_39_s, ↓c31_38_s, ↓c31_37_s, ↓c31_9_s, ↓c31_8_s, ↓c31_7_s, ↓c31_6_s, ↓c31_5_s, ↓c31_42_s, ↓c31_41_s, ↓c31_40_s, ↓c31_4_s, ↓c31_3_s, ↓c31_45_s, ↓c31_44_s, ↓c31_43_s, ↓c31_2_s, ↓c31_s, ↓w3t_31]
 generalize hW : World.alloc w _ = w1
 have hf1 : Fr [] w w1 := by rw [← hW]; (repeat (first | exact Fr.refl _ _ | assumption | with_reducible apply Fr.alloc | with_reducible apply Fr.drew | with_reducible refine Fr.setB ?_ _ _ (.inr (by first | omega | (simp only [gz]; omega))) | with_reducible refine Fr.setB ?_ _ _ (.inl (by first | assumption | simp)) | with_reducible refine Fr.trans' ?_ (by assumption)))
 have hz1 : w1.heap.size = w.heap.size + 1 := by rw [← hW]; simp only [gz]
 have g : w1.heap[w.heap.size]? = some (.cells (encMsg m).toArray 40 (0, 0)) := by rw [← hW]; exact get_alloc_new _ _
 clear hW
 have cw1 := cur w1
 have hd1 := hf1.getN hd
 have hm1 : MapAt (Value.int .i64) w1.heap[a.qb]? (sesV o.ses) := by rw [hf1.keepN _ lq]; exact hms
 unfold encMsg at g
 have hq : (aget (sesV o.ses) m.ses).getD (.agg ([(.int .i64 0), (.int .i64 0), (.int .i64 0)] : List Value).toArray) = .agg (encReq (o.req m.ses)).toArray := by
  rw [aget_ses, Ori.req]
  cases aget o.ses m.ses <;> rfl
 unfold encReq at hq
 have hmv := fun orig K => mapV_at i64_inj hm1 orig K
 simp (maxSteps:=4000000)(disch:=first|assumption|(simp only[dz];first|done|assumption|omega)|omega|apply_rules[Fr.refl,Fr.alloc,Fr.drew]|rfl) only [↓gd,gp,Nat.reduceAdd,Nat.reduceEqDiff, ↓c31_14_s, ↓c31_21_s, ↓c31_24_s, ↓c31_23_s, ↓c31_22_s, ↓c31_20_s, ↓c31_25_s, ↓c31_19_s, ↓c31_18_s, ↓c31_17_s, ↓c31_16_s, ↓c31_15_s, ↓c31_13_s, ↓c31_12_s, ↓c31_32_s, ↓c31_35_s, ↓c31_34_s, ↓c31_33_s, ↓c31_31_s, ↓c31_36_s, ↓c31_30_s, ↓c31_29_s, ↓c31_28_s, ↓c31_27_s, ↓c31_26_s, ↓c31_11_s, ↓c31_10_s, ↓c31_39_s, ↓c31_38_s, ↓c31_37_s, ↓c31_9_s, ↓c31_8_s, ↓c31_7_s, ↓c31_6_s, ↓c31_5_s, ↓c31_42_s, ↓c31_41_s, ↓c31_40_s, ↓c31_4_s, ↓c31_3_s, ↓c31_45_s, ↓c31_44_s, ↓c31_43_s, ↓c31_1_s, ↓c31_s, ↓w3t_31, g, hd1, hmv, hq]
 generalize hW : World.alloc (World.drew w1) _ = w2
 have hf2 : Fr [] w1 w2 := by rw [← hW]; exact (Fr.drew (Fr.refl _ _)).alloc _
 have hz2 : w2.heap.size = w1.heap.size + 1 := by rw [← hW]; simp only [gz]
 have gq : w2.heap[w1.heap.size]? = some (.cells (encReq (o.req m.ses)).toArray 99 (0, 0)) := by rw [← hW, ← size_drew w1]; exact get_alloc_new _ _
 clear hW hmv
 have cw2 := cur w2
 have hd2 := hf2.getN hd1
 have g2 := hf2.getN g
 unfold encReq at gq
 have d : decide (m.seq < (o.req m.ses).seq) = false := decide_eq_false (by omega)
 have d2 : decide (m.seq = (o.req m.ses).seq) = false := decide_eq_false (by omega)
 simp (maxSteps:=4000000)(disch:=first|assumption|(simp only[dz];first|done|assumption|omega)|omega|apply_rules[Fr.refl,Fr.alloc,Fr.drew]|rfl) only [↓gd,gp,Nat.reduceAdd,Nat.reduceEqDiff, ↓c31_14_s, ↓c31_21_s, ↓c31_24_s, ↓c31_23_s, ↓c31_22_s, ↓c31_20_s, ↓c31_25_s, ↓c31_19_s, ↓c31_18_s, ↓c31_17_s, ↓c31_16_s, ↓c31_15_s, ↓c31_13_s, ↓c31_12_s, ↓c31_32_s, ↓c31_35_s, ↓c31_34_s, ↓c31_33_s, ↓c31_31_s, ↓c31_36_s, ↓c31_30_s, ↓c31_29_s, ↓c31_28_s, ↓c31_27_s, ↓c31_26_s, ↓c31_11_s, ↓c31_10_s, ↓c31_39_s, ↓c31_38_s, ↓c31_37_s, ↓c31_9_s, ↓c31_8_s, ↓c31_7_s, ↓c31_5_s, ↓c31_42_s, ↓c31_41_s, ↓c31_40_s, ↓c31_4_s, ↓c31_3_s, ↓c31_45_s, ↓c31_44_s, ↓c31_43_s, ↓c31_2_s, ↓c31_1_s, ↓c31_s, ↓w3t_31, g2, gq, hd2, d, d2]
 have hf02 : Fr [] w w2.drew := Fr.drew (hf1.trans' hf2)
 have h2 := h.frN hf02
 have hw2 := hm.frN hf02
 refine St.commit_spec h2.st h2.wf (fun w' hf => hw2.dw.fr hf fun x hx => hoff x (by
  rcases List.mem_cons.1 hx with e | hx
  ·exact .inl e
  ·exact .inr (.inl (List.mem_singleton.1 hx)))) fun w3 hf3 hs3 => ?_
 have cw3 := cur w3
 have hz3 := hf3.size
 simp only [size_drew] at hz3
 have hF3 : Fr [a.sb, a.sm] w w3 := (hf02.mono (by simp)).trans hf3 fun x hx => .inl hx
 have l0 := lt_of_get _ _ hd
 have hob : a.ob ∉ [a.sb, a.sm] := by
  have := h.qo
  simp only [List.mem_cons, List.not_mem_nil, or_false, not_or]
  exact ⟨fun e => this.2.2.2 e.symm, fun e => this.2.2.1 e.symm⟩
 have hqb : a.qb ∉ [a.sb, a.sm] := by
  have := h.qo
  simp only [List.mem_cons, List.not_mem_nil, or_false, not_or]
  exact ⟨this.2.1, h.nq⟩
 have hd3 := hF3.get hd hob
 have gw := hf2.getN g
 have lm := h.st.lt
 have g3 := hf3.get (show w2.drew.heap[w.heap.size]? = _ from gw) (by simp; omega)
 have hm3 : MapAt (Value.int .i64) w3.heap[a.qb]? (sesV o.ses) := by rw [hF3.keep _ lq hqb]; exact hms
 obtain ⟨q, hqd⟩ : ∃ q, q = o.newReq m ws := ⟨_, rfl⟩
 have hq1 : (o.st.commit ws).1.1 = q.n := by rw [hqd]; rfl
 have hq2 : (o.st.commit ws).1.2 = q.err := by rw [hqd]; rfl
 have hq3 : m.seq = q.seq := by rw [hqd]; rfl
 rw [← hqd] at hK
 rw [hq1, hq2]
 have hmv := fun orig K => mapV_at i64_inj hm3 orig K
 simp (maxSteps:=4000000)(disch:=first|assumption|(simp only[dz];first|done|assumption|omega)|omega|apply_rules[Fr.refl,Fr.alloc,Fr.drew]|rfl) only [↓gd,gp,Nat.reduceAdd,Nat.reduceEqDiff, ↓c31_14_s, ↓c31_21_s, ↓c31_24_s, ↓c31_23_s, ↓c31_22_s, ↓c31_20_s, ↓c31_25_s, ↓c31_19_s, ↓c31_18_s, ↓c31_17_s, ↓c31_16_s, ↓c31_15_s, ↓c31_13_s, ↓c31_12_s, ↓c31_32_s, ↓c31_35_s, ↓c31_34_s, ↓c31_33_s, ↓c31_31_s, ↓c31_36_s, ↓c31_30_s, ↓c31_29_s, ↓c31_28_s, ↓c31_27_s, ↓c31_26_s, ↓c31_11_s, ↓c31_39_s, ↓c31_38_s, ↓c31_37_s, ↓c31_9_s, ↓c31_8_s, ↓c31_7_s, ↓c31_6_s, ↓c31_5_s, ↓c31_42_s, ↓c31_41_s, ↓c31_40_s, ↓c31_4_s, ↓c31_3_s, ↓c31_45_s, ↓c31_44_s, ↓c31_43_s, ↓c31_2_s, ↓c31_1_s, ↓c31_s, ↓w3t_31, g3, hd3, hmv]
 generalize hW : World.setB (World.drew (World.alloc w3 _)) _ _ = w4
 have hf4 : Fr [a.qb] w3 w4 := by rw [← hW]; exact (Fr.drew ((Fr.refl _ _).alloc _)).setB _ _ (.inl (by simp))
 have hz4 : w4.heap.size = w3.heap.size + 1 := by rw [← hW]; simp only [gz]
 have hm4 : MapAt (Value.int .i64) w4.heap[a.qb]? (sesV (aset o.ses m.ses q)) := by
  rw [← hW, get_setB_same _ _ _ (by simp only [gz]; omega), ← aset_ses, hq3]
  exact (map_updateX (P := Tryz.prog) Tryz.runUnderlying78 kOK78 hm3 m.ses (reqV q)).2
 clear hW hmv
 have cw4 := cur w4
 have hno := fun cs fr => map_no hm3 (cs := cs) (t := 94) (fr := fr)
 have hqs := h.qo
 have hs4 : St.StoreAt w4 a.sb a.sm (o.st.commit ws).2 := storeFrM hs3 hf4 (by simp; exact fun e => hqs.2.1 e.symm) (by simp; exact fun e => h.nq e.symm) (fun x hx cs fr => by
  rw [List.mem_singleton.1 hx]; exact hno cs fr)
 have hF4 : Fr [a.sb, a.sm, a.qb] w w4 := (hF3.mono (by simp)).trans hf4 fun x hx => .inl (by simp at hx; simp [hx])
 have hl4 : Sm.LogAt w4 a.lb Wr0 Rd o.L := h.lg.fr hF4 fun x hx => h.ap x (by simp at hx; exact .inr hx)
 have hd4 := hf4.get hd3 (by simp; exact fun e => hqs.1 e.symm)
 have g4 := hf4.get g3 (by simp; omega)
 have eq1 : Value.agg ([.int .i64 m.seq, .int .i64 q.n, .int .i64 q.err] : List Value).toArray = reqV q := by rw [hq3]; rfl
 rw [eq1]
 refine ack_spec (q := q) g4 fun w5 hf5 => ?_
 have cw5 := cur w5
 have hz5 := hf5.size
 have hlen : (encMsg (ackA m q).m).length = 16 := rfl
 simp (maxSteps:=4000000)(disch:=first|assumption|(simp only[dz];first|done|assumption|omega)|omega|apply_rules[Fr.refl,Fr.alloc,Fr.drew]|rfl) only [↓gd,gp,Nat.reduceAdd,Nat.reduceEqDiff, ↓c31_14_s, ↓c31_21_s, ↓c31_24_s, ↓c31_23_s, ↓c31_22_s, ↓c31_20_s, ↓c31_25_s, ↓c31_19_s, ↓c31_18_s, ↓c31_17_s, ↓c31_16_s, ↓c31_15_s, ↓c31_13_s, ↓c31_12_s, ↓c31_32_s, ↓c31_35_s, ↓c31_34_s, ↓c31_33_s, ↓c31_31_s, ↓c31_36_s, ↓c31_30_s, ↓c31_29_s, ↓c31_28_s, ↓c31_27_s, ↓c31_26_s, ↓c31_11_s, ↓c31_39_s, ↓c31_38_s, ↓c31_37_s, ↓c31_9_s, ↓c31_8_s, ↓c31_7_s, ↓c31_6_s, ↓c31_5_s, ↓c31_42_s, ↓c31_41_s, ↓c31_40_s, ↓c31_4_s, ↓c31_3_s, ↓c31_45_s, ↓c31_44_s, ↓c31_43_s, ↓c31_2_s, ↓c31_1_s, ↓c31_s, ↓w3t_31, hlen]
 generalize hW : World.alloc w5 _ = w6
 have hf6 : Fr [] w5 w6 := by rw [← hW]; exact (Fr.refl _ _).alloc _
 have hz6 : w6.heap.size = w5.heap.size + 1 := by rw [← hW]; simp only [gz]
 have g6 : w6.heap[w5.heap.size]? = some (.cells (encMsg (ackA m q).m).toArray 40 (0, 0)) := by rw [← hW]; exact get_alloc_new _ _
 clear hW
 have cw6 := cur w6
 have hf46 := hf5.trans' hf6
 have hm6 : MapAt (Value.int .i64) w6.heap[a.qb]? (sesV (aset o.ses m.ses q)) := by rw [hf46.keepN _ (by omega)]; exact hm4
 have hs6 := hs4.frN hf46
 have hl6 := hl4.frN hf46
 have hd6 := hf46.getN hd4
 have gm6 := hf46.getN g4
 have hF6 : Fr [a.sb, a.sm, a.qb] w w6 := hF4.trans hf46 (fun x hx => by cases hx)
 have ha6 : AnsAt w6 (Fresh w Wr0 Rd) (Fresh w Wr0 Rd) (.slice (some ⟨w5.heap.size, 0, none⟩) 1 1) [ackA m q] := AnsAt.one g6 (AnsIs.plain ⟨rfl, rfl, rfl⟩) ⟨by omega, fun e => by have := h.lg.lt _ (.inl e); omega, fun e => by have := h.lg.lt _ (.inr e); omega⟩
 have hwf1 := h.wf.commit ws
 by_cases qe : q.err = 0
 ·have d3 : decide (q.err = 0) = true := decide_eq_true qe
  rw [if_pos qe] at hK
  simp (maxSteps:=4000000)(disch:=first|assumption|(simp only[dz];first|done|assumption|omega)|omega|apply_rules[Fr.refl,Fr.alloc,Fr.drew]|rfl) only [↓gd,gp,Nat.reduceAdd,Nat.reduceEqDiff, ↓c31_14_s, ↓c31_21_s, ↓c31_24_s, ↓c31_23_s, ↓c31_22_s, ↓c31_20_s, ↓c31_25_s, ↓c31_19_s, ↓c31_18_s, ↓c31_17_s, ↓c31_16_s, ↓c31_15_s, ↓c31_13_s, ↓c31_12_s, ↓c31_32_s, ↓c31_35_s, ↓c31_34_s, ↓c31_33_s, ↓c31_31_s, ↓c31_36_s, ↓c31_30_s, ↓c31_29_s, ↓c31_28_s, ↓c31_27_s, ↓c31_26_s, ↓c31_11_s, ↓c31_39_s, ↓c31_38_s, ↓c31_37_s, ↓c31_9_s, ↓c31_8_s, ↓c31_7_s, ↓c31_6_s, ↓c31_5_s, ↓c31_42_s, ↓c31_41_s, ↓c31_40_s, ↓c31_4_s, ↓c31_3_s, ↓c31_45_s, ↓c31_44_s, ↓c31_43_s, ↓c31_2_s, ↓c31_1_s, ↓c31_s, ↓w3t_31, d3]
  refine commit_tail (w0 := w) (M := a.sb :: a.sm :: a.qb :: Wr) (o := ⟨o.cfg, (o.st.commit ws).2, o.L, aset o.ses m.ses q⟩) (m := m) (ws := ws) (n := q.n) (mb := w.heap.size) (l0 := [ackA m q]) (Wr := Wr0) (Rd := Rd) (v0 := .slice (some ⟨w5.heap.size, 0, none⟩) 1 1) ⟨hd6, hs6, hl6, hm6, h.ap, h.nq, hwf1⟩ (hF6.mono (by simp)) (fun x hx => by simp [hsub x hx])
   (hm.dw.fr hF6 fun x hx => hoff x (by simpa using hx)) (chk_of_ok (st := o.st) (by rw [hq2]; exact qe)) gm6 hn (fun x hx => ?_) ?_ (by simp) rfl rfl rfl rfl fun v w' Wr' Rd' q1 q2 q3 q4 q5 => hK v w' Wr' Rd' q1 ⟨q2, fun x hx => (q3 x hx).imp (hsub x) id, q4⟩ q5
  ·rcases hx with rfl | rfl | rfl | rfl | hx | hx
   ·exact l0
   ·exact lm.1
   ·exact lm.2.1
   ·exact lq
   ·exact h.lg.lt _ (.inl hx)
   ·exact h.lg.lt _ (.inr hx)
  ·exact AnsAt.one g6 (AnsIs.plain ⟨rfl, rfl, rfl⟩) ⟨by omega, by omega⟩
 ·have d3 : decide (q.err = 0) = false := decide_eq_false qe
  rw [if_neg qe] at hK
  simp (maxSteps:=4000000)(disch:=first|assumption|(simp only[dz];first|done|assumption|omega)|omega|apply_rules[Fr.refl,Fr.alloc,Fr.drew]|rfl) only [↓gd,gp,Nat.reduceAdd,Nat.reduceEqDiff, ↓hk31, d3]
  exact hK _ _ Wr0 Rd ⟨hd6, hs6, hl6, hm6, h.ap, h.nq, hwf1⟩ ⟨hF6.mono (by simp), fun x hx => .inl (hsub x hx), fun x hx => .inl hx⟩ ha6
end Go.Proofs.YtgloomahpjpiiaaGreat.Or
