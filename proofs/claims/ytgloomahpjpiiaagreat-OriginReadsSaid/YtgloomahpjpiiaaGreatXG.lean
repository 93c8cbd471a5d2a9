/- The reference's commit: what stands behind the store. The reference's commit. The reference's read. The reference's Handle. -/
import Derived.Test.YtgloomahpjpiiaaGreatXC
import Derived.Test.YtgloomahpjpiiaaGreatOQ
set_option linter.unusedVariables false
set_option linter.unusedSimpArgs false
set_option maxRecDepth 10000
namespace Go.Proofs.YtgloomahpjpiiaaGreat.Or
open Go.VW
set_option maxHeartbeats 16000000 in
theorem r15tail_a {w : World} {mb qb : Nat} {m : Msg} {q : Req} {fr : Bool} {e : Env} {K : Value → World → Prop} (g : w.heap[mb]? = some (.cells (encMsg m).toArray 40 (0, 0))) (gq : w.heap[qb]? = some (.cells (encReq q).toArray 49 (0, 0)))
  (e3 : e 3 = .pointer (some ⟨mb, 0, none⟩)) (e5 : e 5 = .pointer (some ⟨qb, 0, none⟩)) (e6 : e 6 = .bool fr) (hfr : fr = true → q.err ≠ 0) (hK : ∀ v w', AnsRd w' v [ackA m q] → Fr [] w w' → K v w') :
  W3 Tryz.prog 93 V35 c35_5 (retQ Tryz.prog [ResultVar.tmp 4] K) e w := by
 have cw := cur w
 have g' := g
 have gq' := gq
 unfold encMsg at g'
 unfold encReq at gq'
 have lq := lt_of_get _ _ gq
 have lm := lt_of_get _ _ g
 have fin : ∀ (b : Nat) (w' : World), Fr [] w w' → w.heap.size ≤ b → w'.heap[b]? = some (.cells (encMsg { msg0 with kind := 2, ses := m.ses, seq := m.seq, n := q.n, err := q.err }).toArray 40 (0, 0)) → K (.slice (some ⟨b, 0, none⟩) 1 1) w' := fun b w' hf hb hg =>
  hK _ _ ((AnsAt.one (R := fun _ => True) (R' := fun _ => True) hg (AnsIs.plain ⟨rfl, rfl, rfl⟩) trivial).rd (fun a ha => by simp at ha; subst ha; rfl)) hf
 cases fr with
 | false =>
   simp (maxSteps:=4000000)(disch:=first|assumption|(simp only[dz];first|done|assumption|omega)|omega|apply_rules[Fr.refl,Fr.alloc,Fr.drew]|rfl) only [↓gd,gp,Nat.reduceAdd,Nat.reduceEqDiff, ↓hk35, e3, e5, e6, g', gq']
   exact fin _ _ (by (repeat (first | exact Fr.refl _ _ | assumption | with_reducible apply Fr.alloc | with_reducible apply Fr.drew | with_reducible refine Fr.setB ?_ _ _ (.inr (by first | omega | (simp only [gz]; omega))) | with_reducible refine Fr.setB ?_ _ _ (.inl (by first | assumption | simp)) | with_reducible refine Fr.trans' ?_ (by assumption)))) (Nat.le_refl _) (get_alloc_new _ _)
 | true =>
   have d : decide (q.err = 0) = false := decide_eq_false (hfr rfl)
   simp (maxSteps:=4000000)(disch:=first|assumption|(simp only[dz];first|done|assumption|omega)|omega|apply_rules[Fr.refl,Fr.alloc,Fr.drew]|rfl) only [↓gd,gp,Nat.reduceAdd,Nat.reduceEqDiff, ↓hk35, e3, e5, e6, g', gq', d]
   exact fin _ _ (by (repeat (first | exact Fr.refl _ _ | assumption | with_reducible apply Fr.alloc | with_reducible apply Fr.drew | with_reducible refine Fr.setB ?_ _ _ (.inr (by first | omega | (simp only [gz]; omega))) | with_reducible refine Fr.setB ?_ _ _ (.inl (by first | assumption | simp)) | with_reducible refine Fr.trans' ?_ (by assumption)))) (Nat.le_refl _) (get_alloc_new _ _)
set_option maxHeartbeats 32000000 in
theorem r15tail_b {w : World} {rb mb qb : Nat} {c : Cfg} {v vl : Value} {last : Int} {Q : List Req} {L : List Sm.Ks} {Rd : List Nat} {m : Msg} {q : Req} {ws : List St.Wr} {e : Env} {K : Value → World → Prop}
  (hd : w.heap[rb]? = some (.cells (cells15 c v c.vers last vl Q).toArray 52 (0, 0))) (hlg : Sm.RcsAt w (· ∈ Rd) (· ∈ blkL vl) vl (Sm.recsL L)) (hRd : ∀ x ∈ Rd, x < w.heap.size) (hw : SlOf 3 St.encWr w m.wv ws) (hc : St.chk ws = 0) (hL : L.length + 1 ≤ 2000000000000) (hn : 1 ≤ c.nodes ∧ c.nodes ≤ 8)
  (g : w.heap[mb]? = some (.cells (encMsg m).toArray 40 (0, 0))) (gq : w.heap[qb]? = some (.cells (encReq q).toArray 49 (0, 0))) (hqr : qb ≠ rb) (he : q.err = 0) (hml : m.wl = ws.length)
  (e0 : e 0 = .pointer (some ⟨rb, 0, none⟩)) (e3 : e 3 = .pointer (some ⟨mb, 0, none⟩)) (e5 : e 5 = .pointer (some ⟨qb, 0, none⟩)) (e6 : e 6 = .bool true)
  (hK : ∀ (vo vl' : Value) (Rd' : List Nat) (w' : World), w'.heap[rb]? = some (.cells (cells15 c v c.vers last vl' Q).toArray 52 (0, 0)) → Sm.RcsAt w' (· ∈ Rd') (· ∈ blkL vl') vl' (Sm.recsL (L ++ [keysW ws])) → (∀ x ∈ Rd', x < w'.heap.size) →
   AnsRd w' vo (ackA m q :: (List.range c.nodes.toNat).map (fun (i : Nat) => recA (i : Int) (q.n, keysW ws))) → Fr (rb :: blkL vl) w w' → (∀ x ∈ blkL vl', x ∈ blkL vl ∨ w.heap.size ≤ x) → (∀ x ∈ Rd', x ∈ Rd ∨ w.heap.size ≤ x) → K vo w') :
  W3 Tryz.prog 93 V35 c35_5 (retQ Tryz.prog [ResultVar.tmp 4] K) e w := by
 have cw := cur w
 have g' := g
 have gq' := gq
 unfold encMsg at g'
 unfold encReq at gq'
 have lq := lt_of_get _ _ gq
 have lm := lt_of_get _ _ g
 have lr := lt_of_get _ _ hd
 have d : decide (q.err = 0) = true := decide_eq_true he
 have hw8 : ws.length ≤ 8 := by
  unfold St.chk at hc
  split at hc
  ·cases hc
  ·omega
 simp (maxSteps:=4000000)(disch:=first|assumption|(simp only[dz];first|done|assumption|omega)|omega|apply_rules[Fr.refl,Fr.alloc,Fr.drew]|rfl) only [↓gd,gp,Nat.reduceAdd,Nat.reduceEqDiff, ↓c35_7_s, ↓c35_17_s, ↓c35_19_s, ↓c35_18_s, ↓c35_16_s, ↓c35_21_s, ↓c35_20_s, ↓c35_15_s, ↓c35_14_s, ↓c35_13_s, ↓c35_12_s, ↓c35_10_s, ↓c35_9_s, ↓c35_8_s, ↓c35_6_s, ↓c35_5_s, ↓c35_26_s, ↓c35_25_s, ↓c35_24_s, ↓c35_23_s, ↓c35_22_s, ↓c35_4_s, ↓c35_3_s, ↓c35_29_s, ↓c35_28_s, ↓c35_27_s, ↓c35_2_s, ↓c35_1_s, ↓c35_s, ↓w3t_35, e0, e3, e5, e6, g', gq', d]
 generalize hW : World.alloc w _ = w1
 have hf1 : Fr [] w w1 := by rw [← hW]; (repeat (first | exact Fr.refl _ _ | assumption | with_reducible apply Fr.alloc | with_reducible apply Fr.drew | with_reducible refine Fr.setB ?_ _ _ (.inr (by first | omega | (simp only [gz]; omega))) | with_reducible refine Fr.setB ?_ _ _ (.inl (by first | assumption | simp)) | with_reducible refine Fr.trans' ?_ (by assumption)))
 have hz1 : w1.heap.size = w.heap.size + 1 := by rw [← hW]; simp only [gz]
 have ga : w1.heap[w.heap.size]? = some (.cells (encMsg { msg0 with kind := 2, ses := m.ses, seq := m.seq, n := q.n, err := q.err }).toArray 40 (0, 0)) := by rw [← hW]; exact get_alloc_new _ _
 clear hW
 have cw1 := cur w1
 have hwv : m.wv = .slice m.wa m.wl m.wc := rfl
 try simp (maxSteps:=4000000)(disch:=first|assumption|(simp only[dz];first|done|assumption|omega)|omega|apply_rules[Fr.refl,Fr.alloc,Fr.drew]|rfl) only [↓gd,gp,Nat.reduceAdd,Nat.reduceEqDiff, ↓c35_7_s, ↓c35_17_s, ↓c35_19_s, ↓c35_18_s, ↓c35_16_s, ↓c35_21_s, ↓c35_20_s, ↓c35_15_s, ↓c35_14_s, ↓c35_13_s, ↓c35_12_s, ↓c35_10_s, ↓c35_9_s, ↓c35_8_s, ↓c35_6_s, ↓c35_5_s, ↓c35_26_s, ↓c35_25_s, ↓c35_24_s, ↓c35_23_s, ↓c35_22_s, ↓c35_4_s, ↓c35_3_s, ↓c35_29_s, ↓c35_28_s, ↓c35_27_s, ↓c35_2_s, ↓c35_1_s, ↓c35_s, ↓w3t_35, hf1.getN g']
 refine r15keys (hw.frN hf1) (by omega) fun vk w2 hk2 hkb hf2 => ?_
 have cw2 := cur w2
 have hz2 := hf2.size
 have hF2 := hf1.trans' hf2
 have hd2 := hF2.getN hd
 have gq2 := hF2.getN gq'
 have ga2 := hf2.getN ga
 obtain ⟨ka, kc, hkv⟩ := hk2.sl.form
 simp (maxSteps:=4000000)(disch:=first|assumption|(simp only[dz];first|done|assumption|omega)|omega|apply_rules[Fr.refl,Fr.alloc,Fr.drew]|rfl) only [↓gd,gp,Nat.reduceAdd,Nat.reduceEqDiff, ↓c35_7_s, ↓c35_17_s, ↓c35_19_s, ↓c35_18_s, ↓c35_16_s, ↓c35_21_s, ↓c35_20_s, ↓c35_15_s, ↓c35_14_s, ↓c35_13_s, ↓c35_11_s, ↓c35_10_s, ↓c35_9_s, ↓c35_8_s, ↓c35_6_s, ↓c35_5_s, ↓c35_26_s, ↓c35_25_s, ↓c35_24_s, ↓c35_23_s, ↓c35_22_s, ↓c35_4_s, ↓c35_3_s, ↓c35_29_s, ↓c35_28_s, ↓c35_27_s, ↓c35_2_s, ↓c35_1_s, ↓c35_s, ↓w3t_35, e0, hkv]
 rw [← hkv]
 have hks : SlOf 1 Sm.encS w2 vk (keysW ws) := by
  unfold SlOf
  have := hk2.sl
  simpa using this
 refine Sm.rappend_log (X := preL c v c.vers last Q) (L := L) (Rd := Rd) hd2 (hlg.frN hF2) hks (by simp; omega) hL fun vl' w3 Rd' hd3 hr3 hf3 hb3 hR3 => ?_
 have cw3 := cur w3
 have hz3 := hf3.size
 have hra : Sm.rappL L (keysW ws) = (((L.length : Int) + 1, 0), L ++ [keysW ws]) := by
  unfold Sm.rappL; rw [if_neg (by rw [chkK_keys hc]; simp)]
 rw [hra] at hr3
 have hlt2 : ∀ x ∈ rb :: blkL vl, x < w.heap.size := fun x hx => by
  rcases List.mem_cons.1 hx with rfl | hx
  ·exact lr
  ·obtain ⟨⟨rs, ho, _, _⟩, _⟩ := hlg
   exact ho.lt (Sm.mem_blkL.1 hx)
 have ga3 := hf3.get ga2 (fun hm => by have := hlt2 _ hm; omega)
 have gq3 := hf3.get gq2 (fun hm => by
  rcases List.mem_cons.1 hm with h | h
  ·exact hqr h
  ·obtain ⟨⟨rs, ho, _, _⟩, _⟩ := hlg
   exact Sm.own_head ho gq (by decide) (Sm.mem_blkL.1 h))
 have hk3 : VW.Own 1 9 w3 vk ws.length (cellsOf Sm.encS (keysW ws)) := hk2.fr hf3 (fun x hx e => by have := hkb x e; have := hlt2 x hx; omega)
 have hF3 : Fr (rb :: blkL vl) w w3 := (hF2.mono (by simp)).trans hf3 (fun x hx => .inl hx)
 have ha3 : AnsAt w3 (fun b => w.heap.size ≤ b) (fun b => (w.heap.size ≤ b ∧ b < w2.heap.size) ∨ w3.heap.size ≤ b) (.slice (some ⟨w.heap.size, 0, none⟩) 1 1) [ackA m q] := AnsAt.one (m := { msg0 with kind := 2, ses := m.ses, seq := m.seq, n := q.n, err := q.err }) ga3 (AnsIs.plain ⟨rfl, rfl, rfl⟩) (.inl ⟨Nat.le_refl _, by omega⟩)
 have hlg3 : ∀ x, x ∈ Rd' ∨ x ∈ blkL vl' → (x < w.heap.size ∨ w2.heap.size ≤ x) ∧ x < w3.heap.size := fun x hx => by
  have hlt : x < w3.heap.size := by
   obtain ⟨⟨rs, ho, hrl, hat⟩, hbl⟩ := hr3
   rcases hx with hx | hx
   ·rcases hR3 x hx with h | h
    ·have := hRd x h; omega
    ·exact h.2
   ·exact ho.lt (Sm.mem_blkL.1 hx)
  refine ⟨?_, hlt⟩
  rcases hx with hx | hx
  ·rcases hR3 x hx with h | h
   ·exact .inl (hRd x h)
   ·exact .inr h.1
  ·rcases hb3 x hx with h | h
   ·exact .inl (hlt2 x (List.mem_cons_of_mem _ h))
   ·exact .inr h
 simp (maxSteps:=4000000)(disch:=first|assumption|(simp only[dz];first|done|assumption|omega)|omega|apply_rules[Fr.refl,Fr.alloc,Fr.drew]|rfl) only [↓gd,gp,Nat.reduceAdd,Nat.reduceEqDiff, ↓hk35, e0]
 have hN : ((c.nodes.toNat : Nat) : Int) = c.nodes := by omega
 refine for_intro c.nodes.toNat 11 0 (fun i e w' => e 0 = .pointer (some ⟨rb, 0, none⟩) ∧ e 5 = .pointer (some ⟨qb, 0, none⟩) ∧ e 10 = vk ∧
  AnsAt w' (fun b => w.heap.size ≤ b) (fun b => (w.heap.size ≤ b ∧ b < w2.heap.size) ∨ w3.heap.size ≤ b) (e 9) (ackA m q :: (List.range i).map (fun (i : Nat) => recA (i : Int) (q.n, keysW ws))) ∧
  w'.heap[rb]? = some (.cells (cells15 c v c.vers last vl' Q).toArray 52 (0, 0)) ∧ w'.heap[qb]? = some (.cells (encReq q).toArray 49 (0, 0)) ∧ VW.Own 1 9 w' vk ws.length (cellsOf Sm.encS (keysW ws)) ∧ Sm.RcsAt w' (· ∈ Rd') (· ∈ blkL vl') vl' (Sm.recsL (L ++ [keysW ws])) ∧ Fr (rb :: blkL vl) w w' ∧ w3.heap.size ≤ w'.heap.size) ?_ (Nat.zero_le _) ?_ ?_
 ·simp (maxSteps:=4000000)(disch:=first|assumption|(simp only[dz];first|done|assumption|omega)|omega|apply_rules[Fr.refl,Fr.alloc,Fr.drew]|rfl) only [↓gsd,gs,gv,Nat.reduceAdd,Nat.reduceEqDiff]; rfl
 ·simp (maxSteps:=4000000)(disch:=first|assumption|(simp only[dz];first|done|assumption|omega)|omega|apply_rules[Fr.refl,Fr.alloc,Fr.drew]|rfl) only [↓gsd,gs,gv,Nat.reduceAdd,Nat.reduceEqDiff, e0, e5]
  exact ⟨ha3, hd3, gq3, hk3, hr3, hF3, Nat.le_refl _⟩
 rintro i e w4 kk hi e11 ⟨e0, e5, e10, ha, hd4, gq4, hk4, hr4, hF4, hz4⟩ hk
 have cw4 := cur w4
 have gq4' := gq4
 unfold encReq at gq4'
 by_cases hil : i < c.nodes.toNat
 ·have d1 : decide ((i : Int) < c.nodes) = true := decide_eq_true (by omega)
  have wr : IntKind.i64.wrap ((i : Int) + 1) = (i : Int) + 1 := wrap64 (by omega) (by omega)
  obtain ⟨oa, oc, hvo⟩ := ha.form
  have hll : (ackA m q :: (List.range i).map (fun (i : Nat) => recA (i : Int) (q.n, keysW ws))).length = i + 1 := by simp
  rw [hll] at hvo
  obtain ⟨vo, e9⟩ : ∃ vo, vo = e 9 := ⟨_, rfl⟩
  rw [← e9] at ha hvo
  simp (maxSteps:=4000000)(disch:=first|assumption|(simp only[dz];first|done|assumption|omega)|omega|apply_rules[Fr.refl,Fr.alloc,Fr.drew]|rfl) only [↓gd,gp,Nat.reduceAdd,Nat.reduceEqDiff, ↓hk35, e0, e5, e10, e11, ← e9, hd4, gq4', d1, hvo, hkv]
  generalize hW : World.alloc w4 _ = w5
  have hf5 : Fr [] w4 w5 := by rw [← hW]; (repeat (first | exact Fr.refl _ _ | assumption | with_reducible apply Fr.alloc | with_reducible apply Fr.drew | with_reducible refine Fr.setB ?_ _ _ (.inr (by first | omega | (simp only [gz]; omega))) | with_reducible refine Fr.setB ?_ _ _ (.inl (by first | assumption | simp)) | with_reducible refine Fr.trans' ?_ (by assumption)))
  have hz5 : w5.heap.size = w4.heap.size + 1 := by rw [← hW]; simp only [gz]
  have g5 : w5.heap[w4.heap.size]? = some (.cells (encMsg { msg0 with kind := 8, node := i, n := q.n, ka := ka, kl := ws.length, kc := kc }).toArray 40 (0, 0)) := by rw [← hW]; exact get_alloc_new _ _
  clear hW
  have cw5 := cur w5
  have hsl : Sl 16 w5 (.slice (some ⟨w4.heap.size, 0, none⟩) 1 1) 1 (encMsg { msg0 with kind := 8, node := i, n := q.n, ka := ka, kl := ws.length, kc := kc }) :=
   ⟨rfl, .inr ⟨w4.heap.size, 0, 1, _, 40, (0, 0), rfl, g5, rfl⟩⟩
  rw [hvo] at ha
  have hown5 : VW.Own 1 9 w5 (.slice ka ws.length kc) (keysW ws).length (cellsOf Sm.encS (keysW ws)) := by
   have h1 := VW.Own.frN hk4 hf5
   rw [hkv] at h1
   simpa using h1
  obtain ⟨v6, w6, hr6, ha6, hf6⟩ := AnsAt.app1 (a := recA (i : Int) (q.n, keysW ws)) (ha.frN hf5) hsl ⟨rfl, hown5, fun b hb => hkb b (by rw [hkv]; exact hb) |> fun h => by omega⟩ (by rw [hll]; omega) (fun b hb => .inr (by omega))
  have cw6 := cur w6
  have hz6 := hf6.size
  have hob := ha.blk
  have hnr : ∀ x ∈ blkL (.slice oa (i + 1) oc), (w.heap.size ≤ x ∧ x < w2.heap.size) ∨ w3.heap.size ≤ x := fun x hx => hob x (Sm.mem_blkL.1 hx)
  have hd6 := hf6.get (hf5.getN hd4) (fun hm => by
   rcases hnr _ hm with h | h <;> omega)
  have gq6 := hf6.get (hf5.getN gq4) (fun hm => by
   obtain ⟨⟨ms, ho, _, _⟩, _⟩ := ha
   exact Sm.own_head ho gq4 (by decide) (Sm.mem_blkL.1 hm))
  have hk6 : VW.Own 1 9 w6 vk ws.length (cellsOf Sm.encS (keysW ws)) := (VW.Own.frN hk4 hf5).fr hf6 (fun x hx e => by
   obtain ⟨⟨ms, ho, _, _⟩, _⟩ := ha
   exact Sm.own_ne hk4 ho (by decide) x e (Sm.mem_blkL.1 hx))
  have hr6' := (hr4.frN hf5).fr hf6 (fun x hx => ⟨fun e => by
   have := hlg3 x (.inl e)
   rcases hnr _ hx with h | h <;> omega, fun e => by
   have := hlg3 x (.inr e)
   rcases hnr _ hx with h | h <;> omega⟩)
  simp (maxSteps:=4000000)(disch:=first|assumption|(simp only[dz];first|done|assumption|omega)|omega|apply_rules[Fr.refl,Fr.alloc,Fr.drew]|rfl) only [↓gd,gp,Nat.reduceAdd,Nat.reduceEqDiff, ↓hk35, e0, e5, e10, e11, ← e9, hr6, wr]
  refine hk _ _ hil rfl ?_
  simp (maxSteps:=4000000)(disch:=first|assumption|(simp only[dz];first|done|assumption|omega)|omega|apply_rules[Fr.refl,Fr.alloc,Fr.drew]|rfl) only [↓gsd,gs,gv,Nat.reduceAdd,Nat.reduceEqDiff, e0, e5, e10, hkv]
  rw [List.range_succ, List.map_append]
  rw [hkv] at hk6
  refine ⟨ha6, hd6, gq6, hk6, hr6', (hF4.trans' hf5).trans hf6 (fun x hx => .inr ?_), by omega⟩
  rcases hnr _ hx with h | h
  ·exact h.1
  ·have := hF2.size; omega
 ·have d1 : decide ((i : Int) < c.nodes) = false := decide_eq_false (by omega)
  have hi2 : i = c.nodes.toNat := by omega
  subst hi2
  simp (maxSteps:=4000000)(disch:=first|assumption|(simp only[dz];first|done|assumption|omega)|omega|apply_rules[Fr.refl,Fr.alloc,Fr.drew]|rfl) only [↓gd,gp,Nat.reduceAdd,Nat.reduceEqDiff, ↓hk35, e0, e5, e10, e11, hd4, d1]
  exact hK _ vl' Rd' w4 hd4 hr4 (fun x hx => by have := (hlg3 x (.inl hx)).2; omega) (ha.rd (fun a ha => by
   rcases List.mem_cons.1 ha with rfl | ha
   ·rfl
   ·obtain ⟨j, _, rfl⟩ := List.mem_map.1 ha
    rfl)) hF4 (fun x hx => by
   rcases hb3 x hx with h | h
   ·exact .inl h
   ·have := hF2.size; exact .inr (by omega)) (fun x hx => by
   rcases hR3 x hx with h | h
   ·exact .inl h
   ·have := hF2.size; exact .inr (by omega))
end Go.Proofs.YtgloomahpjpiiaaGreat.Or
namespace Go.Proofs.YtgloomahpjpiiaaGreat.Or
open Go.VW
def qOf (Q : List Req) (s : Int) : Req := Q[s.toNat]?.getD req0
def rcm (c : Cfg) (own : List (List St.Wr)) (Q : List Req) (m : Msg) (ws : List St.Wr) : List Ans × List (List St.Wr) × List Req :=
 if m.seq < (qOf Q m.ses).seq then ([], own, Q) else if m.seq = (qOf Q m.ses).seq then ([ackA m (qOf Q m.ses)], own, Q) else
 if St.chk ws = 0 then (ackA m ⟨m.seq, (own.length : Int) + 1, 0⟩ :: (List.range c.nodes.toNat).map (fun (i : Nat) => recA (i : Int) ((own.length : Int) + 1, keysW ws)), own ++ [ws], Q.set m.ses.toNat ⟨m.seq, (own.length : Int) + 1, 0⟩)
 else ([ackA m ⟨m.seq, 0, St.chk ws⟩], own, Q.set m.ses.toNat ⟨m.seq, 0, St.chk ws⟩)
theorem AnsRd.nil {w : World} : AnsRd w (.slice none 0 0) [] := ⟨[], Sl.nil, rfl, fun i m a h => by simp at h⟩
set_option maxHeartbeats 32000000 in
theorem r15commit_spec {w : World} {rb : Nat} {c : Cfg} {v vl : Value} {own : List (List St.Wr)} {Q : List Req} {Rd : List Nat} {m : Msg} {ws : List St.Wr} {ks : List ByteArray} {K : Value → World → Prop} (h : R15 w rb c v vl own Q Rd) (hm : MsgAt w m ws ks)
  (hoff : ∀ x ∈ rb :: (blkL v ++ blkL vl), offV m.wv x) (hses : 0 ≤ m.ses ∧ m.ses < 64) (hn : 1 ≤ c.nodes ∧ c.nodes ≤ 8) (hown : own.length ≤ 137438953472) (hchk : ∀ ws ∈ own, St.chk ws = 0)
  (hK : ∀ (vo v' vl' : Value) (Rd' : List Nat) (w' : World), R15 w' rb c v' vl' (rcm c own Q m ws).2.1 (rcm c own Q m ws).2.2 Rd' → AnsRd w' vo (rcm c own Q m ws).1 → Fr (rb :: (blkL v ++ blkL vl)) w w' → (∀ x ∈ rbs rb v' vl' Rd', x ∈ rbs rb v vl Rd ∨ w.heap.size ≤ x) → K vo w') :
  CallsN Tryz.prog 35 [.pointer (some ⟨rb, 0, none⟩), .agg (encMsg m).toArray] w K := by
 have cw := cur w
 refine call35 ?_
 have hme : (encMsg m).toArray = #[.int .i64 m.kind, .int .i64 m.node, .int .i64 m.inc, .int .i64 m.ses, .int .i64 m.tx, .int .i64 m.seq, .string m.key, .int .i64 m.plo, .int .i64 m.phi, .bool m.vh, .string m.vd, .bool m.hit, .int .i64 m.err, .int .i64 m.n, .slice m.wa m.wl m.wc, .slice m.ka m.kl m.kc] := rfl
 rw [hme]
 simp (maxSteps:=4000000)(disch:=first|assumption|(simp only[dz];first|done|assumption|omega)|omega|apply_rules[Fr.refl,Fr.alloc,Fr.drew]|rfl) only [↓gd,gp,Nat.reduceAdd,Nat.reduceEqDiff, ↓c35_7_s, ↓c35_17_s, ↓c35_19_s, ↓c35_18_s, ↓c35_16_s, ↓c35_21_s, ↓c35_20_s, ↓c35_15_s, ↓c35_14_s, ↓c35_13_s, ↓c35_12_s, ↓c35_11_s, ↓c35_10_s, ↓c35_9_s, ↓c35_8_s, ↓c35_6_s, ↓c35_5_s, ↓c35_26_s, ↓c35_25_s, ↓c35_24_s, ↓c35_23_s, ↓c35_22_s, ↓c35_4_s, ↓c35_3_s, ↓c35_29_s, ↓c35_28_s, ↓c35_27_s, ↓c35_2_s, ↓c35_s, ↓w3t_35]
 generalize hW : World.alloc w _ = w1
 have hf1 : Fr [] w w1 := by rw [← hW]; (repeat (first | exact Fr.refl _ _ | assumption | with_reducible apply Fr.alloc | with_reducible apply Fr.drew | with_reducible refine Fr.setB ?_ _ _ (.inr (by first | omega | (simp only [gz]; omega))) | with_reducible refine Fr.setB ?_ _ _ (.inl (by first | assumption | simp)) | with_reducible refine Fr.trans' ?_ (by assumption)))
 have hz1 : w1.heap.size = w.heap.size + 1 := by rw [← hW]; simp only [gz]
 obtain ⟨mb, hmb⟩ : ∃ mb, mb = w.heap.size := ⟨_, rfl⟩
 rw [← hmb]
 have g1 : w1.heap[mb]? = some (.cells (encMsg m).toArray 40 (0, 0)) := by rw [← hW, hmb]; exact get_alloc_new _ _
 clear hW
 have cw1 := cur w1
 have h1 := h.frN hf1
 have hd1 := h1.hd
 have g1' := g1
 rw [hme] at g1'
 obtain ⟨s, hs⟩ : ∃ s, s = m.ses.toNat := ⟨_, rfl⟩
 have hsl : s < Q.length := by rw [h.ql]; omega
 obtain ⟨q, hq⟩ : ∃ q, Q[s]? = some q := ⟨Q[s], List.getElem?_eq_getElem hsl⟩
 have hqO : qOf Q m.ses = q := by unfold qOf; rw [← hs, hq]; rfl
 have ix := fun w => ixQ (s := m.ses) hses.1 hses.2 rb w
 have ixT := fun M w0 K => ixQT (s := m.ses) hses.1 hses.2 rb M w0 K
 rw [← hs] at ix ixT
 have rq := fun orig K => readQ (c := c) (v := v) (m := c.vers) (l := own.length) (vl := vl) hq orig K
 unfold encReq at rq
 unfold rcm at hK
 rw [hqO] at hK
 by_cases q1 : m.seq < q.seq
 ·have d1 : decide (m.seq < q.seq) = true := decide_eq_true q1
  rw [if_pos q1] at hK
  simp (maxSteps:=4000000)(disch:=first|assumption|(simp only[dz];first|done|assumption|omega)|omega|apply_rules[Fr.refl,Fr.alloc,Fr.drew]|rfl) only [↓gd,gp,Nat.reduceAdd,Nat.reduceEqDiff, ↓hk35, g1', hd1, ix, ixT, rq, d1]
  have hfw := fun o => (Fr.drew hf1).alloc o
  exact hK _ v vl Rd _ (h.frN (hfw _)) AnsRd.nil ((hfw _).mono (by simp)) (fun x hx => .inl hx)
 have d1 : decide (m.seq < q.seq) = false := decide_eq_false q1
 rw [if_neg q1] at hK
 by_cases q2 : m.seq = q.seq
 ·have d2 : decide (q.seq < m.seq) = false := decide_eq_false (by omega)
  rw [if_pos q2] at hK
  simp (maxSteps:=4000000)(disch:=first|assumption|(simp only[dz];first|done|assumption|omega)|omega|apply_rules[Fr.refl,Fr.alloc,Fr.drew]|rfl) only [↓gd,gp,Nat.reduceAdd,Nat.reduceEqDiff, ↓c35_7_s, ↓c35_17_s, ↓c35_19_s, ↓c35_18_s, ↓c35_16_s, ↓c35_21_s, ↓c35_20_s, ↓c35_15_s, ↓c35_14_s, ↓c35_13_s, ↓c35_12_s, ↓c35_11_s, ↓c35_10_s, ↓c35_9_s, ↓c35_8_s, ↓c35_6_s, ↓c35_26_s, ↓c35_25_s, ↓c35_24_s, ↓c35_23_s, ↓c35_22_s, ↓c35_4_s, ↓c35_3_s, ↓c35_29_s, ↓c35_28_s, ↓c35_27_s, ↓c35_2_s, ↓c35_1_s, ↓c35_s, ↓w3t_35, g1', hd1, ix, ixT, rq, d1, d2]
  generalize hW : World.alloc _ _ = w2
  have hf2 : Fr [] w1 w2 := by rw [← hW]; (repeat (first | exact Fr.refl _ _ | assumption | with_reducible apply Fr.alloc | with_reducible apply Fr.drew | with_reducible refine Fr.setB ?_ _ _ (.inr (by first | omega | (simp only [gz]; omega))) | with_reducible refine Fr.setB ?_ _ _ (.inl (by first | assumption | simp)) | with_reducible refine Fr.trans' ?_ (by assumption)))
  have g2 : w2.heap[w1.heap.size]? = some (.cells (encReq q).toArray 49 (0, 0)) := by rw [← hW]; exact get_alloc_is (by simp only [gz])
  clear hW
  refine r15tail_a (q := q) (fr := false) (hf2.getN g1) g2 rfl rfl rfl (fun e => by cases e) fun vo w3 hA hf3 => ?_
  have hF := (hf1.trans' hf2).trans' hf3
  exact hK _ v vl Rd _ (h.frN hF) hA (hF.mono (by simp)) (fun x hx => .inl hx)
 have d2 : decide (q.seq < m.seq) = true := decide_eq_true (by omega)
 rw [if_neg q2] at hK
 simp (maxSteps:=4000000)(disch:=first|assumption|(simp only[dz];first|done|assumption|omega)|omega|apply_rules[Fr.refl,Fr.alloc,Fr.drew]|rfl) only [↓gd,gp,Nat.reduceAdd,Nat.reduceEqDiff, ↓c35_7_s, ↓c35_17_s, ↓c35_19_s, ↓c35_18_s, ↓c35_16_s, ↓c35_21_s, ↓c35_20_s, ↓c35_15_s, ↓c35_14_s, ↓c35_13_s, ↓c35_12_s, ↓c35_11_s, ↓c35_10_s, ↓c35_9_s, ↓c35_8_s, ↓c35_6_s, ↓c35_26_s, ↓c35_25_s, ↓c35_24_s, ↓c35_23_s, ↓c35_22_s, ↓c35_4_s, ↓c35_3_s, ↓c35_29_s, ↓c35_28_s, ↓c35_27_s, ↓c35_2_s, ↓c35_1_s, ↓c35_s, ↓w3t_35, g1', hd1, ix, ixT, rq, d1, d2]
 generalize hW : World.alloc _ _ = w2
 have hf2 : Fr [] w1 w2 := by rw [← hW]; (repeat (first | exact Fr.refl _ _ | assumption | with_reducible apply Fr.alloc | with_reducible apply Fr.drew | with_reducible refine Fr.setB ?_ _ _ (.inr (by first | omega | (simp only [gz]; omega))) | with_reducible refine Fr.setB ?_ _ _ (.inl (by first | assumption | simp)) | with_reducible refine Fr.trans' ?_ (by assumption)))
 have hz2 : w2.heap.size = w1.heap.size + 1 := by rw [← hW]; simp only [gz]
 obtain ⟨qb, hqb⟩ : ∃ qb, qb = w1.heap.size := ⟨_, rfl⟩
 rw [← hqb]
 have g2 : w2.heap[qb]? = some (.cells (encReq q).toArray 49 (0, 0)) := by rw [← hW, hqb]; exact get_alloc_is (by simp only [gz])
 clear hW
 have cw2 := cur w2
 have hF2 := hf1.trans' hf2
 have h2 := h.frN hF2
 have gm2 := hf2.getN g1'
 try simp (maxSteps:=4000000)(disch:=first|assumption|(simp only[dz];first|done|assumption|omega)|omega|apply_rules[Fr.refl,Fr.alloc,Fr.drew]|rfl) only [↓gd,gp,Nat.reduceAdd,Nat.reduceEqDiff, ↓c35_7_s, ↓c35_17_s, ↓c35_19_s, ↓c35_18_s, ↓c35_16_s, ↓c35_21_s, ↓c35_20_s, ↓c35_15_s, ↓c35_14_s, ↓c35_13_s, ↓c35_12_s, ↓c35_11_s, ↓c35_10_s, ↓c35_9_s, ↓c35_8_s, ↓c35_6_s, ↓c35_26_s, ↓c35_25_s, ↓c35_24_s, ↓c35_23_s, ↓c35_22_s, ↓c35_4_s, ↓c35_3_s, ↓c35_29_s, ↓c35_28_s, ↓c35_27_s, ↓c35_2_s, ↓c35_1_s, ↓c35_s, ↓w3t_35, gm2]
 have hfd : Fr [] w2 w2.drew := Fr.drew (Fr.refl _ _)
 have hzd : w2.drew.heap.size = w2.heap.size := by simp only [gz]
 generalize World.drew w2 = w2d at *
 have cw2d := cur w2d
 have hF2d := hF2.trans' hfd
 have h2d := h.frN hF2d
 have hdw2 := hm.dw.frN hF2d
 have hwo : ∀ w', Fr (rb :: blkL v) w2d w' → SlOf 3 St.encWr w' m.wv ws := fun w' hf => hdw2.fr hf (fun x hx => hoff x (by
  rcases List.mem_cons.1 hx with e | e
  ·simp [e]
  ·simp [e]))
 have hp8 := St.past_len8 own hchk
 have hlt0 : ∀ x ∈ rbs rb v vl Rd, x < w.heap.size := h.lts
 refine St.r5commit h2d.st hwo hm.wl (by omega) (by omega) fun v' w3 h3 hb3 hf3 => ?_
 have cw3 := cur w3
 have hz3 := hf3.size
 have hbl : ∀ x ∈ rb :: blkL v, x < w.heap.size := fun x hx => hlt0 x (by
  rcases List.mem_cons.1 hx with e | e
  ·simp [rbs, e]
  ·simp [rbs, e])
 have gq3 := hf3.get (hfd.getN g2) (fun hm' => by have := hbl _ hm'; omega)
 have gm3 := hf3.get (hfd.getN gm2) (fun hm' => by have := hbl _ hm'; omega)
 have hvs := h.vs
 have e64 : ((c.vers.toNat : Nat) : Int) = c.vers := by omega
 have hd3 : w3.heap[rb]? = some (.cells (cells15 c v' c.vers ((St.rcommit own ws).2.length) vl Q).toArray 52 (0, 0)) := by
  have := h3.head
  rw [e64] at this
  exact this
 have hrb : rb < w.heap.size := hbl rb (List.mem_cons_self ..)
 have hqr : qb ≠ rb := by omega
 have hrq : rb ≠ qb := by omega
 obtain ⟨q', hq'⟩ : ∃ q' : Req, q' = ⟨m.seq, (St.rcommit own ws).1.1, (St.rcommit own ws).1.2⟩ := ⟨_, rfl⟩
 have sq := fun orig K => storeQ (c := c) (v := v') (m := c.vers) (l := (St.rcommit own ws).2.length) (vl := vl) hsl q' orig K
 have eq' : encReq q' = [.int .i64 m.seq, .int .i64 (St.rcommit own ws).1.1, .int .i64 (St.rcommit own ws).1.2] := by rw [hq']; rfl
 rw [eq'] at sq
 unfold encReq at gq3
 have lq3 := lt_of_get _ _ gq3
 have lr3 := lt_of_get _ _ hd3
 simp (maxSteps:=4000000)(disch:=first|assumption|(simp only[dz];first|done|assumption|omega)|omega|apply_rules[Fr.refl,Fr.alloc,Fr.drew]|rfl) only [↓gd,gp,Nat.reduceAdd,Nat.reduceEqDiff, ↓c35_7_s, ↓c35_17_s, ↓c35_19_s, ↓c35_18_s, ↓c35_16_s, ↓c35_21_s, ↓c35_20_s, ↓c35_15_s, ↓c35_14_s, ↓c35_13_s, ↓c35_12_s, ↓c35_11_s, ↓c35_10_s, ↓c35_9_s, ↓c35_8_s, ↓c35_6_s, ↓c35_26_s, ↓c35_25_s, ↓c35_24_s, ↓c35_23_s, ↓c35_22_s, ↓c35_4_s, ↓c35_3_s, ↓c35_29_s, ↓c35_28_s, ↓c35_27_s, ↓c35_2_s, ↓c35_1_s, ↓c35_s, ↓w3t_35, gm3, gq3, ixT, hd3, sq]
 generalize hW : World.setB _ rb _ = w4
 have hf4 : Fr [qb, rb] w3 w4 := by
  rw [← hW]
  exact (Fr.drew ((Fr.refl _ _).setB _ _ (.inl (by simp)))).setB _ _ (.inl (by simp))
 have hd4 : w4.heap[rb]? = some (.cells (cells15 c v' c.vers ((St.rcommit own ws).2.length) vl (Q.set s q')).toArray 52 (0, 0)) := by
  rw [← hW]; exact get_setB_same _ _ _ (by simp only [gz]; omega)
 have gq4 : w4.heap[qb]? = some (.cells (encReq q').toArray 49 (0, 0)) := by
  rw [← hW, eq', get_setB_ne _ _ _ _ hrq]
  exact get_setB_same _ _ _ lq3
 clear hW
 have cw4 := cur w4
 have hz4 := hf4.size
 have gm4 : w4.heap[mb]? = some (.cells (encMsg m).toArray 40 (0, 0)) := hf4.get gm3 (by simp; omega)
 have ho4 : VW.Own 4 131 w4 v' (St.past (St.rcommit own ws).2).length (cellsOf St.encPast (St.past (St.rcommit own ws).2)) := h3.own.fr hf4 (fun x hx e => by
  simp only [List.mem_cons, List.not_mem_nil, or_false] at hx
  rcases hx with rfl | rfl
  ·exact Sm.own_head h3.own gq3 (by decide) e
  ·exact Sm.own_head h3.own hd3 (by decide) e)
 have htp : ∀ {x : Nat}, v.ownBlock = some x → ∃ cur, w2d.heap[x]? = some (.cells cur 131 (0, 0)) := fun hx => own_typed h2d.st.own hx
 have hlg4 : Sm.RcsAt w4 (· ∈ Rd) (· ∈ blkL vl) vl (Sm.recsL (own.map keysW)) := by
  refine rcs_typed (rcs_typed h2d.lg hf3 (fun x hx cs fr => ?_)) hf4 (fun x hx cs fr => ?_)
  ·rcases List.mem_cons.1 hx with rfl | hx
   ·exact ⟨typed_ne h2d.hd (by decide) _ _, typed_ne h2d.hd (by decide) _ _⟩
   ·obtain ⟨cur, hc⟩ := htp (St.mem_blkL.1 hx)
    exact ⟨typed_ne hc (by decide) _ _, typed_ne hc (by decide) _ _⟩
  ·simp only [List.mem_cons, List.not_mem_nil, or_false] at hx
   rcases hx with rfl | rfl
   ·exact ⟨typed_ne gq3 (by decide) _ _, typed_ne gq3 (by decide) _ _⟩
   ·exact ⟨typed_ne hd3 (by decide) _ _, typed_ne hd3 (by decide) _ _⟩
 have hq64 : (Q.set s q').length = 64 := by rw [List.length_set]; exact h.ql
 have hRd4 : ∀ x ∈ Rd, x < w4.heap.size := fun x hx => by
  have := hlt0 x (by simp [rbs, hx])
  have := hF2d.size
  omega
 have hF4 : Fr (rb :: (blkL v ++ blkL vl)) w w4 := ((hF2d.mono (by simp)).trans hf3 (fun x hx => .inl (by
   rcases List.mem_cons.1 hx with e | e
   ·simp [e]
   ·simp [e]))).trans hf4 (fun x hx => by
   simp only [List.mem_cons, List.not_mem_nil, or_false] at hx
   rcases hx with rfl | rfl
   ·exact .inr (by omega)
   ·exact .inl (by simp))
 have hsz := hF2d.size
 by_cases hc : St.chk ws = 0
 ·have er : St.rcommit own ws = (((own.length : Int) + 1, 0), own ++ [ws]) := by unfold St.rcommit; rw [if_neg (by simp [hc])]
  rw [if_pos hc] at hK
  rw [er] at hq' hd4 ho4 h3
  simp only at hq' hd4 ho4
  refine r15tail_b (q := q') (L := own.map keysW) (ws := ws) hd4 hlg4 hRd4 ((hwo w3 hf3).fr hf4 (fun x hx => ?_)) hc (by simp; omega) hn gm4 gq4 hqr (by rw [hq']) hm.wlen rfl rfl rfl rfl fun vo vl' Rd' w5 hd5 hr5 hR5 hA hf5 hb5 hR5' => ?_
  ·simp only [List.mem_cons, List.not_mem_nil, or_false] at hx
   rcases hx with rfl | rfl
   ·exact fun a' n' c' e' e2 => by
     have hpos : 0 < ws.length := by
      unfold St.chk at hc
      split at hc
      ·cases hc
      ·omega
     obtain ⟨bb, of', cap', hb1, hb2⟩ := hm.dw.lt hpos
     rw [hb1] at e'
     simp only [Value.slice.injEq, Option.some.injEq] at e'
     rw [← e'.1] at e2
     simp only at e2
     omega
   ·exact hoff _ (by simp)
  have hA' : AnsRd w5 vo (ackA m ⟨m.seq, (own.length : Int) + 1, 0⟩ :: (List.range c.nodes.toNat).map (fun (i : Nat) => recA (i : Int) ((own.length : Int) + 1, keysW ws))) := by
   rw [hq'] at hA; exact hA
  refine hK vo v' vl' Rd' w5 (R15.mk' (by rw [← hq', ← hs]; exact hd5) (ho4.fr hf5 (fun x hx e => ?_)) (by rw [List.map_append]; exact hr5) (by rw [← hs, ← hq']; exact hq64) hR5 hvs) hA' (hF4.trans hf5 (fun x hx => .inl (by
   rcases List.mem_cons.1 hx with e | e
   ·simp [e]
   ·simp [e]))) (fun x hx => ?_)
  ·rcases List.mem_cons.1 hx with rfl | hx
   ·exact Sm.own_head ho4 hd4 (by decide) e
   ·obtain ⟨⟨rs, hol, _, _⟩, _⟩ := hlg4
    exact Sm.own_ne ho4 hol (by decide) x e (Sm.mem_blkL.1 hx)
  ·simp only [rbs, List.mem_cons, List.mem_append] at hx ⊢
   rcases hx with rfl | e | e | e
   ·exact .inl (.inl rfl)
   ·rcases hb3 x (St.mem_blkL.1 e) with e' | e'
    ·exact .inl (.inr (.inl (St.mem_blkL.2 e')))
    ·exact .inr (by omega)
   ·rcases hb5 x e with e' | e'
    ·exact .inl (.inr (.inr (.inl e')))
    ·exact .inr (by omega)
   ·rcases hR5' x e with e' | e'
    ·exact .inl (.inr (.inr (.inr e')))
    ·exact .inr (by omega)
 ·have er : St.rcommit own ws = ((0, St.chk ws), own) := by unfold St.rcommit; rw [if_pos hc]
  rw [if_neg hc] at hK
  rw [er] at hq' hd4 ho4 h3
  simp only at hq' hd4 ho4
  refine r15tail_a (q := q') (fr := true) gm4 gq4 rfl rfl rfl (fun _ => by rw [hq']; exact hc) fun vo w5 hA hf5 => ?_
  rw [hq'] at hA
  refine hK vo v' vl Rd w5 ((R15.mk' (by rw [← hq', ← hs]; exact hd4) ho4 hlg4 (by rw [← hs, ← hq']; exact hq64) hRd4 hvs).frN hf5) hA (hF4.trans' hf5) (fun x hx => ?_)
  simp only [rbs, List.mem_cons, List.mem_append] at hx ⊢
  rcases hx with rfl | e | e | e
  ·exact .inl (.inl rfl)
  ·rcases hb3 x (St.mem_blkL.1 e) with e' | e'
   ·exact .inl (.inr (.inl (St.mem_blkL.2 e')))
   ·exact .inr (by omega)
  ·exact .inl (.inr (.inr (.inl e)))
  ·exact .inl (.inr (.inr (.inr e)))
end Go.Proofs.YtgloomahpjpiiaaGreat.Or
namespace Go.Proofs.YtgloomahpjpiiaaGreat.Or
open Go.VW
def rrdF (c : Cfg) (own : List (List St.Wr)) (m : Msg) : St.Fact × Int := St.rread c.vers.toNat own m.key (min (m.phi - 1) own.length)
def rrd (c : Cfg) (own : List (List St.Wr)) (m : Msg) : List Ans :=
 if (own.length : Int) < m.plo then [⟨{ toldM m with err := 21 }, []⟩] else
 if (rrdF c own m).2 = 0 then [⟨{ toldM m with vh := (rrdF c own m).1.has, vd := (rrdF c own m).1.data, plo := (rrdF c own m).1.lo, phi := if (own.length : Int) < (rrdF c own m).1.hi then (own.length : Int) + 1 else (rrdF c own m).1.hi }, []⟩,
  ⟨{ msg0 with kind := 7, node := toI m.key c.nodes, key := m.key, vh := (rrdF c own m).1.has, vd := (rrdF c own m).1.data, plo := (rrdF c own m).1.lo, phi := (rrdF c own m).1.hi, n := own.length }, []⟩]
 else [⟨{ toldM m with err := (rrdF c own m).2 }, []⟩]
theorem AnsRd.one {w : World} {b : Nat} {m : Msg} (hb : w.heap[b]? = some (.cells (encMsg m).toArray 40 (0, 0))) (hk : m.ka = none ∧ m.kl = 0 ∧ m.kc = 0) (hw : m.wv = .slice none 0 0) : AnsRd w (.slice (some ⟨b, 0, none⟩) 1 1) [⟨m, []⟩] :=
 (AnsAt.one (R := fun _ => True) (R' := fun _ => True) hb (AnsIs.plain hk) trivial).rd (fun a ha => by simp at ha; subst ha; exact hw)
set_option maxHeartbeats 64000000 in
theorem r15read_spec {w : World} {rb : Nat} {c : Cfg} {v vl : Value} {own : List (List St.Wr)} {Q : List Req} {Rd : List Nat} {m : Msg} {K : Value → World → Prop} (h : R15 w rb c v vl own Q Rd) (hp : 0 < m.phi ∧ m.phi ≤ 9223372036854775807) (hk : m.key.size ≤ 9223372036854775807)
  (hown : own.length ≤ 137438953472) (hchk : ∀ ws ∈ own, St.chk ws = 0) (hK : ∀ vo w', AnsRd w' vo (rrd c own m) → Fr [] w w' → K vo w') :
  CallsN Tryz.prog 36 [.pointer (some ⟨rb, 0, none⟩), .agg (encMsg m).toArray] w K := by
 have cw := cur w
 refine call36 ?_
 have hme : (encMsg m).toArray = #[.int .i64 m.kind, .int .i64 m.node, .int .i64 m.inc, .int .i64 m.ses, .int .i64 m.tx, .int .i64 m.seq, .string m.key, .int .i64 m.plo, .int .i64 m.phi, .bool m.vh, .string m.vd, .bool m.hit, .int .i64 m.err, .int .i64 m.n, .slice m.wa m.wl m.wc, .slice m.ka m.kl m.kc] := rfl
 rw [hme]
 have hd := h.hd
 have lr := lt_of_get _ _ hd
 simp (maxSteps:=4000000)(disch:=first|assumption|(simp only[dz];first|done|assumption|omega)|omega|apply_rules[Fr.refl,Fr.alloc,Fr.drew]|rfl) only [↓gd,gp,Nat.reduceAdd,Nat.reduceEqDiff, ↓c36_13_s, ↓c36_12_s, ↓c36_16_s, ↓c36_15_s, ↓c36_14_s, ↓c36_11_s, ↓c36_10_s, ↓c36_9_s, ↓c36_19_s, ↓c36_18_s, ↓c36_17_s, ↓c36_8_s, ↓c36_7_s, ↓c36_6_s, ↓c36_22_s, ↓c36_21_s, ↓c36_20_s, ↓c36_5_s, ↓c36_4_s, ↓c36_26_s, ↓c36_25_s, ↓c36_24_s, ↓c36_23_s, ↓c36_3_s, ↓c36_1_s, ↓c36_s, ↓w3t_36]
 generalize hW : World.alloc (World.alloc w _) _ = w1
 have hf1 : Fr [] w w1 := by rw [← hW]; (repeat (first | exact Fr.refl _ _ | assumption | with_reducible apply Fr.alloc | with_reducible apply Fr.drew | with_reducible refine Fr.setB ?_ _ _ (.inr (by first | omega | (simp only [gz]; omega))) | with_reducible refine Fr.setB ?_ _ _ (.inl (by first | assumption | simp)) | with_reducible refine Fr.trans' ?_ (by assumption)))
 have hz1 : w1.heap.size = w.heap.size + 2 := by rw [← hW]; simp only [gz]
 obtain ⟨mb, hmb⟩ : ∃ mb, mb = w.heap.size := ⟨_, rfl⟩
 obtain ⟨tb, htb⟩ : ∃ tb, tb = w.heap.size + 1 := ⟨_, rfl⟩
 rw [← htb, ← hmb]
 have gm : w1.heap[mb]? = some (.cells (encMsg m).toArray 40 (0, 0)) := by rw [← hW, hmb, hme]; simp (maxSteps:=4000000)(disch:=first|assumption|(simp only[dz];first|done|assumption|omega)|omega|apply_rules[Fr.refl,Fr.alloc,Fr.drew]|rfl) only [↓gsd,gs,gv,Nat.reduceAdd,Nat.reduceEqDiff]
 have gt' : w1.heap[tb]? = some (.cells (encMsg (toldM m)).toArray 40 (0, 0)) := by rw [← hW, htb]; simp (maxSteps:=4000000)(disch:=first|assumption|(simp only[dz];first|done|assumption|omega)|omega|apply_rules[Fr.refl,Fr.alloc,Fr.drew]|rfl) only [↓gsd,gs,gv,Nat.reduceAdd,Nat.reduceEqDiff]; rfl
 clear hW
 have cw1 := cur w1
 have hd1 := hf1.getN hd
 rw [hme] at gm
 unfold toldM msg0 encMsg at gt'
 have lt1 := lt_of_get _ _ gt'
 unfold rrd at hK
 have hp8 := St.past_len8 own hchk
 by_cases c1 : (own.length : Int) < m.plo
 ·have d1 : decide ((own.length : Int) < m.plo) = true := decide_eq_true c1
  rw [if_pos c1] at hK
  simp (maxSteps:=4000000)(disch:=first|assumption|(simp only[dz];first|done|assumption|omega)|omega|apply_rules[Fr.refl,Fr.alloc,Fr.drew]|rfl) only [↓gd,gp,Nat.reduceAdd,Nat.reduceEqDiff, ↓hk36, hd1, gm, gt', d1]
  exact hK _ _ (AnsRd.one (m := { toldM m with err := 21 }) (get_alloc_is (by simp only [gz])) ⟨rfl, rfl, rfl⟩ rfl) ((hf1.setB _ _ (.inr (by omega))).alloc _)
 have d1 : decide ((own.length : Int) < m.plo) = false := decide_eq_false c1
 rw [if_neg c1] at hK
 have wr1 : IntKind.i64.wrap (m.phi - 1) = m.phi - 1 := wrap64 (by omega) (by omega)
 have rest2 : ∀ (e : Env) (w2 : World) (fb : Nat) (f : St.Fact) (er : Int), Fr [] w1 w2 → w2.heap[fb]? = some (.cells (St.encFact f).toArray 57 (0, 0)) → w.heap.size ≤ fb → rrdF c own m = (f, er) →
   e 0 = .pointer (some ⟨rb, 0, none⟩) → e 3 = .pointer (some ⟨mb, 0, none⟩) → e 5 = .pointer (some ⟨tb, 0, none⟩) → e 6 = .int .i64 own.length → e 8 = .pointer (some ⟨fb, 0, none⟩) → e 9 = .int .i64 er →
   W3 Tryz.prog 92 V36 c36_7 (retQ Tryz.prog [ResultVar.tmp 4] K) e w2 := fun e w2 fb f er hf2 gf hfb hrr e0 e3 e5 e6 e8 e9 => by
  have cw2 := cur w2
  have hF2 := hf1.trans' hf2
  have gt2 := hf2.getN gt'
  have gm2 := hf2.getN gm
  have hd2 := hf2.getN hd1
  have lt2 := lt_of_get _ _ gt2
  have htf : tb ≠ fb := fun e => by rw [e, gf] at gt2; cases gt2
  have hft : fb ≠ tb := fun e => htf e.symm
  have hmt : mb ≠ tb := by omega
  have hrt : rb ≠ tb := by omega
  unfold St.encFact at gf
  rw [hrr] at hK
  simp only at hK
  by_cases q : er = 0
  ·have d : decide (er = 0) = true := decide_eq_true q
   rw [if_pos q] at hK
   have wl : IntKind.i64.wrap ((own.length : Int) + 1) = (own.length : Int) + 1 := wrap64 (by omega) (by omega)
   have rest3 : ∀ (e : Env) (w3 : World) (hi : Int), Fr [tb] w2 w3 → w3.heap[tb]? = some (.cells (encMsg { toldM m with vh := f.has, vd := f.data, plo := f.lo, phi := hi }).toArray 40 (0, 0)) → hi = (if (own.length : Int) < f.hi then (own.length : Int) + 1 else f.hi) →
     e 0 = .pointer (some ⟨rb, 0, none⟩) → e 3 = .pointer (some ⟨mb, 0, none⟩) → e 5 = .pointer (some ⟨tb, 0, none⟩) → e 6 = .int .i64 own.length → e 8 = .pointer (some ⟨fb, 0, none⟩) →
     W3 Tryz.prog 92 V36 c36_12 (retQ Tryz.prog [ResultVar.tmp 4] K) e w3 := fun e w3 hi hf3 gt3 hhi e0 e3 e5 e6 e8 => by
    have cw3 := cur w3
    have gm3 := hf3.get gm2 (by simp; omega)
    have gf3 := hf3.get gf (by simp; omega)
    have hd3 := hf3.get hd2 (by simp; omega)
    have hF3 : Fr [] w w3 := hF2.trans hf3 (fun x hx => .inr (by simp at hx; omega))
    rw [← hhi] at hK
    have fin : ∀ (b2 : Nat) (w4 : World), Fr [] w3 w4 → w4.heap[b2]? = some (.cells (encMsg { toldM m with vh := f.has, vd := f.data, plo := f.lo, phi := hi } ++ encMsg { msg0 with kind := 7, node := toI m.key c.nodes, key := m.key, vh := f.has, vd := f.data, plo := f.lo, phi := f.hi, n := own.length }).toArray 40 (0, 0)) →
      K (.slice (some ⟨b2, 0, none⟩) 2 2) w4 := fun b2 w4 hf4 hg4 => hK _ _ ((AnsAt.two (R := fun _ => True) (R' := fun _ => True) hg4 (AnsIs.plain ⟨rfl, rfl, rfl⟩) (AnsIs.plain ⟨rfl, rfl, rfl⟩) trivial).rd (fun a ha => by
        simp only [List.mem_cons, List.not_mem_nil, or_false] at ha
        rcases ha with rfl | rfl <;> rfl)) (hF3.trans' hf4)
    unfold toldM msg0 encMsg at gt3
    have lt3 := lt_of_get _ _ gt3
    simp (maxSteps:=4000000)(disch:=first|assumption|(simp only[dz];first|done|assumption|omega)|omega|apply_rules[Fr.refl,Fr.alloc,Fr.drew]|rfl) only [↓gd,gp,Nat.reduceAdd,Nat.reduceEqDiff, ↓hk36, e0, e3, e5, e6, e8, gt3, gm3, gf3, hd3]
    refine ⟨?_, ?_⟩
    ·refine r14to hk ?_
     simp (maxSteps:=4000000)(disch:=first|assumption|(simp only[dz];first|done|assumption|omega)|omega|apply_rules[Fr.refl,Fr.alloc,Fr.drew]|rfl) only [↓gd,gp,Nat.reduceAdd,Nat.reduceEqDiff, ↓hk36, e0, e3, e5, e6, e8, gt3, gm3, gf3, hd3]
     exact fin _ _ (by (repeat (first | exact Fr.refl _ _ | assumption | with_reducible apply Fr.alloc | with_reducible apply Fr.drew | with_reducible refine Fr.setB ?_ _ _ (.inr (by first | omega | (simp only [gz]; omega))) | with_reducible refine Fr.setB ?_ _ _ (.inl (by first | assumption | simp)) | with_reducible refine Fr.trans' ?_ (by assumption)))) (get_alloc_is (by simp only [gz]))
    ·refine r14to hk ?_
     simp (maxSteps:=4000000)(disch:=first|assumption|(simp only[dz];first|done|assumption|omega)|omega|apply_rules[Fr.refl,Fr.alloc,Fr.drew]|rfl) only [↓gd,gp,Nat.reduceAdd,Nat.reduceEqDiff, ↓hk36, e0, e3, e5, e6, e8, gt3, gm3, gf3, hd3]
     exact fin _ _ (by (repeat (first | exact Fr.refl _ _ | assumption | with_reducible apply Fr.alloc | with_reducible apply Fr.drew | with_reducible refine Fr.setB ?_ _ _ (.inr (by first | omega | (simp only [gz]; omega))) | with_reducible refine Fr.setB ?_ _ _ (.inl (by first | assumption | simp)) | with_reducible refine Fr.trans' ?_ (by assumption)))) (get_alloc_is (by simp only [gz]))
   subst q
   by_cases q2 : (own.length : Int) < f.hi
   ·have d2 : decide ((own.length : Int) < f.hi) = true := decide_eq_true q2
    simp (maxSteps:=4000000)(disch:=first|assumption|(simp only[dz];first|done|assumption|omega)|omega|apply_rules[Fr.refl,Fr.alloc,Fr.drew]|rfl) only [↓gd,gp,Nat.reduceAdd,Nat.reduceEqDiff, ↓c36_13_s, ↓c36_16_s, ↓c36_15_s, ↓c36_14_s, ↓c36_11_s, ↓c36_10_s, ↓c36_9_s, ↓c36_19_s, ↓c36_18_s, ↓c36_17_s, ↓c36_8_s, ↓c36_7_s, ↓c36_6_s, ↓c36_22_s, ↓c36_21_s, ↓c36_20_s, ↓c36_5_s, ↓c36_4_s, ↓c36_26_s, ↓c36_25_s, ↓c36_24_s, ↓c36_23_s, ↓c36_3_s, ↓c36_2_s, ↓c36_1_s, ↓c36_s, ↓w3t_36, e0, e3, e5, e6, e8, e9, gt2, gm2, gf, hd2, d, d2, wl]
    refine rest3 _ _ ((own.length : Int) + 1) ((Fr.refl _ _).setB _ _ (.inl (by simp))) (get_setB_same _ _ _ lt2) (by rw [if_pos q2]) ?_ ?_ ?_ ?_ ?_ <;> simp (maxSteps:=4000000)(disch:=first|assumption|(simp only[dz];first|done|assumption|omega)|omega|apply_rules[Fr.refl,Fr.alloc,Fr.drew]|rfl) only [↓gsd,gs,gv,Nat.reduceAdd,Nat.reduceEqDiff, e0, e3, e5, e6, e8]
   ·have d2 : decide ((own.length : Int) < f.hi) = false := decide_eq_false q2
    simp (maxSteps:=4000000)(disch:=first|assumption|(simp only[dz];first|done|assumption|omega)|omega|apply_rules[Fr.refl,Fr.alloc,Fr.drew]|rfl) only [↓gd,gp,Nat.reduceAdd,Nat.reduceEqDiff, ↓c36_13_s, ↓c36_16_s, ↓c36_15_s, ↓c36_14_s, ↓c36_11_s, ↓c36_10_s, ↓c36_9_s, ↓c36_19_s, ↓c36_18_s, ↓c36_17_s, ↓c36_8_s, ↓c36_7_s, ↓c36_6_s, ↓c36_22_s, ↓c36_21_s, ↓c36_20_s, ↓c36_5_s, ↓c36_4_s, ↓c36_26_s, ↓c36_25_s, ↓c36_24_s, ↓c36_23_s, ↓c36_3_s, ↓c36_2_s, ↓c36_1_s, ↓c36_s, ↓w3t_36, e0, e3, e5, e6, e8, e9, gt2, gm2, gf, hd2, d, d2, wl]
    refine rest3 _ _ f.hi ((Fr.refl _ _).setB _ _ (.inl (by simp))) (get_setB_same _ _ _ lt2) (by rw [if_neg q2]) ?_ ?_ ?_ ?_ ?_ <;> simp (maxSteps:=4000000)(disch:=first|assumption|(simp only[dz];first|done|assumption|omega)|omega|apply_rules[Fr.refl,Fr.alloc,Fr.drew]|rfl) only [↓gsd,gs,gv,Nat.reduceAdd,Nat.reduceEqDiff, e0, e3, e5, e6, e8]
  ·have d : decide (er = 0) = false := decide_eq_false q
   rw [if_neg q] at hK
   simp (maxSteps:=4000000)(disch:=first|assumption|(simp only[dz];first|done|assumption|omega)|omega|apply_rules[Fr.refl,Fr.alloc,Fr.drew]|rfl) only [↓gd,gp,Nat.reduceAdd,Nat.reduceEqDiff, ↓hk36, e0, e3, e5, e6, e8, e9, gt2, gm2, d]
   exact hK _ _ (AnsRd.one (m := { toldM m with err := er }) (get_alloc_is (by simp only [gz])) ⟨rfl, rfl, rfl⟩ rfl) ((hF2.setB _ _ (.inr (by omega))).alloc _)
 -- behind the choice of the commit
 have rest : ∀ e : Env, e 0 = .pointer (some ⟨rb, 0, none⟩) → e 3 = .pointer (some ⟨mb, 0, none⟩) → e 5 = .pointer (some ⟨tb, 0, none⟩) → e 6 = .int .i64 own.length → e 7 = .int .i64 (min (m.phi - 1) own.length) →
   W3 Tryz.prog 92 V36 c36_6 (retQ Tryz.prog [ResultVar.tmp 4] K) e w1 := fun e e0 e3 e5 e6 e7 => by
  simp (maxSteps:=4000000)(disch:=first|assumption|(simp only[dz];first|done|assumption|omega)|omega|apply_rules[Fr.refl,Fr.alloc,Fr.drew]|rfl) only [↓gd,gp,Nat.reduceAdd,Nat.reduceEqDiff, ↓c36_13_s, ↓c36_12_s, ↓c36_16_s, ↓c36_15_s, ↓c36_14_s, ↓c36_11_s, ↓c36_10_s, ↓c36_9_s, ↓c36_19_s, ↓c36_18_s, ↓c36_17_s, ↓c36_8_s, ↓c36_6_s, ↓c36_22_s, ↓c36_21_s, ↓c36_20_s, ↓c36_5_s, ↓c36_4_s, ↓c36_26_s, ↓c36_25_s, ↓c36_24_s, ↓c36_23_s, ↓c36_3_s, ↓c36_2_s, ↓c36_1_s, ↓c36_s, ↓w3t_36, e0, e3, e5, e6, e7, gm]
  have hvs := h.vs
  refine ⟨?_, ?_⟩
  ·refine St.r5read (h.frN (Fr.drew hf1)).st (by omega) (by omega) (by omega) fun w2 hf2 => ?_
   have cw2 := cur w2
   have hf2' : Fr [] w1 w2 := (Fr.drew (Fr.refl [] w1)).trans' hf2
   obtain ⟨⟨f, er⟩, hfe⟩ : ∃ fe, fe = rrdF c own m := ⟨_, rfl⟩
   have hfe' : St.rread c.vers.toNat own m.key (min (m.phi - 1) own.length) = (f, er) := hfe.symm
   rw [hfe']
   unfold St.encFact
   simp (maxSteps:=4000000)(disch:=first|assumption|(simp only[dz];first|done|assumption|omega)|omega|apply_rules[Fr.refl,Fr.alloc,Fr.drew]|rfl) only [↓gd,gp,Nat.reduceAdd,Nat.reduceEqDiff, ↓c36_13_s, ↓c36_12_s, ↓c36_16_s, ↓c36_15_s, ↓c36_14_s, ↓c36_11_s, ↓c36_10_s, ↓c36_9_s, ↓c36_19_s, ↓c36_18_s, ↓c36_17_s, ↓c36_8_s, ↓c36_6_s, ↓c36_22_s, ↓c36_21_s, ↓c36_20_s, ↓c36_5_s, ↓c36_4_s, ↓c36_26_s, ↓c36_25_s, ↓c36_24_s, ↓c36_23_s, ↓c36_3_s, ↓c36_2_s, ↓c36_1_s, ↓c36_s, ↓w3t_36]
   refine rest2 _ _ w2.heap.size f er (by (repeat (first | exact Fr.refl _ _ | assumption | with_reducible apply Fr.alloc | with_reducible apply Fr.drew | with_reducible refine Fr.setB ?_ _ _ (.inr (by first | omega | (simp only [gz]; omega))) | with_reducible refine Fr.setB ?_ _ _ (.inl (by first | assumption | simp)) | with_reducible refine Fr.trans' ?_ (by assumption)))) (get_alloc_new _ _) (by have := hf1.size; have := hf2'.size; omega) hfe.symm ?_ ?_ ?_ ?_ ?_ ?_ <;> simp (maxSteps:=4000000)(disch:=first|assumption|(simp only[dz];first|done|assumption|omega)|omega|apply_rules[Fr.refl,Fr.alloc,Fr.drew]|rfl) only [↓gsd,gs,gv,Nat.reduceAdd,Nat.reduceEqDiff, e0, e3, e5, e6]
  ·refine St.r5read (h.frN ((Fr.drew hf1).alloc _)).st (by omega) (by omega) (by omega) fun w2 hf2 => ?_
   have cw2 := cur w2
   have hf2' : Fr [] w1 w2 := ((Fr.drew (Fr.refl [] w1)).alloc _).trans' hf2
   have g2 := hf2.getN (get_alloc_is (w := w1.drew) (o := .cells #[.string ⟨#[]⟩, .bool false, .string ⟨#[]⟩, .int .i64 0, .int .i64 0] 57) (b := w1.heap.size) (by simp only [gz]))
   obtain ⟨⟨f, er⟩, hfe⟩ : ∃ fe, fe = rrdF c own m := ⟨_, rfl⟩
   have hfe' : St.rread c.vers.toNat own m.key (min (m.phi - 1) own.length) = (f, er) := hfe.symm
   have l2 := lt_of_get _ _ g2
   rw [hfe']
   unfold St.encFact
   simp (maxSteps:=4000000)(disch:=first|assumption|(simp only[dz];first|done|assumption|omega)|omega|apply_rules[Fr.refl,Fr.alloc,Fr.drew]|rfl) only [↓gd,gp,Nat.reduceAdd,Nat.reduceEqDiff, ↓c36_13_s, ↓c36_12_s, ↓c36_16_s, ↓c36_15_s, ↓c36_14_s, ↓c36_11_s, ↓c36_10_s, ↓c36_9_s, ↓c36_19_s, ↓c36_18_s, ↓c36_17_s, ↓c36_8_s, ↓c36_6_s, ↓c36_22_s, ↓c36_21_s, ↓c36_20_s, ↓c36_5_s, ↓c36_4_s, ↓c36_26_s, ↓c36_25_s, ↓c36_24_s, ↓c36_23_s, ↓c36_3_s, ↓c36_2_s, ↓c36_1_s, ↓c36_s, ↓w3t_36, g2]
   refine rest2 _ _ w1.heap.size f er ((hf2'.setB _ _ (.inr (Nat.le_refl _)))) (get_setB_same _ _ _ l2) (by have := hf1.size; omega) hfe.symm ?_ ?_ ?_ ?_ ?_ ?_ <;> simp (maxSteps:=4000000)(disch:=first|assumption|(simp only[dz];first|done|assumption|omega)|omega|apply_rules[Fr.refl,Fr.alloc,Fr.drew]|rfl) only [↓gsd,gs,gv,Nat.reduceAdd,Nat.reduceEqDiff, e0, e3, e5, e6]
 by_cases c2 : (own.length : Int) < m.phi - 1
 ·have d2 : decide ((own.length : Int) < m.phi - 1) = true := decide_eq_true c2
  have hmin : min (m.phi - 1) (own.length : Int) = own.length := by omega
  rw [hmin] at rest
  simp (maxSteps:=4000000)(disch:=first|assumption|(simp only[dz];first|done|assumption|omega)|omega|apply_rules[Fr.refl,Fr.alloc,Fr.drew]|rfl) only [↓gd,gp,Nat.reduceAdd,Nat.reduceEqDiff, ↓c36_13_s, ↓c36_12_s, ↓c36_16_s, ↓c36_15_s, ↓c36_14_s, ↓c36_11_s, ↓c36_10_s, ↓c36_9_s, ↓c36_19_s, ↓c36_18_s, ↓c36_17_s, ↓c36_8_s, ↓c36_7_s, ↓c36_22_s, ↓c36_21_s, ↓c36_20_s, ↓c36_5_s, ↓c36_4_s, ↓c36_26_s, ↓c36_25_s, ↓c36_24_s, ↓c36_23_s, ↓c36_3_s, ↓c36_2_s, ↓c36_1_s, ↓c36_s, ↓w3t_36, hd1, gm, gt', d1, wr1, d2]
  exact rest _ rfl rfl rfl rfl rfl
 ·have d2 : decide ((own.length : Int) < m.phi - 1) = false := decide_eq_false c2
  have hmin : min (m.phi - 1) (own.length : Int) = m.phi - 1 := by omega
  rw [hmin] at rest
  simp (maxSteps:=4000000)(disch:=first|assumption|(simp only[dz];first|done|assumption|omega)|omega|apply_rules[Fr.refl,Fr.alloc,Fr.drew]|rfl) only [↓gd,gp,Nat.reduceAdd,Nat.reduceEqDiff, ↓c36_13_s, ↓c36_12_s, ↓c36_16_s, ↓c36_15_s, ↓c36_14_s, ↓c36_11_s, ↓c36_10_s, ↓c36_9_s, ↓c36_19_s, ↓c36_18_s, ↓c36_17_s, ↓c36_8_s, ↓c36_7_s, ↓c36_22_s, ↓c36_21_s, ↓c36_20_s, ↓c36_5_s, ↓c36_4_s, ↓c36_26_s, ↓c36_25_s, ↓c36_24_s, ↓c36_23_s, ↓c36_3_s, ↓c36_2_s, ↓c36_1_s, ↓c36_s, ↓w3t_36, hd1, gm, gt', d1, wr1, d2]
  exact rest _ rfl rfl rfl rfl rfl
end Go.Proofs.YtgloomahpjpiiaaGreat.Or
namespace Go.Proofs.YtgloomahpjpiiaaGreat.Or
open Go.VW
theorem chkM_cmt {m : Msg} {ws : List St.Wr} {ks : List ByteArray} (h : chkM m ws ks = 0) : 0 ≤ m.ses ∧ m.ses < 64 ∧ (m.kind ≤ 6 → 1 ≤ m.seq ∧ m.seq ≤ 2147483647) := by
 obtain ⟨_, _, h3, _⟩ := chkM_ok h
 simp only [numsB, Bool.and_eq_true, btw_iff, tailB] at h3
 obtain ⟨_, h4, _, _, _, h8, _⟩ := h3
 refine ⟨h4.1, by omega, fun hk => ?_⟩
 rw [decide_eq_true hk] at h8
 simpa [btw_iff] using h8
def rh (c : Cfg) (own : List (List St.Wr)) (Q : List Req) (m : Msg) (ws : List St.Wr) (ks : List ByteArray) : List Ans × List (List St.Wr) × List Req :=
 if chkM m ws ks = 0 then
  if m.kind = 1 then rcm c own Q m ws else if m.kind = 5 then (rrd c own m, own, Q)
  else if m.kind = 9 then (if c.nodes ≤ m.node then [] else (Sm.fromL (own.map keysW) m.n 16).map (recA m.node), own, Q)
  else if m.kind = 10 then (if m.node < c.nodes then [⟨{ msg0 with kind := 11, node := m.node, inc := m.inc, n := own.length }, []⟩] else [], own, Q) else ([], own, Q)
 else ([], own, Q)
set_option maxHeartbeats 64000000 in
theorem r15handle {w : World} {rb : Nat} {c : Cfg} {v vl : Value} {own : List (List St.Wr)} {Q : List Req} {Rd : List Nat} {m : Msg} {ws : List St.Wr} {ks : List ByteArray} {K : Value → World → Prop} (h : R15 w rb c v vl own Q Rd) (hm : MsgAt w m ws ks)
  (hoff : ws ≠ [] → ∀ x ∈ rb :: (blkL v ++ blkL vl), offV m.wv x) (hn : 1 ≤ c.nodes ∧ c.nodes ≤ 8) (hown : own.length ≤ 137438953472) (hchk : ∀ ws ∈ own, St.chk ws = 0)
  (hK : ∀ (vo v' vl' : Value) (Rd' : List Nat) (w' : World), R15 w' rb c v' vl' (rh c own Q m ws ks).2.1 (rh c own Q m ws ks).2.2 Rd' → AnsRd w' vo (rh c own Q m ws ks).1 → Fr (rb :: (blkL v ++ blkL vl)) w w' → (∀ x ∈ rbs rb v' vl' Rd', x ∈ rbs rb v vl Rd ∨ w.heap.size ≤ x) → K vo w') :
  CallsN Tryz.prog 11 [.pointer (some ⟨rb, 0, none⟩), .agg (encMsg m).toArray] w K := by
 have cw := cur w
 refine call11 ?_
 have hme : (encMsg m).toArray = #[.int .i64 m.kind, .int .i64 m.node, .int .i64 m.inc, .int .i64 m.ses, .int .i64 m.tx, .int .i64 m.seq, .string m.key, .int .i64 m.plo, .int .i64 m.phi, .bool m.vh, .string m.vd, .bool m.hit, .int .i64 m.err, .int .i64 m.n, .slice m.wa m.wl m.wc, .slice m.ka m.kl m.kc] := rfl
 rw [hme]
 simp (maxSteps:=4000000)(disch:=first|assumption|(simp only[dz];first|done|assumption|omega)|omega|apply_rules[Fr.refl,Fr.alloc,Fr.drew]|rfl) only [↓gd,gp,Nat.reduceAdd,Nat.reduceEqDiff, ↓hk11]
 generalize hW : World.alloc w _ = w1
 have hf1 : Fr [] w w1 := by rw [← hW]; (repeat (first | exact Fr.refl _ _ | assumption | with_reducible apply Fr.alloc | with_reducible apply Fr.drew | with_reducible refine Fr.setB ?_ _ _ (.inr (by first | omega | (simp only [gz]; omega))) | with_reducible refine Fr.setB ?_ _ _ (.inl (by first | assumption | simp)) | with_reducible refine Fr.trans' ?_ (by assumption)))
 have hz1 : w1.heap.size = w.heap.size + 1 := by rw [← hW]; simp only [gz]
 obtain ⟨mb, hmb⟩ : ∃ mb, mb = w.heap.size := ⟨_, rfl⟩
 rw [← hmb]
 have gm : w1.heap[mb]? = some (.cells (encMsg m).toArray 40 (0, 0)) := by rw [← hW, hmb, hme]; exact get_alloc_new _ _
 clear hW
 have cw1 := cur w1
 rw [← hme]
 refine r13check (hm.frN hf1) fun w2 hf2 => ?_
 have cw2 := cur w2
 have hz2 := hf2.size
 have hF2 := hf1.trans' hf2
 have h2 := h.frN hF2
 have hm2 := hm.frN hF2
 have gm2 := hf2.getN gm
 rw [hme] at gm2
 have hd2 := h2.hd
 unfold rh at hK
 have same : ∀ {vo : Value} {w' : World} {l : List Ans}, Fr [] w2 w' → AnsRd w' vo l → (∀ (vo v' vl' : Value) (Rd' : List Nat) (w' : World), R15 w' rb c v' vl' own Q Rd' → AnsRd w' vo l → Fr (rb :: (blkL v ++ blkL vl)) w w' → (∀ x ∈ rbs rb v' vl' Rd', x ∈ rbs rb v vl Rd ∨ w.heap.size ≤ x) → K vo w') → K vo w' := fun hf hA hK' =>
  hK' _ v vl Rd _ (h2.frN hf) hA ((hF2.trans' hf).mono (by simp)) (fun x hx => .inl hx)
 by_cases q : chkM m ws ks = 0
 ·have d : decide (chkM m ws ks = 0) = true := decide_eq_true q
  rw [if_pos q] at hK
  obtain ⟨hkd, hzb, _, hth⟩ := chkM_ok q
  obtain ⟨hs0, hs1, hsq⟩ := chkM_cmt q
  by_cases k1 : m.kind = 1
  ·rw [if_pos k1] at hK
   have dk : decide (m.kind = 1) = true := decide_eq_true k1
   have hne : ws ≠ [] := fun e => by
    have hb : thingsB m ws ks = (btw m.wl 1 8 && !ws.any badW) := by unfold thingsB; rw [if_pos k1]
    have hl := hm.wlen
    rw [e] at hl
    have hz : m.wl = 0 := hl
    rw [hb, hz] at hth
    simp [btw] at hth
   simp (maxSteps:=4000000)(disch:=first|assumption|(simp only[dz];first|done|assumption|omega)|omega|apply_rules[Fr.refl,Fr.alloc,Fr.drew]|rfl) only [↓gd,gp,Nat.reduceAdd,Nat.reduceEqDiff, ↓hk11, gm2, d, dk]
   rw [← hme]
   refine r15commit_spec h2 hm2 (hoff hne) ⟨hs0, hs1⟩ hn hown hchk fun vo v' vl' Rd' w' q1 q2 q3 q4 => ?_
   exact hK vo v' vl' Rd' w' q1 q2 ((hF2.mono (by simp)).trans q3 (fun x hx => .inl hx)) (fun x hx => (q4 x hx).imp id (fun r => by omega))
  ·rw [if_neg k1] at hK
   have dk : decide (m.kind = 1) = false := decide_eq_false k1
   by_cases k5 : m.kind = 5
   ·rw [if_pos k5] at hK
    have dk5 : decide (m.kind = 5) = true := decide_eq_true k5
    obtain ⟨r1, r2, r3, r4⟩ := chkM_read q k5
    simp (maxSteps:=4000000)(disch:=first|assumption|(simp only[dz];first|done|assumption|omega)|omega|apply_rules[Fr.refl,Fr.alloc,Fr.drew]|rfl) only [↓gd,gp,Nat.reduceAdd,Nat.reduceEqDiff, ↓hk11, gm2, d, dk, dk5]
    rw [← hme]
    refine r15read_spec h2 (by omega) (by omega) hown hchk fun vo w' q1 q2 => ?_
    exact same q2 q1 hK
   ·rw [if_neg k5] at hK
    have dk5 : decide (m.kind = 5) = false := decide_eq_false k5
    by_cases k9 : m.kind = 9
    ·rw [if_pos k9] at hK
     have dk9 : decide (m.kind = 9) = true := decide_eq_true k9
     simp (maxSteps:=4000000)(disch:=first|assumption|(simp only[dz];first|done|assumption|omega)|omega|apply_rules[Fr.refl,Fr.alloc,Fr.drew]|rfl) only [↓gd,gp,Nat.reduceAdd,Nat.reduceEqDiff, ↓hk11, gm2, d, dk, dk5, dk9]
     have hfd : Fr [] w2 w2.drew := Fr.drew (Fr.refl _ _)
     generalize World.drew w2 = w2d at *
     have cw2d := cur w2d
     have h2d := h2.frN hfd
     refine Sm.rfrom_log (X := preL c v c.vers own.length Q) (L := own.map keysW) h2d.log h2d.lg (by simp; omega) fun vr w3 hr hf3 => ?_
     have cw3 := cur w3
     have hF3 := hfd.trans' hf3
     have gm3 := hF3.getN gm2
     have hd3 := hF3.getN hd2
     obtain ⟨xs, hxs⟩ : ∃ xs, xs = Sm.fromL (own.map keysW) m.n 16 := ⟨_, rfl⟩
     have hxl : xs.length ≤ 16 := by rw [hxs, Sm.fromL, List.length_take]; omega
     rw [← hxs] at hr hK
     obtain ⟨va, vc, hv⟩ := hr.form
     simp (maxSteps:=4000000)(disch:=first|assumption|(simp only[dz];first|done|assumption|omega)|omega|apply_rules[Fr.refl,Fr.alloc,Fr.drew]|rfl) only [↓gd,gp,Nat.reduceAdd,Nat.reduceEqDiff, ↓hk11]
     refine for_intro xs.length 7 0 (fun i e w' => e 0 = .pointer (some ⟨rb, 0, none⟩) ∧ e 3 = .pointer (some ⟨mb, 0, none⟩) ∧ e 6 = vr ∧ (c.nodes ≤ m.node → i = 0) ∧ AnsAt w' (fun _ => True) (fun b => w3.heap.size ≤ b) (e 5) ((xs.take i).map (recA m.node)) ∧ Fr [] w3 w') ?_ (Nat.zero_le _) ?_ ?_
     ·simp (maxSteps:=4000000)(disch:=first|assumption|(simp only[dz];first|done|assumption|omega)|omega|apply_rules[Fr.refl,Fr.alloc,Fr.drew]|rfl) only [↓gsd,gs,gv,Nat.reduceAdd,Nat.reduceEqDiff]; rfl
     ·simp (maxSteps:=4000000)(disch:=first|assumption|(simp only[dz];first|done|assumption|omega)|omega|apply_rules[Fr.refl,Fr.alloc,Fr.drew]|rfl) only [↓gsd,gs,gv,Nat.reduceAdd,Nat.reduceEqDiff]
      exact ⟨fun _ => trivial, AnsAt.nil, Fr.refl _ _⟩
     rintro i e w4 kk hi e7 ⟨e0, e3, e6, hz, ha, hf⟩ hk
     have cw4 := cur w4
     have hz4 := hf.size
     have gm4 := hf.getN gm3
     have hd4 := hf.getN hd3
     by_cases hil : i < xs.length
     ·have dl : decide ((i : Int) < (xs.length : Int)) = true := decide_eq_true (by omega)
      by_cases kn : m.node < c.nodes
      ·have dn : decide (m.node < c.nodes) = true := decide_eq_true kn
       have i0 : (0 : Int) ≤ (i : Int) := by omega
       have i1 : (i : Int) < (xs.length : Int) := by omega
       have wr : IntKind.i64.wrap ((i : Int) + 1) = (i : Int) + 1 := wrap64 (by omega) (by omega)
       obtain ⟨⟨rs, ho, hrl, hrc⟩, hrb⟩ := hr.frN hf
       obtain ⟨r, hri⟩ : ∃ r, rs[i]? = some r := ⟨rs[i]'(by omega), List.getElem?_eq_getElem (by omega)⟩
       obtain ⟨x, hxi⟩ : ∃ x, xs[i]? = some x := ⟨xs[i]'hil, List.getElem?_eq_getElem hil⟩
       obtain ⟨bb, off, cap, ob, hv1, hob, _, hrow, hcell⟩ := SlOf.read (enc := Sm.encRc) ho.sl Sm.encRc_len i r hri
       obtain ⟨q1, q2, q3⟩ := hrc i r x hri hxi
       rw [hrl] at hv1
       have rc0 := fun orig K => hcell 0 (.int .i64 r.n) orig K rfl
       have rc1 := fun orig K => hcell 1 (.slice r.a r.l r.c) orig K rfl
       simp only [Nat.add_zero] at rc0
       obtain ⟨oa, oc, hvo⟩ := ha.form
       rw [List.length_map, List.length_take, Nat.min_eq_left hi] at hvo
       obtain ⟨vo, e5⟩ : ∃ vo, vo = e 5 := ⟨_, rfl⟩
       rw [← e5] at ha hvo
       simp (maxSteps:=4000000)(disch:=first|assumption|(simp only[dz];first|done|assumption|omega)|omega|apply_rules[Fr.refl,Fr.alloc,Fr.drew]|rfl) only [↓gd,gp,Nat.reduceAdd,Nat.reduceEqDiff, ↓hk11, e0, e3, e6, e7, ← e5, hv1, hvo, dl, dn, gm4, hd4, i0, i1, Int.toNat_natCast, hob, rc0, rc1]
       generalize hW : World.alloc _ _ = w5
       have hf5 : Fr [] w4 w5 := by rw [← hW]; (repeat (first | exact Fr.refl _ _ | assumption | with_reducible apply Fr.alloc | with_reducible apply Fr.drew | with_reducible refine Fr.setB ?_ _ _ (.inr (by first | omega | (simp only [gz]; omega))) | with_reducible refine Fr.setB ?_ _ _ (.inl (by first | assumption | simp)) | with_reducible refine Fr.trans' ?_ (by assumption)))
       have hz5 : w5.heap.size = w4.heap.size + 1 := by rw [← hW]; simp only [gz]
       have g5 : w5.heap[w4.heap.size]? = some (.cells (encMsg { msg0 with kind := 8, node := m.node, n := x.1, ka := r.a, kl := r.l, kc := r.c }).toArray 40 (0, 0)) := by
        rw [← hW, ← q1]; exact get_alloc_is (by simp only [gz])
       clear hW
       have cw5 := cur w5
       have hsl : Sl 16 w5 (.slice (some ⟨w4.heap.size, 0, none⟩) 1 1) 1 (encMsg { msg0 with kind := 8, node := m.node, n := x.1, ka := r.a, kl := r.l, kc := r.c }) := ⟨rfl, .inr ⟨w4.heap.size, 0, 1, _, 40, (0, 0), rfl, g5, rfl⟩⟩
       rw [hvo] at ha
       have his : ((xs.take i).map (recA m.node)).length ≤ 1000000 := by rw [List.length_map, List.length_take]; omega
       obtain ⟨v6, w6, hr6, ha6, hf6⟩ := AnsAt.app1 (a := recA m.node x) (ha.frN hf5) hsl ⟨rfl, q2.frN hf5, fun b hb => trivial⟩ (by omega) (fun b hb => by omega)
       have cw6 := cur w6
       have hF6 : Fr [] w3 w6 := Sm.fresh_app ha.blk hf6 (hf.trans' hf5)
       simp (maxSteps:=4000000)(disch:=first|assumption|(simp only[dz];first|done|assumption|omega)|omega|apply_rules[Fr.refl,Fr.alloc,Fr.drew]|rfl) only [↓gd,gp,Nat.reduceAdd,Nat.reduceEqDiff, ↓hk11, e0, e3, e6, e7, ← e5, hr6, wr]
       refine hk _ _ hil rfl ?_
       simp (maxSteps:=4000000)(disch:=first|assumption|(simp only[dz];first|done|assumption|omega)|omega|apply_rules[Fr.refl,Fr.alloc,Fr.drew]|rfl) only [↓gsd,gs,gv,Nat.reduceAdd,Nat.reduceEqDiff, e0, e3, e6, ← hv1, ← hv]
       refine ⟨fun q => absurd q (by omega), ?_, hF6⟩
       rw [List.take_add_one, hxi, List.map_append]
       exact ha6
      ·have dn : decide (m.node < c.nodes) = false := decide_eq_false kn
       have := hz (by omega)
       subst this
       rw [if_pos (show c.nodes ≤ m.node by omega)] at hK
       simp (maxSteps:=4000000)(disch:=first|assumption|(simp only[dz];first|done|assumption|omega)|omega|apply_rules[Fr.refl,Fr.alloc,Fr.drew]|rfl) only [↓gd,gp,Nat.reduceAdd,Nat.reduceEqDiff, ↓hk11, e0, e3, e6, e7, hv, dl, dn, gm4, hd4]
       exact same (by first | exact hF3.trans' hf | exact Fr.drew (hF3.trans' hf)) ((ha.rd (fun a ha => by simp at ha)).frN (by (repeat (first | exact Fr.refl _ _ | assumption | with_reducible apply Fr.alloc | with_reducible apply Fr.drew | with_reducible refine Fr.setB ?_ _ _ (.inr (by first | omega | (simp only [gz]; omega))) | with_reducible refine Fr.setB ?_ _ _ (.inl (by first | assumption | simp)) | with_reducible refine Fr.trans' ?_ (by assumption))))) hK
     ·have dl : decide ((i : Int) < (xs.length : Int)) = false := decide_eq_false (by omega)
      rw [List.take_of_length_le (by omega)] at ha
      simp (maxSteps:=4000000)(disch:=first|assumption|(simp only[dz];first|done|assumption|omega)|omega|apply_rules[Fr.refl,Fr.alloc,Fr.drew]|rfl) only [↓gd,gp,Nat.reduceAdd,Nat.reduceEqDiff, ↓hk11, e0, e3, e6, e7, hv, dl, gm4, hd4]
      have hres : (if c.nodes ≤ m.node then [] else xs.map (recA m.node)) = xs.map (recA m.node) := by
       by_cases kn : c.nodes ≤ m.node
       ·have h0 := hz kn
        have : xs = [] := List.length_eq_zero_iff.1 (by omega)
        rw [if_pos kn, this]; rfl
       ·rw [if_neg kn]
      rw [hres] at hK
      exact same (by first | exact hF3.trans' hf | exact Fr.drew (hF3.trans' hf)) ((ha.rd (fun a ha => by
       obtain ⟨y, _, rfl⟩ := List.mem_map.1 ha
       rfl)).frN (by (repeat (first | exact Fr.refl _ _ | assumption | with_reducible apply Fr.alloc | with_reducible apply Fr.drew | with_reducible refine Fr.setB ?_ _ _ (.inr (by first | omega | (simp only [gz]; omega))) | with_reducible refine Fr.setB ?_ _ _ (.inl (by first | assumption | simp)) | with_reducible refine Fr.trans' ?_ (by assumption))))) hK
    ·rw [if_neg k9] at hK
     have dk9 : decide (m.kind = 9) = false := decide_eq_false k9
     by_cases k10 : m.kind = 10
     ·rw [if_pos k10] at hK
      have dk10 : decide (m.kind = 10) = true := decide_eq_true k10
      by_cases kn : m.node < c.nodes
      ·rw [if_pos kn] at hK
       have dn : decide (m.node < c.nodes) = true := decide_eq_true kn
       simp (maxSteps:=4000000)(disch:=first|assumption|(simp only[dz];first|done|assumption|omega)|omega|apply_rules[Fr.refl,Fr.alloc,Fr.drew]|rfl) only [↓gd,gp,Nat.reduceAdd,Nat.reduceEqDiff, ↓hk11, gm2, hd2, d, dk, dk5, dk9, dk10, dn]
       generalize hW : World.alloc _ _ = w3
       have hf3 : Fr [] w2 w3 := by rw [← hW]; (repeat (first | exact Fr.refl _ _ | assumption | with_reducible apply Fr.alloc | with_reducible apply Fr.drew | with_reducible refine Fr.setB ?_ _ _ (.inr (by first | omega | (simp only [gz]; omega))) | with_reducible refine Fr.setB ?_ _ _ (.inl (by first | assumption | simp)) | with_reducible refine Fr.trans' ?_ (by assumption)))
       have g3 : w3.heap[w2.heap.size]? = some (.cells (encMsg { msg0 with kind := 11, node := m.node, inc := m.inc, n := own.length }).toArray 40 (0, 0)) := by rw [← hW]; exact get_alloc_is (by simp only [gz])
       clear hW
       have cw3 := cur w3
       have hsl : Sl 16 w3 (.slice (some ⟨w2.heap.size, 0, none⟩) 1 1) 1 (encMsg { msg0 with kind := 11, node := m.node, inc := m.inc, n := own.length }) := ⟨rfl, .inr ⟨w2.heap.size, 0, 1, _, 40, (0, 0), rfl, g3, rfl⟩⟩
       obtain ⟨v6, w6, hr6, ha6, hf6⟩ := AnsAt.app1 (R := fun _ => True) (R' := fun _ => True) (a := ⟨{ msg0 with kind := 11, node := m.node, inc := m.inc, n := own.length }, []⟩) AnsAt.nil hsl (AnsIs.plain ⟨rfl, rfl, rfl⟩) (by decide) (fun b hb => trivial)
       have hf6' : Fr [] w3 w6 := hf6.mono (by simp [blkL, Value.ownBlock])
       simp (maxSteps:=4000000)(disch:=first|assumption|(simp only[dz];first|done|assumption|omega)|omega|apply_rules[Fr.refl,Fr.alloc,Fr.drew]|rfl) only [↓gd,gp,Nat.reduceAdd,Nat.reduceEqDiff, ↓hk11, hr6]
       exact same (hf3.trans' hf6') (ha6.rd (fun a ha => by simp at ha; subst ha; rfl)) hK
      ·rw [if_neg kn] at hK
       have dn : decide (m.node < c.nodes) = false := decide_eq_false kn
       simp (maxSteps:=4000000)(disch:=first|assumption|(simp only[dz];first|done|assumption|omega)|omega|apply_rules[Fr.refl,Fr.alloc,Fr.drew]|rfl) only [↓gd,gp,Nat.reduceAdd,Nat.reduceEqDiff, ↓hk11, gm2, hd2, d, dk, dk5, dk9, dk10, dn]
       exact same (by (repeat (first | exact Fr.refl _ _ | assumption | with_reducible apply Fr.alloc | with_reducible apply Fr.drew | with_reducible refine Fr.setB ?_ _ _ (.inr (by first | omega | (simp only [gz]; omega))) | with_reducible refine Fr.setB ?_ _ _ (.inl (by first | assumption | simp)) | with_reducible refine Fr.trans' ?_ (by assumption)))) AnsRd.nil hK
     ·rw [if_neg k10] at hK
      have dk10 : decide (m.kind = 10) = false := decide_eq_false k10
      simp (maxSteps:=4000000)(disch:=first|assumption|(simp only[dz];first|done|assumption|omega)|omega|apply_rules[Fr.refl,Fr.alloc,Fr.drew]|rfl) only [↓gd,gp,Nat.reduceAdd,Nat.reduceEqDiff, ↓hk11, gm2, d, dk, dk5, dk9, dk10]
      exact same (by (repeat (first | exact Fr.refl _ _ | assumption | with_reducible apply Fr.alloc | with_reducible apply Fr.drew | with_reducible refine Fr.setB ?_ _ _ (.inr (by first | omega | (simp only [gz]; omega))) | with_reducible refine Fr.setB ?_ _ _ (.inl (by first | assumption | simp)) | with_reducible refine Fr.trans' ?_ (by assumption)))) AnsRd.nil hK
 ·have d : decide (chkM m ws ks = 0) = false := decide_eq_false q
  rw [if_neg q] at hK
  simp (maxSteps:=4000000)(disch:=first|assumption|(simp only[dz];first|done|assumption|omega)|omega|apply_rules[Fr.refl,Fr.alloc,Fr.drew]|rfl) only [↓gd,gp,Nat.reduceAdd,Nat.reduceEqDiff, ↓hk11, gm2, d]
  exact same (by (repeat (first | exact Fr.refl _ _ | assumption | with_reducible apply Fr.alloc | with_reducible apply Fr.drew | with_reducible refine Fr.setB ?_ _ _ (.inr (by first | omega | (simp only [gz]; omega))) | with_reducible refine Fr.setB ?_ _ _ (.inl (by first | assumption | simp)) | with_reducible refine Fr.trans' ?_ (by assumption)))) AnsRd.nil hK
end Go.Proofs.YtgloomahpjpiiaaGreat.Or
