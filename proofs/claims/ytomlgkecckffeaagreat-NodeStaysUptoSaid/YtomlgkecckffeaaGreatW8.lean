/- A node: a fact is laid down. -/
import Derived.Test.YtomlgkecckffeaaGreatW7
set_option linter.unusedVariables false
set_option linter.unusedSimpArgs false
set_option maxRecDepth 10000
namespace Go.Proofs.YtomlgkecckffeaaGreat
open Go.VW
theorem costN_le {e : Ent} (h : goodE e = true) : costN e ≤ 320 := by
 obtain ⟨a, b, _⟩ := goodE_facts h; unfold costN; omega
theorem TOK.putN {T : Tab} {B : Nat} (h : TOK T B) (hB : B ≤ 100000000) {e : Ent} (hy : T.at e.key e.lo = none) : TOK (T.putR e) (B + 320) := by
 cases hg : goodE e with
 | true => exact ((h.put_new (by omega) hg hy).1).mono (by have := costN_le hg; omega)
 | false =>
   have : T.putR e = T := by unfold Tab.putR; rw [if_neg (by rw [hg]; simp)]
   rw [this]; exact h.mono (by omega)
set_option maxHeartbeats 32000000 in
theorem lay_spec {w : World} {a : Lay} {c : Cfg} {inc : Int} {M : Mem} {f : Ent} {B : Nat} {K : Value → World → Prop} (h : NodeAt w a c inc M) (hT : TOK M.T B) (hB : B ≤ 100000000)
  (hK : ∀ w' S', NodeAt w' { a with S := S' } c inc (M.lay c f).1 → (∀ x ∈ S', x ∈ a.S ∨ w.heap.size ≤ x) → Fr a.all w w' → K (.bool (M.lay c f).2) w') :
  CallsN Tryz.prog 49 [.pointer (some ⟨a.nb, 0, none⟩), .agg (encFct f).toArray] w K := by
 have cw := cur w
 refine call49 ?_
 unfold encFct
 simp (maxSteps:=9^7)(disch:=first|assumption|(simp only[dz];first|done|assumption|omega)|omega|apply_rules[Fr.refl,Fr.alloc,Fr.drew]|rfl) only [↓gd,gp,Nat.reduceAdd,Nat.reduceEqDiff, ↓c49_8_s, ↓c49_7_s, ↓c49_6_s, ↓c49_5_s, ↓c49_4_s, ↓c49_3_s, ↓c49_11_s, ↓c49_10_s, ↓c49_9_s, ↓c49_2_s, ↓c49_17_s, ↓c49_21_s, ↓c49_20_s, ↓c49_19_s, ↓c49_18_s, ↓c49_16_s, ↓c49_15_s, ↓c49_14_s, ↓c49_13_s, ↓c49_12_s, ↓c49_s, ↓w3t_49]
 generalize hW : World.alloc (World.alloc w _) _ = w1
 have hf1 : Fr [] w w1 := by rw [← hW]; exact fr_
 have hz1 : w1.heap.size = w.heap.size + 1 + 1 := by rw [← hW]; simp only [gz]
 have g2 : w1.heap[w.heap.size]? = some (.cells ([.pointer (some ⟨a.nb, 0, none⟩)] : List Value).toArray 26 (0, 0)) := by rw [← hW]; simp (maxSteps:=9^7)(disch:=first|assumption|(simp only[dz];first|done|assumption|omega)|omega|apply_rules[Fr.refl,Fr.alloc,Fr.drew]|rfl) only [↓gsd,gs,gv,Nat.reduceAdd,Nat.reduceEqDiff] <;> rfl
 have g3 : w1.heap[w.heap.size + 1]? = some (.cells (encFct f).toArray 34 (0, 0)) := by rw [← hW]; simp (maxSteps:=9^7)(disch:=first|assumption|(simp only[dz];first|done|assumption|omega)|omega|apply_rules[Fr.refl,Fr.alloc,Fr.drew]|rfl) only [↓gsd,gs,gv,Nat.reduceAdd,Nat.reduceEqDiff] <;> rfl
 clear hW
 have cw1 := cur w1
 have h1 := h.frN hf1
 have hd1 := h1.hd
 have hm1 := h1.mm
 have l2 := lt_of_get _ _ g2
 have l3 := lt_of_get _ _ g3
 have a2 := h.away (Nat.le_refl w.heap.size)
 have a3 := h.away (show w.heap.size ≤ w.heap.size + 1 by omega)
 have g3u := g3
 unfold encFct at g3u
 have fin4 : ∀ (e' : Env) (w' : World), NodeAt w' a c inc { M with stamps := wr1 M.stamps, ins := wr1 M.ins } → Fr a.all w w' → w1.heap.size ≤ w'.heap.size → e' 2 = .pointer (some ⟨w.heap.size, 0, none⟩) → e' 3 = .pointer (some ⟨w.heap.size + 1, 0, none⟩) →
   w'.heap[w.heap.size]? = some (.cells ([.pointer (some ⟨a.nb, 0, none⟩)] : List Value).toArray 26 (0, 0)) → w'.heap[w.heap.size + 1]? = some (.cells (encFct f).toArray 34 (0, 0)) → getE (M.T.row f.key) f.lo = none → ¬ c.bytes < costE f →
   (∃ b9, e' 9 = .pointer (some ⟨b9, 0, none⟩) ∧ w'.heap[b9]? = some (.cells (encEnt { f with hot := false, stamp := wr1 M.stamps, ins := wr1 M.ins }).toArray 52 (0, 0)) ∧ w.heap.size ≤ b9) →
   W3 Tryz.prog 112 V49 c49_5 (retQ Tryz.prog [.tmp 4] K) e' w' := by
  intro e' w' hN hF hz' e2 e3 q2 q3 hget hcost ⟨b9, e9, q9, hb9⟩
  have cw' := cur w'
  have hd' := hN.hd
  have hm' := hN.mm
  simp only at hm'
  have a9 := h.away hb9
  unfold Mem.lay at hK
  rw [hget] at hK
  simp only at hK
  rw [if_neg hcost] at hK
  generalize hE : ({ f with hot := false, stamp := wr1 M.stamps, ins := wr1 M.ins } : Ent) = E at hK q9
  have hEk : E.key = f.key := by rw [← hE]
  have hEl : E.lo = f.lo := by rw [← hE]
  have hat : M.T.at E.key E.lo = none := by rw [hEk, hEl]; exact hget
  have hEi : E.ins = wr1 M.ins := by rw [← hE]
  have q9u := q9
  unfold encEnt at q9u
  simp (maxSteps:=9^7)(disch:=first|assumption|(simp only[dz];first|done|assumption|omega)|omega|apply_rules[Fr.refl,Fr.alloc,Fr.drew]|rfl) only [↓gd,gp,Nat.reduceAdd,Nat.reduceEqDiff, ↓hk49, e2, e3, e9, q2, q9u, hd', hm']
  have hNd := hN.frN (w' := w'.drew) fr_
  refine put_spec (e := E) hNd.tab hT.wf (by omega) fun w2 S2 ht2 hs2 hn2 hf2 => ?_
  have cw2 := cur w2
  have hz2 := hf2.size
  rw [size_drew] at hz2
  have h2 : NodeAt w2 { a with S := S2 } c inc { M with T := M.T.putR E, stamps := wr1 M.stamps, ins := wr1 M.ins } := hNd.tabS ht2 hn2 hf2
  have hn2' : ∀ x ∈ S2, x ∈ a.S ∨ w'.heap.size ≤ x := fun x hx => (hn2 x hx).imp id fun q => by rw [size_drew] at q; exact q
  have hF2 : Fr a.all w w2 := (hF.trans' (fr_ : Fr [] w' w'.drew)).trans hf2 fun x hx => .inl (sub_all.1 x hx)
  have q2' := hf2.get (w := w2) (show w'.drew.heap[w.heap.size]? = _ from q2) (fun q => a2.1 (sub_all.1 _ q))
  have q3' := hf2.get (w := w2) (show w'.drew.heap[w.heap.size + 1]? = _ from q3) (fun q => a3.1 (sub_all.1 _ q))
  have q9' := hf2.get (w := w2) (show w'.drew.heap[b9]? = _ from q9) (fun q => a9.1 (sub_all.1 _ q))
  have lb9 := lt_of_get _ _ q9
  have off : ∀ y, y < w'.heap.size → Away y a M.g.ws → y ∉ S2 := fun y hy ha hm => by
   rcases hn2' y hm with q | q
   ·exact ha.1 (sub_all.1 _ q)
   ·omega
  have hT2 := hT.putN hB hat
  have hd2 := h2.hd
  have hm2 := h2.mm
  simp only at hd2 hm2
  have q9u' := q9'
  unfold encEnt at q9u'
  simp (maxSteps:=9^7)(disch:=first|assumption|(simp only[dz];first|done|assumption|omega)|omega|apply_rules[Fr.refl,Fr.alloc,Fr.drew]|rfl) only [↓gd,gp,Nat.reduceAdd,Nat.reduceEqDiff, ↓hk49, e2, e3, e9, q2', q9u', hd2, hm2]
  refine evict_spec (a := { a with S := S2 }) (e := E) (among := fun T => T.row f.key) (over := overK c f.key) h2 hT2 (by omega) (among_row q2' q3' (off _ (by omega) a2) (off _ (by omega) a3) (by omega)) (over_row q2' q3' (off _ (by omega) a2) (off _ (by omega) a3) (by omega)) (fun T x hx => mem_list.2 ⟨_, hx⟩) (fun T hT => row_len_le hT _) fun w3 h3 hf3 => ?_
  have cw3 := cur w3
  have hz3 := hf3.size
  have q23 := hf3.get q2' (off _ (by omega) a2)
  have q93 := hf3.get q9' (off _ (by omega) a9)
  have hF3 : Fr a.all w w3 := hF2.trans hf3 fun x hx => (hn2' x hx).imp (sub_all.1 x) fun q => by omega
  have hd3 := h3.hd
  have hm3 := h3.mm
  simp only at hd3 hm3
  have q93u := q93
  unfold encEnt at q93u
  have hT3 : TOK (evictF (fun T => T.row f.key) (overK c f.key) E.ins (M.T.putR E).list.length (M.T.putR E)) (B + 320) := by
   have key : ∀ (n : Nat) (T : Tab), TOK T (B + 320) → TOK (evictF (fun T => T.row f.key) (overK c f.key) E.ins n T) (B + 320) := by
    intro n
    induction n with
    | zero => intro T hT; exact hT
    | succ n ih =>
      intro T hT
      unfold evictF
      split
      ·split
       ·exact hT
       ·exact ih _ (hT.drop (by omega) _ _).1
      ·exact hT
   exact key _ _ hT2
  simp only at h3
  simp (maxSteps:=9^7)(disch:=first|assumption|(simp only[dz];first|done|assumption|omega)|omega|apply_rules[Fr.refl,Fr.alloc,Fr.drew]|rfl) only [↓gd,gp,Nat.reduceAdd,Nat.reduceEqDiff, ↓hk49, takeP_mkF, e2, e3, e9, q23, q93u, hd3, hm3]
  have h3d := h3.frN (w' := w3.drew) fr_
  refine evict_spec (a := { a with S := S2 }) (e := E) (among := Tab.list) (over := overB c) h3d hT3 (by omega) (among_all (by omega)) (over_bytes q23 (off _ (by omega) a2)) (fun T x hx => hx) (fun T hT => Nat.le_refl _) fun w4 h4 hf4 => ?_
  have cw4 := cur w4
  simp (maxSteps:=9^7)(disch:=first|assumption|(simp only[dz];first|done|assumption|omega)|omega|apply_rules[Fr.refl,Fr.alloc,Fr.drew]|rfl) only [↓gd,gp,Nat.reduceAdd,Nat.reduceEqDiff, ↓hk49]
  rw [hEi] at h4
  exact hK _ S2 h4 (fun x hx => (hn2' x hx).imp id fun q => by omega) ((hF3.trans' (fr_ : Fr [] w3 w3.drew)).trans hf4 fun x hx => (hn2' x hx).imp (sub_all.1 x) fun q => by omega)
 have fin3 : ∀ (e' : Env) (w' : World), Fr [] w1 w' → e' 2 = .pointer (some ⟨w.heap.size, 0, none⟩) → e' 3 = .pointer (some ⟨w.heap.size + 1, 0, none⟩) → getE (M.T.row f.key) f.lo = none →
   W3 Tryz.prog 112 V49 c49_2 (retQ Tryz.prog [.tmp 4] K) e' w' := by
  intro e' w' hf e2 e3 hget
  have cw' := cur w'
  have hz' := hf.size
  have h' := h1.frN hf
  have q2 := hf.getN g2
  have q3 := hf.getN g3
  have q3u := hf.getN g3u
  have hd' := h'.hd
  have hm' := h'.mm
  simp (maxSteps:=9^7)(disch:=first|assumption|(simp only[dz];first|done|assumption|omega)|omega|apply_rules[Fr.refl,Fr.alloc,Fr.drew]|rfl) only [↓gd,gp,Nat.reduceAdd,Nat.reduceEqDiff, ↓c49_8_s, ↓c49_7_s, ↓c49_6_s, ↓c49_5_s, ↓c49_4_s, ↓c49_11_s, ↓c49_10_s, ↓c49_9_s, ↓c49_2_s, ↓c49_17_s, ↓c49_21_s, ↓c49_20_s, ↓c49_19_s, ↓c49_18_s, ↓c49_16_s, ↓c49_15_s, ↓c49_14_s, ↓c49_13_s, ↓c49_12_s, ↓c49_1_s, ↓c49_s, ↓w3t_49, e2, e3, q2, q3u, hd', hm']
  refine cost_spec fun w2 hf2 => ?_
  have cw2 := cur w2
  have hf2' : Fr [] w' w2 := Fr.trans' fr_ hf2
  have hz2 := hf2'.size
  have h2 := h'.frN hf2'
  have q22 := hf2'.getN q2
  have q32 := hf2'.getN q3
  have q32u := hf2'.getN q3u
  have hd2 := h2.hd
  have hm2 := h2.mm
  by_cases q : c.bytes < costE f
  ·have d1 : decide (c.bytes < costE f) = true := decide_eq_true q
   unfold Mem.lay at hK
   rw [hget] at hK
   simp only at hK
   rw [if_pos q] at hK
   simp (maxSteps:=9^7)(disch:=first|assumption|(simp only[dz];first|done|assumption|omega)|omega|apply_rules[Fr.refl,Fr.alloc,Fr.drew]|rfl) only [↓gd,gp,Nat.reduceAdd,Nat.reduceEqDiff, ↓c49_8_s, ↓c49_7_s, ↓c49_6_s, ↓c49_5_s, ↓c49_4_s, ↓c49_11_s, ↓c49_10_s, ↓c49_9_s, ↓c49_2_s, ↓c49_17_s, ↓c49_21_s, ↓c49_20_s, ↓c49_19_s, ↓c49_18_s, ↓c49_16_s, ↓c49_15_s, ↓c49_14_s, ↓c49_13_s, ↓c49_12_s, ↓c49_1_s, ↓c49_s, ↓w3t_49, e2, e3, q22, hd2, d1]
   exact hK _ a.S h2 (fun x hx => .inl hx) ((Fr.refl a.all w).trans ((hf1.trans' hf).trans' hf2') (by simp))
  ·have d1 : decide (c.bytes < costE f) = false := decide_eq_false q
   obtain ⟨x, hx⟩ : ∃ x, x = IntKind.i64.wrap (M.ins + 1) := ⟨_, rfl⟩
   have hxx : wr1 M.ins = x := hx.symm
   have lm := lt_of_get _ _ hm2
   simp (maxSteps:=9^7)(disch:=first|assumption|(simp only[dz];first|done|assumption|omega)|omega|apply_rules[Fr.refl,Fr.alloc,Fr.drew]|rfl) only [↓gd,gp,Nat.reduceAdd,Nat.reduceEqDiff, ↓c49_8_s, ↓c49_7_s, ↓c49_6_s, ↓c49_5_s, ↓c49_3_s, ↓c49_11_s, ↓c49_10_s, ↓c49_9_s, ↓c49_2_s, ↓c49_17_s, ↓c49_21_s, ↓c49_20_s, ↓c49_19_s, ↓c49_18_s, ↓c49_16_s, ↓c49_15_s, ↓c49_14_s, ↓c49_13_s, ↓c49_12_s, ↓c49_1_s, ↓c49_s, ↓w3t_49, e2, e3, q22, hd2, hm2, d1, ← hx]
   generalize hW : World.setB w2 _ _ = w5
   have hf5 : Fr [a.mb] w2 w5 := by rw [← hW]; exact fr_
   have h5 : NodeAt w5 a c inc { M with live := M.live, stamps := M.stamps, ins := x } := h2.memS (live := M.live) (stamps := M.stamps) (ins := x) (by rw [← hW]; simp (maxSteps:=9^7)(disch:=first|assumption|(simp only[dz];first|done|assumption|omega)|omega|apply_rules[Fr.refl,Fr.alloc,Fr.drew]|rfl) only [↓gsd,gs,gv,Nat.reduceAdd,Nat.reduceEqDiff]; rfl) hf5
   clear hW
   have cw5 := cur w5
   have hz5 := hf5.size
   have s_mb : a.mb ∈ a.all := sub_all.2.2.1
   have ne2 : w.heap.size ≠ a.mb := fun q => a2.1 (q ▸ s_mb)
   have ne3 : w.heap.size + 1 ≠ a.mb := fun q => a3.1 (q ▸ s_mb)
   have q25 := hf5.get q22 (by simp; exact ne2)
   have q35 := hf5.get q32 (by simp; exact ne3)
   have q35u := hf5.get q32u (by simp; exact ne3)
   have hd5 := h5.hd
   have hm5 := h5.mm
   simp only at hm5
   have hF5 : Fr a.all w w5 := ((Fr.refl a.all w).trans ((hf1.trans' hf).trans' hf2') (by simp)).trans hf5 (fun y hy => by simp at hy; subst hy; exact .inl s_mb)
   have hst : ∀ (w' : World) (K' : Value → World → Prop), Fr [] w5 w' → (∀ w'', Fr [a.mb] w' w'' → Fr [a.mb] w5 w'' → NodeAt w'' a c inc { M with stamps := wr1 M.stamps, ins := x } → K' (.int .i64 (wr1 M.stamps)) w'') → CallsN Tryz.prog 116 [.pointer (some ⟨a.mb, 0, none⟩)] w' K' := fun w' K' hf hk => stamp_spec (h5.frN hf) fun w'' q1 q2 => hk w'' q1 (Fr.trans (M' := [a.mb]) ((Fr.refl _ _).trans hf (by simp)) q1 fun y hy => .inl hy) q2
   rw [hxx] at fin4
   generalize wr1 M.stamps = st at hst fin4
   simp (maxSteps:=9^7)(disch:=first|assumption|(simp only[dz];first|done|assumption|omega)|omega|apply_rules[Fr.refl,Fr.alloc,Fr.drew]|rfl) only [↓gd,gp,Nat.reduceAdd,Nat.reduceEqDiff, ↓c49_8_s, ↓c49_7_s, ↓c49_6_s, ↓c49_4_s, ↓c49_3_s, ↓c49_11_s, ↓c49_10_s, ↓c49_9_s, ↓c49_2_s, ↓c49_17_s, ↓c49_21_s, ↓c49_20_s, ↓c49_19_s, ↓c49_18_s, ↓c49_16_s, ↓c49_15_s, ↓c49_14_s, ↓c49_13_s, ↓c49_12_s, ↓c49_1_s, ↓c49_s, ↓w3t_49, e2, e3, q25, q35u, hd5, hm5]
   have lmb : a.mb < w5.heap.size := lt_of_get _ _ hm5
   repeat' (first | with_reducible refine And.intro ?_ ?_ | (with_reducible refine Or.inl ?_; (repeat first|exact Fr.refl _ _|assumption|with_reducible first|apply Fr.alloc|apply Fr.drew|refine Fr.setB ?_ _ _ (.inr (by first|omega|(simp only[gz];omega)))|refine Fr.setB ?_ _ _ (.inl (by first|assumption|simp))|refine Fr.trans' ?_ (by assumption)); done) | (with_reducible refine hst _ _ fr_ ?_; intro w6 hf6 hf56 hN6; have cw6 := cur w6; have hz6 := hf6.size; have hd6 := hN6.hd; have hm6 := hN6.mm; simp only at hm6; have r2 := hf56.get q25 (by simp; exact ne2); have r3 := hf56.get q35u (by simp; exact ne3); have k2 := lt_of_get _ _ r2; have k3 := lt_of_get _ _ r3; have k4 := lt_of_get _ _ hd6; have k5 := lt_of_get _ _ hm6; try (have ga := Fr.get hf6 (get_alloc_new _ _) (by simp only [size_drew, List.mem_singleton]; omega); simp only [size_drew] at ga; have gl := lt_of_get _ _ ga; simp (maxSteps:=9^7)(disch:=first|assumption|(simp only[dz];first|done|assumption|omega)|omega|apply_rules[Fr.refl,Fr.alloc,Fr.drew]|rfl) only [↓gd,gp,Nat.reduceAdd,Nat.reduceEqDiff, ↓c49_8_s, ↓c49_7_s, ↓c49_6_s, ↓c49_4_s, ↓c49_3_s, ↓c49_11_s, ↓c49_10_s, ↓c49_9_s, ↓c49_2_s, ↓c49_17_s, ↓c49_21_s, ↓c49_20_s, ↓c49_19_s, ↓c49_18_s, ↓c49_16_s, ↓c49_15_s, ↓c49_14_s, ↓c49_13_s, ↓c49_12_s, ↓c49_1_s, ↓c49_s, ↓w3t_49, hd6, hm6, r2, r3, ga])) | simp (maxSteps:=9^7)(disch:=first|assumption|(simp only[dz];first|done|assumption|omega)|omega|apply_rules[Fr.refl,Fr.alloc,Fr.drew]|rfl) only [↓gd,gp,Nat.reduceAdd,Nat.reduceEqDiff, ↓c49_8_s, ↓c49_7_s, ↓c49_6_s, ↓c49_4_s, ↓c49_3_s, ↓c49_11_s, ↓c49_10_s, ↓c49_9_s, ↓c49_2_s, ↓c49_17_s, ↓c49_21_s, ↓c49_20_s, ↓c49_19_s, ↓c49_18_s, ↓c49_16_s, ↓c49_15_s, ↓c49_14_s, ↓c49_13_s, ↓c49_12_s, ↓c49_1_s, ↓c49_s, ↓w3t_49, e2, e3, hd6, hm6, r2, r3] | simp (maxSteps:=9^7)(disch:=first|assumption|(simp only[dz];first|done|assumption|omega)|omega|apply_rules[Fr.refl,Fr.alloc,Fr.drew]|rfl) only [↓gd,gp,Nat.reduceAdd,Nat.reduceEqDiff, ↓c49_8_s, ↓c49_7_s, ↓c49_6_s, ↓c49_4_s, ↓c49_3_s, ↓c49_11_s, ↓c49_10_s, ↓c49_9_s, ↓c49_2_s, ↓c49_17_s, ↓c49_21_s, ↓c49_20_s, ↓c49_19_s, ↓c49_18_s, ↓c49_16_s, ↓c49_15_s, ↓c49_14_s, ↓c49_13_s, ↓c49_12_s, ↓c49_1_s, ↓c49_s, ↓w3t_49, e2, e3])
   all_goals
    have aw5 := h5.away (Nat.le_refl w5.heap.size)
    refine fin4 _ _ (hN6.frA (L := [w5.heap.size]) fr_ (fun g hg => by simp at hg; subst hg; exact aw5)) ((hF5.trans hf56 (fun y hy => by simp at hy; subst hy; exact .inl s_mb)).trans (M' := [w5.heap.size]) fr_ (fun y hy => by simp at hy; subst hy; exact .inr (by omega))) ?_ e2 e3
     (Fr.get (M := [w5.heap.size]) fr_ (hf56.get q25 (by simp; exact ne2)) (by simp; omega)) (Fr.get (M := [w5.heap.size]) fr_ (hf56.get q35 (by simp; exact ne3)) (by simp; omega)) hget q ⟨_, rfl, ?_, ?_⟩
    ·simp only [gz]; omega
    ·first | exact get_alloc_new _ _ | exact get_setB_same _ _ _ (by omega)
    ·omega
 clear fin4
 have fin2 : ∀ (e' : Env) (w' : World) (e0 : Ent), Fr [] w1 w' → e' 2 = .pointer (some ⟨w.heap.size, 0, none⟩) → getE (M.T.row f.key) f.lo = some e0 → e' 8 = .bool (mergeE e0 f M.g.at_).isSome →
   (∃ b5, e' 5 = .pointer (some ⟨b5, 0, none⟩) ∧ w'.heap[b5]? = some (.cells (encEnt e0).toArray 52 (0, 0)) ∧ w.heap.size ≤ b5 ∧ b5 ≠ w.heap.size) →
   (∃ b7, e' 7 = .pointer (some ⟨b7, 0, none⟩) ∧ w'.heap[b7]? = some (.cells (encFct ((mergeE e0 f M.g.at_).getD entZ)).toArray 34 (0, 0))) →
   W3 Tryz.prog 112 V49 c49_16 (seqQ (W3 Tryz.prog 112 V49 c49_2 (retQ Tryz.prog [.tmp 4] K)) (retQ Tryz.prog [.tmp 4] K)) e' w' := by
  intro e' w' e0 hf e2 hget e8 ⟨b5, e5, q5, hb5, hb52⟩ ⟨b7, e7, q7⟩
  have cw' := cur w'
  have hz' := hf.size
  have h' := h1.frN hf
  have q2 := hf.getN g2
  have hd' := h'.hd
  have hm' := h'.mm
  have a5 := h.away hb5
  have l5 := lt_of_get _ _ q5
  have l7 := lt_of_get _ _ q7
  unfold Mem.lay at hK
  rw [hget] at hK
  simp only at hK
  cases hmg : mergeE e0 f M.g.at_ with
  | none =>
    rw [hmg] at hK
    have e8' : e' 8 = .bool false := by rw [e8, hmg]; rfl
    simp (maxSteps:=9^7)(disch:=first|assumption|(simp only[dz];first|done|assumption|omega)|omega|apply_rules[Fr.refl,Fr.alloc,Fr.drew]|rfl) only [↓gd,gp,Nat.reduceAdd,Nat.reduceEqDiff, ↓hk49, e2, e5, e7, e8']
    exact hK _ a.S h' (fun x hx => .inl hx) ((Fr.refl a.all w).trans (hf1.trans' hf) (by simp))
  | some m =>
    rw [hmg] at hK q7
    have e8' : e' 8 = .bool true := by rw [e8, hmg]; rfl
    have hm : ∃ X, m = { e0 with hi := X } := by
     unfold mergeE at hmg
     split at hmg
     ·cases hmg; exact ⟨_, rfl⟩
     ·cases hmg
    obtain ⟨X, rfl⟩ := hm
    simp only [Option.getD_some] at q7
    unfold encFct at q7
    have q5u := q5
    unfold encEnt at q5u
    have hne : b5 ≠ b7 := fun q => by
     rw [← q, q5u] at q7
     simp at q7
    have x1 : w.heap.size ≠ b5 := fun q => hb52 q.symm
    have x2 : a.nb ≠ b5 := fun q => a5.1 (q ▸ sub_all.2.1)
    have x3 : a.mb ≠ b5 := fun q => a5.1 (q ▸ sub_all.2.2.1)
    have k1 := lt_of_get _ _ q2
    have k2 := lt_of_get _ _ hd'
    have k3 := lt_of_get _ _ hm'
    simp (maxSteps:=9^7)(disch:=first|assumption|(simp only[dz];first|done|assumption|omega)|omega|apply_rules[Fr.refl,Fr.alloc,Fr.drew]|rfl) only [↓gd,gp,Nat.reduceAdd,Nat.reduceEqDiff, ↓hk49, e2, e5, e7, e8', q7, q5u, q2, hd', hm']
    generalize hW : World.setB w' _ _ = w2
    have hf2 : Fr [b5] w' w2 := by rw [← hW]; exact fr_
    have q52 : w2.heap[b5]? = some (.cells (encEnt { e0 with hi := X }).toArray 52 (0, 0)) := by rw [← hW]; exact get_setB_same _ _ _ l5
    clear hW
    have cw2 := cur w2
    have hz2 := hf2.size
    have h2 := h'.frA hf2 (fun g hg => by simp at hg; subst hg; exact a5)
    have q22 := hf2.get q2 (by simp; exact fun q => hb52 q.symm)
    have hd2 := h2.hd
    have hm2 := h2.mm
    have q52u := q52
    unfold encEnt at q52u
    have h2d := h2.frN (w' := w2.drew) fr_
    refine put_spec (e := { e0 with hi := X }) h2d.tab hT.wf (by omega) fun w3 S3 ht3 hs3 hn3 hf3 => ?_
    have cw3 := cur w3
    have h3 : NodeAt w3 { a with S := S3 } c inc { M with T := M.T.putR { e0 with hi := X } } := h2d.tabS ht3 hn3 hf3
    simp (maxSteps:=9^7)(disch:=first|assumption|(simp only[dz];first|done|assumption|omega)|omega|apply_rules[Fr.refl,Fr.alloc,Fr.drew]|rfl) only [↓gd,gp,Nat.reduceAdd,Nat.reduceEqDiff, ↓hk49, e2, e5, e7, e8']
    exact hK _ S3 h3 (fun x hx => (hn3 x hx).imp id fun q => by rw [size_drew] at q; omega) (((((Fr.refl a.all w).trans (hf1.trans' hf) (by simp)).trans hf2 (fun y hy => by simp at hy; subst hy; exact .inr hb5)).trans' (fr_ : Fr [] w2 w2.drew)).trans hf3 fun x hx => .inl (sub_all.1 x hx))
 have hat : ∀ (w' : World) (K' : Value → World → Prop), Fr [] w1 w' → K' (.int .i64 M.g.at_) w' → CallsN Tryz.prog 70 [.pointer (some ⟨a.gb, 0, none⟩)] w' K' := fun w' K' hf hk => atR (h1.frN hf).gap hk
 have fin1 : ∀ (e' : Env) (w' : World), Fr [] w1 w' → e' 2 = .pointer (some ⟨w.heap.size, 0, none⟩) → e' 3 = .pointer (some ⟨w.heap.size + 1, 0, none⟩) → e' 6 = .bool (hasE (M.T.row f.key) f.lo) →
   (∃ b5, e' 5 = .pointer (some ⟨b5, 0, none⟩) ∧ w'.heap[b5]? = some (.cells (encEnt ((getE (M.T.row f.key) f.lo).getD entZ)).toArray 52 (0, 0)) ∧ w1.heap.size ≤ b5) →
   W3 Tryz.prog 112 V49 c49_13 (seqQ (W3 Tryz.prog 112 V49 c49_2 (retQ Tryz.prog [.tmp 4] K)) (retQ Tryz.prog [.tmp 4] K)) e' w' := by
  intro e' w' hf e2 e3 e6 ⟨b5, e5, q5, hb5⟩
  have cw' := cur w'
  have hz' := hf.size
  have h' := h1.frN hf
  have q2 := hf.getN g2
  have q3u := hf.getN g3u
  have hd' := h'.hd
  have hm' := h'.mm
  have l5 := lt_of_get _ _ q5
  have hhas := getE_has (M.T.row f.key) f.lo
  cases hget : getE (M.T.row f.key) f.lo with
  | none =>
    have e6' : e' 6 = .bool false := by rw [e6, ← hhas, hget]; rfl
    simp (maxSteps:=9^7)(disch:=first|assumption|(simp only[dz];first|done|assumption|omega)|omega|apply_rules[Fr.refl,Fr.alloc,Fr.drew]|rfl) only [↓gd,gp,Nat.reduceAdd,Nat.reduceEqDiff, ↓c49_8_s, ↓c49_7_s, ↓c49_6_s, ↓c49_5_s, ↓c49_4_s, ↓c49_3_s, ↓c49_11_s, ↓c49_10_s, ↓c49_9_s, ↓c49_17_s, ↓c49_21_s, ↓c49_20_s, ↓c49_19_s, ↓c49_18_s, ↓c49_16_s, ↓c49_15_s, ↓c49_14_s, ↓c49_13_s, ↓c49_12_s, ↓c49_1_s, ↓c49_s, ↓w3t_49, e6']
    exact fin3 _ _ hf e2 e3 hget
  | some e0 =>
    have e6' : e' 6 = .bool true := by rw [e6, ← hhas, hget]; rfl
    rw [hget] at q5
    simp only [Option.getD_some] at q5
    have hmg : ∀ (w2 : World) (K' : Value → World → Prop), Fr [] w' w2 → (∀ w'', Fr [] w2 w'' → K' (.tuple ([.agg (encFct ((mergeE e0 f M.g.at_).getD entZ)).toArray, .bool (mergeE e0 f M.g.at_).isSome] : List Value).toArray) w'') →
     CallsN Tryz.prog 113 [.agg (encFct e0).toArray, .agg (encFct f).toArray, .int .i64 M.g.at_] w2 K' := fun w2 K' _ hk => merge_spec hk
    have fin2' := fun e'' w'' hf q1 => fin2 e'' w'' e0 hf q1 hget
    generalize mergeE e0 f M.g.at_ = mo at hmg fin2'
    have q5u := q5
    unfold encEnt at q5u
    unfold encFct at hmg fin2'
    simp (maxSteps:=9^7)(disch:=first|assumption|(simp only[dz];first|done|assumption|omega)|omega|apply_rules[Fr.refl,Fr.alloc,Fr.drew]|rfl) only [↓gd,gp,Nat.reduceAdd,Nat.reduceEqDiff, ↓c49_8_s, ↓c49_7_s, ↓c49_6_s, ↓c49_5_s, ↓c49_4_s, ↓c49_3_s, ↓c49_11_s, ↓c49_10_s, ↓c49_9_s, ↓c49_2_s, ↓c49_17_s, ↓c49_21_s, ↓c49_20_s, ↓c49_19_s, ↓c49_18_s, ↓c49_15_s, ↓c49_14_s, ↓c49_13_s, ↓c49_12_s, ↓c49_1_s, ↓c49_s, ↓w3t_49, e2, e3, e5, e6', q2, q3u, q5u, hd', hm']
    repeat' (first | with_reducible refine And.intro ?_ ?_ | (with_reducible refine Or.inl ?_; (repeat first|exact Fr.refl _ _|assumption|with_reducible first|apply Fr.alloc|apply Fr.drew|refine Fr.setB ?_ _ _ (.inr (by first|omega|(simp only[gz];omega)))|refine Fr.setB ?_ _ _ (.inl (by first|assumption|simp))|refine Fr.trans' ?_ (by assumption)); done) | with_reducible refine hat _ _ fr_ ?_ | (with_reducible refine hmg _ _ fr_ ?_; intro w2 hf2; have cw2 := cur w2; have hz2 := hf2.size; try (have ga := Fr.getN hf2 (get_alloc_new _ _); simp only [size_drew] at ga; have gl := lt_of_get _ _ ga; simp (maxSteps:=9^7)(disch:=first|assumption|(simp only[dz];first|done|assumption|omega)|omega|apply_rules[Fr.refl,Fr.alloc,Fr.drew]|rfl) only [↓gd,gp,Nat.reduceAdd,Nat.reduceEqDiff, ↓c49_8_s, ↓c49_7_s, ↓c49_6_s, ↓c49_5_s, ↓c49_4_s, ↓c49_3_s, ↓c49_11_s, ↓c49_10_s, ↓c49_9_s, ↓c49_2_s, ↓c49_17_s, ↓c49_21_s, ↓c49_20_s, ↓c49_19_s, ↓c49_18_s, ↓c49_15_s, ↓c49_14_s, ↓c49_13_s, ↓c49_12_s, ↓c49_1_s, ↓c49_s, ↓w3t_49, ga])) | simp (maxSteps:=9^7)(disch:=first|assumption|(simp only[dz];first|done|assumption|omega)|omega|apply_rules[Fr.refl,Fr.alloc,Fr.drew]|rfl) only [↓gd,gp,Nat.reduceAdd,Nat.reduceEqDiff, ↓c49_8_s, ↓c49_7_s, ↓c49_6_s, ↓c49_5_s, ↓c49_4_s, ↓c49_3_s, ↓c49_11_s, ↓c49_10_s, ↓c49_9_s, ↓c49_2_s, ↓c49_17_s, ↓c49_21_s, ↓c49_20_s, ↓c49_19_s, ↓c49_18_s, ↓c49_15_s, ↓c49_14_s, ↓c49_13_s, ↓c49_12_s, ↓c49_1_s, ↓c49_s, ↓w3t_49, e2, e3, e5])
    all_goals
     refine fin2' _ _ fr_ e2 rfl ⟨b5, by simp (maxSteps:=9^7)(disch:=first|assumption|(simp only[dz];first|done|assumption|omega)|omega|apply_rules[Fr.refl,Fr.alloc,Fr.drew]|rfl) only [↓gsd,gs,gv,Nat.reduceAdd,Nat.reduceEqDiff, e5], (fr_ : Fr [] w' _).getN q5, by omega, by omega⟩ ⟨_, rfl, ?_⟩
     first | exact get_alloc_new _ _ | exact get_setB_same _ _ _ (by assumption)
 have hgt : ∀ (w' : World) (K' : Value → World → Prop), Fr [] w1 w' → (∀ w'', Fr [] w' w'' → K' (.tuple ([.agg (encEnt ((getE (M.T.row f.key) f.lo).getD entZ)).toArray, .bool (hasE (M.T.row f.key) f.lo)] : List Value).toArray) w'') →
   CallsN Tryz.prog 112 [.pointer (some ⟨a.tb, 0, none⟩), .string f.key, .int .i64 f.lo] w' K' := fun w' K' hf hk => Get_spec (h1.frN hf).tab hT.wf (by omega) hk
 clear fin2 fin3 hK
 generalize (getE (M.T.row f.key) f.lo).getD entZ = e0 at hgt fin1
 generalize hasE (M.T.row f.key) f.lo = hb at hgt fin1
 unfold encEnt at hgt fin1
 simp (maxSteps:=9^7)(disch:=first|assumption|(simp only[dz];first|done|assumption|omega)|omega|apply_rules[Fr.refl,Fr.alloc,Fr.drew]|rfl) only [↓gd,gp,Nat.reduceAdd,Nat.reduceEqDiff, ↓c49_8_s, ↓c49_7_s, ↓c49_6_s, ↓c49_5_s, ↓c49_4_s, ↓c49_3_s, ↓c49_11_s, ↓c49_10_s, ↓c49_9_s, ↓c49_2_s, ↓c49_17_s, ↓c49_21_s, ↓c49_20_s, ↓c49_19_s, ↓c49_18_s, ↓c49_16_s, ↓c49_15_s, ↓c49_14_s, ↓c49_12_s, ↓c49_1_s, ↓c49_s, ↓w3t_49, hd1, hm1, g2, g3u]
 repeat' (first | with_reducible refine And.intro ?_ ?_ | (with_reducible refine Or.inl ?_; (repeat first|exact Fr.refl _ _|assumption|with_reducible first|apply Fr.alloc|apply Fr.drew|refine Fr.setB ?_ _ _ (.inr (by first|omega|(simp only[gz];omega)))|refine Fr.setB ?_ _ _ (.inl (by first|assumption|simp))|refine Fr.trans' ?_ (by assumption)); done) | (with_reducible refine hgt _ _ fr_ ?_; intro w2 hf2; have cw2 := cur w2; have hz2 := hf2.size; try (have ga := Fr.getN hf2 (get_alloc_new _ _); simp only [size_drew] at ga; have gl := lt_of_get _ _ ga; simp (maxSteps:=9^7)(disch:=first|assumption|(simp only[dz];first|done|assumption|omega)|omega|apply_rules[Fr.refl,Fr.alloc,Fr.drew]|rfl) only [↓gd,gp,Nat.reduceAdd,Nat.reduceEqDiff, ↓c49_8_s, ↓c49_7_s, ↓c49_6_s, ↓c49_5_s, ↓c49_4_s, ↓c49_3_s, ↓c49_11_s, ↓c49_10_s, ↓c49_9_s, ↓c49_2_s, ↓c49_17_s, ↓c49_21_s, ↓c49_20_s, ↓c49_19_s, ↓c49_18_s, ↓c49_16_s, ↓c49_15_s, ↓c49_14_s, ↓c49_12_s, ↓c49_1_s, ↓c49_s, ↓w3t_49, ga])) | simp (maxSteps:=9^7)(disch:=first|assumption|(simp only[dz];first|done|assumption|omega)|omega|apply_rules[Fr.refl,Fr.alloc,Fr.drew]|rfl) only [↓gd,gp,Nat.reduceAdd,Nat.reduceEqDiff, ↓c49_8_s, ↓c49_7_s, ↓c49_6_s, ↓c49_5_s, ↓c49_4_s, ↓c49_3_s, ↓c49_11_s, ↓c49_10_s, ↓c49_9_s, ↓c49_2_s, ↓c49_17_s, ↓c49_21_s, ↓c49_20_s, ↓c49_19_s, ↓c49_18_s, ↓c49_16_s, ↓c49_15_s, ↓c49_14_s, ↓c49_12_s, ↓c49_1_s, ↓c49_s, ↓w3t_49])
 all_goals
  refine fin1 _ _ fr_ rfl rfl rfl ⟨_, rfl, ?_, ?_⟩
  ·first | exact get_alloc_new _ _ | exact get_setB_same _ _ _ (by assumption)
  ·first | exact Nat.le_refl _ | (simp only [size_drew, size_alloc] at *; omega)
end Go.Proofs.YtomlgkecckffeaaGreat
