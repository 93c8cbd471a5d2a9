/- The reference's codec: Same. -/
import Derived.Test.YtgloomahpjpiiaaGreatON
import Derived.Test.YtgloomahpjpiiaaGreatX2
import Derived.Test.YtgloomahpjpiiaaGreatX3
import Derived.Test.YtgloomahpjpiiaaGreatPB
set_option linter.unusedVariables false
set_option linter.unusedSimpArgs false
set_option maxRecDepth 10000
namespace Go.Proofs.YtgloomahpjpiiaaGreat.Or
open Go.VW
theorem r5sameT {w : World} {va vb : Value} {xs : List ByteArray} {K : Value → World → Prop} (ha : SlOf 1 Sm.encS w va xs) (hb : SlOf 1 Sm.encS w vb xs) (hm : xs.length ≤ 9223372036854775807) (hK : ∀ w', Fr [] w w' → K (.bool true) w') : CallsN Tryz.prog 45 [va, vb] w K := by
 have cw := cur w
 obtain ⟨aa, ac, hva⟩ := ha.form
 obtain ⟨ba, bc, hvb⟩ := hb.form
 have d0 : decide ((xs.length : Int) = (xs.length : Int)) = true := decide_eq_true rfl
 refine call45 ?_
 simp (maxSteps:=4000000)(disch:=first|assumption|(simp only[dz];first|done|assumption|omega)|omega|apply_rules[Fr.refl,Fr.alloc,Fr.drew]|rfl) only [↓gd,gp,Nat.reduceAdd,Nat.reduceEqDiff, ↓hk45, hva, hvb, d0]
 rw [← hva, ← hvb]
 refine loop_intro (fun e w' => ∃ i : Nat, i ≤ xs.length ∧ e 0 = va ∧ e 1 = vb ∧ e 5 = .int .i64 i ∧ Fr [] w w')
  (fun e _ => xs.length - (numOf (e 5)).toNat) ?_ ?_
 ·refine ⟨0, Nat.zero_le _, ?_⟩
  simp (maxSteps:=4000000)(disch:=first|assumption|(simp only[dz];first|done|assumption|omega)|omega|apply_rules[Fr.refl,Fr.alloc,Fr.drew]|rfl) only [↓gsd,gs,gv,Nat.reduceAdd,Nat.reduceEqDiff, Int.natCast_zero]
  (repeat (first | exact Fr.refl _ _ | assumption | with_reducible apply Fr.alloc | with_reducible apply Fr.drew | with_reducible refine Fr.setB ?_ _ _ (.inr (by first | omega | (simp only [gz]; omega))) | with_reducible refine Fr.setB ?_ _ _ (.inl (by first | assumption | simp)) | with_reducible refine Fr.trans' ?_ (by assumption)))
 rintro e w1 k ⟨i, hi, e0, e1, e5, hf⟩ hk
 have cw1 := cur w1
 have hz1 := hf.size
 by_cases hil : i < xs.length
 ·have d : decide ((i : Int) < (xs.length : Int)) = true := decide_eq_true (by omega)
  obtain ⟨x, hxi⟩ : ∃ x, xs[i]? = some x := ⟨xs[i]'(by omega), List.getElem?_eq_getElem (by omega)⟩
  obtain ⟨b1, o1, p1, ob1, hv1, hb1, _, _, hc1⟩ := (ha.frN hf).read Sm.encS_len i x hxi
  obtain ⟨b2, o2, p2, ob2, hv2, hb2, _, _, hc2⟩ := (hb.frN hf).read Sm.encS_len i x hxi
  have hd1 := fun orig K => hc1 0 (.string x) orig K rfl
  have hd2 := fun orig K => hc2 0 (.string x) orig K rfl
  simp only [Nat.add_zero, Nat.mul_one] at hd1 hd2
  have i0 : (0 : Int) ≤ (i : Int) := by omega
  have i1 : (i : Int) < (xs.length : Int) := by omega
  have i3 : ((i : Int) + 1).toNat = i + 1 := by omega
  have wr : IntKind.i64.wrap ((i : Int) + 1) = (i : Int) + 1 := wrap64 (by omega) (by omega)
  have q3 : decide (x = x) = true := decide_eq_true rfl
  simp (maxSteps:=4000000)(disch:=first|assumption|(simp only[dz];first|done|assumption|omega)|omega|apply_rules[Fr.refl,Fr.alloc,Fr.drew]|rfl) only [↓gd,gp,Nat.reduceAdd,Nat.reduceEqDiff, ↓hk45, e0, e1, e5, hv1, hv2, d, i0, i1, Int.toNat_natCast, Nat.mul_one, hb1, hb2, hd1, hd2, q3, wr]
  refine hk _ _ ⟨i + 1, by omega, ?_⟩ ?_
  ·simp (maxSteps:=4000000)(disch:=first|assumption|(simp only[dz];first|done|assumption|omega)|omega|apply_rules[Fr.refl,Fr.alloc,Fr.drew]|rfl) only [↓gsd,gs,gv,Nat.reduceAdd,Nat.reduceEqDiff, e0, e1, e5, hv1, hv2, Int.natCast_add, Int.natCast_one]
   exact hf.drew
  ·simp (maxSteps:=4000000)(disch:=first|assumption|(simp only[dz];first|done|assumption|omega)|omega|apply_rules[Fr.refl,Fr.alloc,Fr.drew]|rfl) only [↓gsd,gs,gv,Nat.reduceAdd,Nat.reduceEqDiff, e5, numOf, Int.toNat_natCast, i3]; omega
 ·have d : decide ((i : Int) < (xs.length : Int)) = false := decide_eq_false (by omega)
  simp (maxSteps:=4000000)(disch:=first|assumption|(simp only[dz];first|done|assumption|omega)|omega|apply_rules[Fr.refl,Fr.alloc,Fr.drew]|rfl) only [↓gd,gp,Nat.reduceAdd,Nat.reduceEqDiff, ↓hk45, e0, e1, e5, hva, d]
  exact hK _ hf
def hdB (a b : Msg) : Bool := decide (a.kind = b.kind) && (decide (a.node = b.node) && (decide (a.inc = b.inc) && (decide (a.ses = b.ses) && (decide (a.tx = b.tx) && (decide (a.seq = b.seq) && (decide (a.key = b.key) && (decide (a.plo = b.plo) && (decide (a.phi = b.phi) && (decide (a.vh = b.vh) && (decide (a.vd = b.vd) && ((a.hit == b.hit) && (decide (a.err = b.err) && (decide (a.n = b.n) && (decide ((a.wl : Int) = (b.wl : Int)) && (decide ((a.kl : Int) = (b.kl : Int)))))))))))))))))
set_option maxHeartbeats 64000000 in
theorem r13same {a b : Msg} {wsa wsb : List St.Wr} {ksa ksb : List ByteArray} {w : World} {K : Value → World → Prop} (ha : MsgAt w a wsa ksa) (hb : MsgAt w b wsb ksb) (h1 : wsa.length = wsb.length → wsa = wsb) (h2 : ksa.length = ksb.length → ksa = ksb)
  (hK : ∀ w', Fr [] w w' → K (.bool (hdB a b)) w') : CallsN Tryz.prog 20 [.agg (encMsg a).toArray, .agg (encMsg b).toArray] w K := by
 have cw := cur w
 refine call20 ?_
 have al := ha.wlen
 have ak := ha.klen
 have bl := hb.wlen
 have bk := hb.klen
 have awl := ha.wl
 have akl := ha.kl
 have ea : (encMsg a).toArray = #[.int .i64 a.kind, .int .i64 a.node, .int .i64 a.inc, .int .i64 a.ses, .int .i64 a.tx, .int .i64 a.seq, .string a.key, .int .i64 a.plo, .int .i64 a.phi, .bool a.vh, .string a.vd, .bool a.hit, .int .i64 a.err, .int .i64 a.n, .slice a.wa a.wl a.wc, .slice a.ka a.kl a.kc] := rfl
 have eb : (encMsg b).toArray = #[.int .i64 b.kind, .int .i64 b.node, .int .i64 b.inc, .int .i64 b.ses, .int .i64 b.tx, .int .i64 b.seq, .string b.key, .int .i64 b.plo, .int .i64 b.phi, .bool b.vh, .string b.vd, .bool b.hit, .int .i64 b.err, .int .i64 b.n, .slice b.wa b.wl b.wc, .slice b.ka b.kl b.kc] := rfl
 rw [ea, eb]
 simp (maxSteps:=4000000)(disch:=first|assumption|(simp only[dz];first|done|assumption|omega)|omega|apply_rules[Fr.refl,Fr.alloc,Fr.drew]|rfl) only [↓gd,gp,Nat.reduceAdd,Nat.reduceEqDiff, ↓c20_3_s, ↓c20_9_s, ↓c20_13_s, ↓c20_12_s, ↓c20_11_s, ↓c20_10_s, ↓c20_8_s, ↓c20_15_s, ↓c20_14_s, ↓c20_7_s, ↓c20_6_s, ↓c20_5_s, ↓c20_4_s, ↓c20_2_s, ↓c20_18_s, ↓c20_17_s, ↓c20_16_s, ↓c20_s, ↓w3t_20]
 generalize hW : World.alloc (World.alloc w _) _ = w1
 have hf1 : Fr [] w w1 := by rw [← hW]; (repeat (first | exact Fr.refl _ _ | assumption | with_reducible apply Fr.alloc | with_reducible apply Fr.drew | with_reducible refine Fr.setB ?_ _ _ (.inr (by first | omega | (simp only [gz]; omega))) | with_reducible refine Fr.setB ?_ _ _ (.inl (by first | assumption | simp)) | with_reducible refine Fr.trans' ?_ (by assumption)))
 have hz1 : w1.heap.size = w.heap.size + 2 := by rw [← hW]; simp only [gz]
 obtain ⟨pa, hpa⟩ : ∃ pa, pa = w.heap.size := ⟨_, rfl⟩
 obtain ⟨pb, hpb⟩ : ∃ pb, pb = w.heap.size + 1 := ⟨_, rfl⟩
 rw [← hpb, ← hpa]
 have ga : w1.heap[pa]? = some (.cells (encMsg a).toArray 40 (0, 0)) := by rw [← hW, hpa, ea]; simp (maxSteps:=4000000)(disch:=first|assumption|(simp only[dz];first|done|assumption|omega)|omega|apply_rules[Fr.refl,Fr.alloc,Fr.drew]|rfl) only [↓gsd,gs,gv,Nat.reduceAdd,Nat.reduceEqDiff]
 have gb : w1.heap[pb]? = some (.cells (encMsg b).toArray 40 (0, 0)) := by rw [← hW, hpb, eb]; simp (maxSteps:=4000000)(disch:=first|assumption|(simp only[dz];first|done|assumption|omega)|omega|apply_rules[Fr.refl,Fr.alloc,Fr.drew]|rfl) only [↓gsd,gs,gv,Nat.reduceAdd,Nat.reduceEqDiff]
 clear hW
 have cw1 := cur w1
 rw [ea] at ga
 rw [eb] at gb
 have hK' := fun w' hf => hK w' (hf1.trans' hf)
 unfold hdB at hK'
 cases q0 : decide (a.kind = b.kind) with
 | false =>
   simp only [q0, bOO] at hK'
   simp (maxSteps:=4000000)(disch:=first|assumption|(simp only[dz];first|done|assumption|omega)|omega|apply_rules[Fr.refl,Fr.alloc,Fr.drew]|rfl) only [↓gd,gp,Nat.reduceAdd,Nat.reduceEqDiff, ↓hk20, ga, gb, q0]
   exact hK' _ (Fr.refl _ _)
 | true =>
 cases q1 : decide (a.node = b.node) with
 | false =>
   simp only [q0, q1, bOO] at hK'
   simp (maxSteps:=4000000)(disch:=first|assumption|(simp only[dz];first|done|assumption|omega)|omega|apply_rules[Fr.refl,Fr.alloc,Fr.drew]|rfl) only [↓gd,gp,Nat.reduceAdd,Nat.reduceEqDiff, ↓hk20, ga, gb, q0, q1]
   exact hK' _ (Fr.refl _ _)
 | true =>
 cases q2 : decide (a.inc = b.inc) with
 | false =>
   simp only [q0, q1, q2, bOO] at hK'
   simp (maxSteps:=4000000)(disch:=first|assumption|(simp only[dz];first|done|assumption|omega)|omega|apply_rules[Fr.refl,Fr.alloc,Fr.drew]|rfl) only [↓gd,gp,Nat.reduceAdd,Nat.reduceEqDiff, ↓hk20, ga, gb, q0, q1, q2]
   exact hK' _ (Fr.refl _ _)
 | true =>
 cases q3 : decide (a.ses = b.ses) with
 | false =>
   simp only [q0, q1, q2, q3, bOO] at hK'
   simp (maxSteps:=4000000)(disch:=first|assumption|(simp only[dz];first|done|assumption|omega)|omega|apply_rules[Fr.refl,Fr.alloc,Fr.drew]|rfl) only [↓gd,gp,Nat.reduceAdd,Nat.reduceEqDiff, ↓hk20, ga, gb, q0, q1, q2, q3]
   exact hK' _ (Fr.refl _ _)
 | true =>
 cases q4 : decide (a.tx = b.tx) with
 | false =>
   simp only [q0, q1, q2, q3, q4, bOO] at hK'
   simp (maxSteps:=4000000)(disch:=first|assumption|(simp only[dz];first|done|assumption|omega)|omega|apply_rules[Fr.refl,Fr.alloc,Fr.drew]|rfl) only [↓gd,gp,Nat.reduceAdd,Nat.reduceEqDiff, ↓hk20, ga, gb, q0, q1, q2, q3, q4]
   exact hK' _ (Fr.refl _ _)
 | true =>
 cases q5 : decide (a.seq = b.seq) with
 | false =>
   simp only [q0, q1, q2, q3, q4, q5, bOO] at hK'
   simp (maxSteps:=4000000)(disch:=first|assumption|(simp only[dz];first|done|assumption|omega)|omega|apply_rules[Fr.refl,Fr.alloc,Fr.drew]|rfl) only [↓gd,gp,Nat.reduceAdd,Nat.reduceEqDiff, ↓hk20, ga, gb, q0, q1, q2, q3, q4, q5]
   exact hK' _ (Fr.refl _ _)
 | true =>
 cases q6 : decide (a.key = b.key) with
 | false =>
   simp only [q0, q1, q2, q3, q4, q5, q6, bOO] at hK'
   simp (maxSteps:=4000000)(disch:=first|assumption|(simp only[dz];first|done|assumption|omega)|omega|apply_rules[Fr.refl,Fr.alloc,Fr.drew]|rfl) only [↓gd,gp,Nat.reduceAdd,Nat.reduceEqDiff, ↓hk20, ga, gb, q0, q1, q2, q3, q4, q5, q6]
   exact hK' _ (Fr.refl _ _)
 | true =>
 cases q7 : decide (a.plo = b.plo) with
 | false =>
   simp only [q0, q1, q2, q3, q4, q5, q6, q7, bOO] at hK'
   simp (maxSteps:=4000000)(disch:=first|assumption|(simp only[dz];first|done|assumption|omega)|omega|apply_rules[Fr.refl,Fr.alloc,Fr.drew]|rfl) only [↓gd,gp,Nat.reduceAdd,Nat.reduceEqDiff, ↓hk20, ga, gb, q0, q1, q2, q3, q4, q5, q6, q7]
   exact hK' _ (Fr.refl _ _)
 | true =>
 cases q8 : decide (a.phi = b.phi) with
 | false =>
   simp only [q0, q1, q2, q3, q4, q5, q6, q7, q8, bOO] at hK'
   simp (maxSteps:=4000000)(disch:=first|assumption|(simp only[dz];first|done|assumption|omega)|omega|apply_rules[Fr.refl,Fr.alloc,Fr.drew]|rfl) only [↓gd,gp,Nat.reduceAdd,Nat.reduceEqDiff, ↓hk20, ga, gb, q0, q1, q2, q3, q4, q5, q6, q7, q8]
   exact hK' _ (Fr.refl _ _)
 | true =>
 cases q9 : decide (a.vh = b.vh) with
 | false =>
   simp only [q0, q1, q2, q3, q4, q5, q6, q7, q8, q9, bOO] at hK'
   simp (maxSteps:=4000000)(disch:=first|assumption|(simp only[dz];first|done|assumption|omega)|omega|apply_rules[Fr.refl,Fr.alloc,Fr.drew]|rfl) only [↓gd,gp,Nat.reduceAdd,Nat.reduceEqDiff, ↓hk20, ga, gb, q0, q1, q2, q3, q4, q5, q6, q7, q8, q9]
   exact hK' _ (Fr.refl _ _)
 | true =>
 cases q10 : decide (a.vd = b.vd) with
 | false =>
   simp only [q0, q1, q2, q3, q4, q5, q6, q7, q8, q9, q10, bOO] at hK'
   simp (maxSteps:=4000000)(disch:=first|assumption|(simp only[dz];first|done|assumption|omega)|omega|apply_rules[Fr.refl,Fr.alloc,Fr.drew]|rfl) only [↓gd,gp,Nat.reduceAdd,Nat.reduceEqDiff, ↓hk20, ga, gb, q0, q1, q2, q3, q4, q5, q6, q7, q8, q9, q10]
   exact hK' _ (Fr.refl _ _)
 | true =>
 cases q11 : (a.hit == b.hit) with
 | false =>
   simp only [q0, q1, q2, q3, q4, q5, q6, q7, q8, q9, q10, q11, bOO] at hK'
   simp (maxSteps:=4000000)(disch:=first|assumption|(simp only[dz];first|done|assumption|omega)|omega|apply_rules[Fr.refl,Fr.alloc,Fr.drew]|rfl) only [↓gd,gp,Nat.reduceAdd,Nat.reduceEqDiff, ↓hk20, ga, gb, q0, q1, q2, q3, q4, q5, q6, q7, q8, q9, q10, q11]
   exact hK' _ (Fr.refl _ _)
 | true =>
 cases q12 : decide (a.err = b.err) with
 | false =>
   simp only [q0, q1, q2, q3, q4, q5, q6, q7, q8, q9, q10, q11, q12, bOO] at hK'
   simp (maxSteps:=4000000)(disch:=first|assumption|(simp only[dz];first|done|assumption|omega)|omega|apply_rules[Fr.refl,Fr.alloc,Fr.drew]|rfl) only [↓gd,gp,Nat.reduceAdd,Nat.reduceEqDiff, ↓hk20, ga, gb, q0, q1, q2, q3, q4, q5, q6, q7, q8, q9, q10, q11, q12]
   exact hK' _ (Fr.refl _ _)
 | true =>
 cases q13 : decide (a.n = b.n) with
 | false =>
   simp only [q0, q1, q2, q3, q4, q5, q6, q7, q8, q9, q10, q11, q12, q13, bOO] at hK'
   simp (maxSteps:=4000000)(disch:=first|assumption|(simp only[dz];first|done|assumption|omega)|omega|apply_rules[Fr.refl,Fr.alloc,Fr.drew]|rfl) only [↓gd,gp,Nat.reduceAdd,Nat.reduceEqDiff, ↓hk20, ga, gb, q0, q1, q2, q3, q4, q5, q6, q7, q8, q9, q10, q11, q12, q13]
   exact hK' _ (Fr.refl _ _)
 | true =>
 cases q14 : decide ((a.wl : Int) = (b.wl : Int)) with
 | false =>
   simp only [q0, q1, q2, q3, q4, q5, q6, q7, q8, q9, q10, q11, q12, q13, q14, bOO] at hK'
   simp (maxSteps:=4000000)(disch:=first|assumption|(simp only[dz];first|done|assumption|omega)|omega|apply_rules[Fr.refl,Fr.alloc,Fr.drew]|rfl) only [↓gd,gp,Nat.reduceAdd,Nat.reduceEqDiff, ↓hk20, ga, gb, q0, q1, q2, q3, q4, q5, q6, q7, q8, q9, q10, q11, q12, q13, q14]
   exact hK' _ (Fr.refl _ _)
 | true =>
 cases q15 : decide ((a.kl : Int) = (b.kl : Int)) with
 | false =>
   simp only [q0, q1, q2, q3, q4, q5, q6, q7, q8, q9, q10, q11, q12, q13, q14, q15, bOO] at hK'
   simp (maxSteps:=4000000)(disch:=first|assumption|(simp only[dz];first|done|assumption|omega)|omega|apply_rules[Fr.refl,Fr.alloc,Fr.drew]|rfl) only [↓gd,gp,Nat.reduceAdd,Nat.reduceEqDiff, ↓hk20, ga, gb, q0, q1, q2, q3, q4, q5, q6, q7, q8, q9, q10, q11, q12, q13, q14, q15]
   exact hK' _ (Fr.refl _ _)
 | true =>
 simp only [q0, q1, q2, q3, q4, q5, q6, q7, q8, q9, q10, q11, q12, q13, q14, q15, bOO] at hK'
 simp (maxSteps:=4000000)(disch:=first|assumption|(simp only[dz];first|done|assumption|omega)|omega|apply_rules[Fr.refl,Fr.alloc,Fr.drew]|rfl) only [↓gd,gp,Nat.reduceAdd,Nat.reduceEqDiff, ↓hk20, ga, gb, q0, q1, q2, q3, q4, q5, q6, q7, q8, q9, q10, q11, q12, q13, q14, q15]
 have q14' : a.wl = b.wl := by have := of_decide_eq_true q14; omega
 have q15' : a.kl = b.kl := by have := of_decide_eq_true q15; omega
 have ew := h1 (by omega)
 have ek := h2 (by omega)
 subst ew ek
 have haw := ha.dw.frN hf1
 have hbw := hb.dw.frN hf1
 have eaw : a.wv = .slice a.wa wsa.length a.wc := by rw [Msg.wv, al]
 have ebw : b.wv = .slice b.wa wsa.length b.wc := by rw [Msg.wv, bl]
 rw [al] at ga
 rw [bl] at gb
 refine for_intro wsa.length 5 0 (fun i e w' => e 2 = .pointer (some ⟨pa, 0, none⟩) ∧ e 3 = .pointer (some ⟨pb, 0, none⟩) ∧ Fr [] w1 w') ?_ (Nat.zero_le _) ?_ ?_
 ·simp (maxSteps:=4000000)(disch:=first|assumption|(simp only[dz];first|done|assumption|omega)|omega|apply_rules[Fr.refl,Fr.alloc,Fr.drew]|rfl) only [↓gsd,gs,gv,Nat.reduceAdd,Nat.reduceEqDiff]; rfl
 ·simp (maxSteps:=4000000)(disch:=first|assumption|(simp only[dz];first|done|assumption|omega)|omega|apply_rules[Fr.refl,Fr.alloc,Fr.drew]|rfl) only [↓gsd,gs,gv,Nat.reduceAdd,Nat.reduceEqDiff]
  (repeat (first | exact Fr.refl _ _ | assumption | with_reducible apply Fr.alloc | with_reducible apply Fr.drew | with_reducible refine Fr.setB ?_ _ _ (.inr (by first | omega | (simp only [gz]; omega))) | with_reducible refine Fr.setB ?_ _ _ (.inl (by first | assumption | simp)) | with_reducible refine Fr.trans' ?_ (by assumption)))
 rintro i e w2 kk hi e5 ⟨e2, e3, hf2⟩ hk
 have cw2 := cur w2
 have ga2 := hf2.getN ga
 have gb2 := hf2.getN gb
 have hzb2 := hf2.size
 by_cases hil : i < wsa.length
 ·have d : decide ((i : Int) < (wsa.length : Int)) = true := decide_eq_true (by omega)
  have i0 : (0 : Int) ≤ (i : Int) := by omega
  have i1 : (i : Int) < (wsa.length : Int) := by omega
  have wr : IntKind.i64.wrap ((i : Int) + 1) = (i : Int) + 1 := wrap64 (by omega) (by omega)
  obtain ⟨y, hy⟩ : ∃ y, wsa[i]? = some y := ⟨wsa[i], List.getElem?_eq_getElem hil⟩
  obtain ⟨b1, o1, p1, ob1, hv1, hb1, _, hr1, _⟩ := (haw.frN hf2).read St.encWr_len i y hy
  obtain ⟨b2, o2, p2, ob2, hv2, hb2, _, hr2, _⟩ := (hbw.frN hf2).read St.encWr_len i y hy
  rw [eaw] at hv1
  rw [ebw] at hv2
  simp only [Value.slice.injEq] at hv1 hv2
  obtain ⟨ha1, _, ha2⟩ := hv1
  obtain ⟨hb3, _, hb4⟩ := hv2
  rw [ha1] at ga2
  rw [hb3] at gb2
  unfold St.encWr at hr1 hr2
  have s1 : decide (y.key = y.key) = true := decide_eq_true rfl
  have s2 : decide (y.has = y.has) = true := decide_eq_true rfl
  have s3 : decide (y.data = y.data) = true := decide_eq_true rfl
  simp (maxSteps:=4000000)(disch:=first|assumption|(simp only[dz];first|done|assumption|omega)|omega|apply_rules[Fr.refl,Fr.alloc,Fr.drew]|rfl) only [↓gd,gp,Nat.reduceAdd,Nat.reduceEqDiff, ↓hk20, e2, e3, e5, ga2, gb2, d, i0, i1, Int.toNat_natCast, hb1, hb2, hr1, hr2, s1, s2, s3, wr]
  refine hk _ _ hil rfl ?_
  simp (maxSteps:=4000000)(disch:=first|assumption|(simp only[dz];first|done|assumption|omega)|omega|apply_rules[Fr.refl,Fr.alloc,Fr.drew]|rfl) only [↓gsd,gs,gv,Nat.reduceAdd,Nat.reduceEqDiff, e2, e3]
  exact hf2.drew
 ·have d : decide ((i : Int) < (wsa.length : Int)) = false := decide_eq_false (by omega)
  simp (maxSteps:=4000000)(disch:=first|assumption|(simp only[dz];first|done|assumption|omega)|omega|apply_rules[Fr.refl,Fr.alloc,Fr.drew]|rfl) only [↓gd,gp,Nat.reduceAdd,Nat.reduceEqDiff, ↓hk20, e2, e3, e5, ga2, gb2, d]
  refine r5sameT ((ha.dk.frN hf1).frN hf2) (by have := (hb.dk.frN hf1).frN hf2; exact this) akl fun w3 hf3 => ?_
  have cw3 := cur w3
  try simp (maxSteps:=4000000)(disch:=first|assumption|(simp only[dz];first|done|assumption|omega)|omega|apply_rules[Fr.refl,Fr.alloc,Fr.drew]|rfl) only [↓gd,gp,Nat.reduceAdd,Nat.reduceEqDiff, ↓hk20]
  exact hK' _ (hf2.trans' hf3)
end Go.Proofs.YtgloomahpjpiiaaGreat.Or
