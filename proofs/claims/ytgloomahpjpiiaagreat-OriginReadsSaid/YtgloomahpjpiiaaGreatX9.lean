/- The reference's codec: only. The reference's codec: in, goodPin, goodWrites, goodKeys. The reference's codec: Check. The reference's codec: Check. The reference's codec: SameAll; answers that are read. -/
import Derived.Test.YtgloomahpjpiiaaGreatX4
set_option linter.unusedVariables false
set_option linter.unusedSimpArgs false
set_option maxRecDepth 10000
namespace Go.Proofs.YtgloomahpjpiiaaGreat.Or
open Go.VW
def onlyM (m : Msg) : Msg :=
 if m.kind = 1 then { msg0 with kind := m.kind, ses := m.ses, seq := m.seq, wa := m.wa, wl := m.wl, wc := m.wc }
 else if m.kind = 2 then { msg0 with kind := m.kind, ses := m.ses, seq := m.seq, err := m.err, n := m.n }
 else if m.kind = 3 then { msg0 with kind := m.kind, node := m.node, tx := m.tx, seq := m.seq, key := m.key, plo := m.plo, phi := m.phi }
 else if m.kind = 4 then { msg0 with kind := m.kind, tx := m.tx, seq := m.seq, hit := m.hit, vh := if m.hit = true then m.vh else false, vd := if m.hit = true then m.vd else ⟨#[]⟩, plo := if m.hit = true then m.plo else 0, phi := if m.hit = true then m.phi else 0 }
 else if m.kind = 5 then { msg0 with kind := m.kind, tx := m.tx, seq := m.seq, key := m.key, plo := m.plo, phi := m.phi }
 else if m.kind = 6 then { msg0 with kind := m.kind, tx := m.tx, seq := m.seq, err := m.err, vh := if m.err = 0 then m.vh else false, vd := if m.err = 0 then m.vd else ⟨#[]⟩, plo := if m.err = 0 then m.plo else 0, phi := if m.err = 0 then m.phi else 0 }
 else if m.kind = 7 then { msg0 with kind := m.kind, node := m.node, key := m.key, vh := m.vh, vd := m.vd, plo := m.plo, phi := m.phi, n := m.n }
 else if m.kind = 8 then { msg0 with kind := m.kind, node := m.node, n := m.n, ka := m.ka, kl := m.kl, kc := m.kc }
 else if m.kind = 9 then { msg0 with kind := m.kind, node := m.node, n := m.n }
 else if m.kind = 10 then { msg0 with kind := m.kind, node := m.node, inc := m.inc }
 else { msg0 with kind := m.kind, node := m.node, inc := m.inc, n := m.n }
set_option maxHeartbeats 64000000 in
theorem r13only {m : Msg} {w : World} {K : Value → World → Prop} (hk : 1 ≤ m.kind ∧ m.kind ≤ 11) (hK : ∀ w', Fr [] w w' → K (.agg (encMsg (onlyM m)).toArray) w') : CallsN Tryz.prog 61 [.agg (encMsg m).toArray] w K := by
 have cw := cur w
 obtain ⟨kind, node, inc, ses, tx, seq, key, plo, phi, vh, vd, hit, err, n, wa, wl, wc, ka, kl, kc⟩ := m
 simp only at hk
 have hc : kind = 1 ∨ kind = 2 ∨ kind = 3 ∨ kind = 4 ∨ kind = 5 ∨ kind = 6 ∨ kind = 7 ∨ kind = 8 ∨ kind = 9 ∨ kind = 10 ∨ kind = 11 := by omega
 refine call61 ?_
 unfold onlyM msg0 encMsg at *
 by_cases h46 : kind = 4 ∨ kind = 6
 ·rcases h46 with rfl | rfl
  ·cases hit <;> simp only [Int.reduceEq, if_true, if_false, Bool.false_eq_true] at hK <;> simp (maxSteps:=4000000)(disch:=first|assumption|(simp only[dz];first|done|assumption|omega)|omega|apply_rules[Fr.refl,Fr.alloc,Fr.drew]|rfl) only [↓gd,gp,Nat.reduceAdd,Nat.reduceEqDiff, ↓hk61, Int.reduceEq, Int.reduceLE] <;> exact hK _ (by (repeat (first | exact Fr.refl _ _ | assumption | with_reducible apply Fr.alloc | with_reducible apply Fr.drew | with_reducible refine Fr.setB ?_ _ _ (.inr (by first | omega | (simp only [gz]; omega))) | with_reducible refine Fr.setB ?_ _ _ (.inl (by first | assumption | simp)) | with_reducible refine Fr.trans' ?_ (by assumption))))
  ·by_cases he : err = 0
   ·subst he
    simp only [Int.reduceEq, if_true, if_false, Bool.false_eq_true] at hK
    simp (maxSteps:=4000000)(disch:=first|assumption|(simp only[dz];first|done|assumption|omega)|omega|apply_rules[Fr.refl,Fr.alloc,Fr.drew]|rfl) only [↓gd,gp,Nat.reduceAdd,Nat.reduceEqDiff, ↓hk61, Int.reduceEq, Int.reduceLE]
    exact hK _ (by (repeat (first | exact Fr.refl _ _ | assumption | with_reducible apply Fr.alloc | with_reducible apply Fr.drew | with_reducible refine Fr.setB ?_ _ _ (.inr (by first | omega | (simp only [gz]; omega))) | with_reducible refine Fr.setB ?_ _ _ (.inl (by first | assumption | simp)) | with_reducible refine Fr.trans' ?_ (by assumption))))
   ·have de : decide (err = 0) = false := decide_eq_false he
    simp only [Int.reduceEq, he, if_true, if_false, Bool.false_eq_true] at hK
    simp (maxSteps:=4000000)(disch:=first|assumption|(simp only[dz];first|done|assumption|omega)|omega|apply_rules[Fr.refl,Fr.alloc,Fr.drew]|rfl) only [↓gd,gp,Nat.reduceAdd,Nat.reduceEqDiff, ↓hk61, Int.reduceEq, Int.reduceLE, de]
    exact hK _ (by (repeat (first | exact Fr.refl _ _ | assumption | with_reducible apply Fr.alloc | with_reducible apply Fr.drew | with_reducible refine Fr.setB ?_ _ _ (.inr (by first | omega | (simp only [gz]; omega))) | with_reducible refine Fr.setB ?_ _ _ (.inl (by first | assumption | simp)) | with_reducible refine Fr.trans' ?_ (by assumption))))
 ·rcases hc with rfl | rfl | rfl | rfl | rfl | rfl | rfl | rfl | rfl | rfl | rfl <;> first
   | exact absurd (.inl rfl) h46
   | exact absurd (.inr rfl) h46
   | (simp only [Int.reduceEq, if_true, if_false] at hK
      simp (maxSteps:=4000000)(disch:=first|assumption|(simp only[dz];first|done|assumption|omega)|omega|apply_rules[Fr.refl,Fr.alloc,Fr.drew]|rfl) only [↓gd,gp,Nat.reduceAdd,Nat.reduceEqDiff, ↓hk61, Int.reduceEq, Int.reduceLE]
      exact hK _ (by (repeat (first | exact Fr.refl _ _ | assumption | with_reducible apply Fr.alloc | with_reducible apply Fr.drew | with_reducible refine Fr.setB ?_ _ _ (.inr (by first | omega | (simp only [gz]; omega))) | with_reducible refine Fr.setB ?_ _ _ (.inl (by first | assumption | simp)) | with_reducible refine Fr.trans' ?_ (by assumption)))))
end Go.Proofs.YtgloomahpjpiiaaGreat.Or
namespace Go.Proofs.YtgloomahpjpiiaaGreat.Or
open Go.VW
theorem r13in {x lo hi : Int} {w : World} {K : Value → World → Prop} (hK : K (.bool (btw x lo hi)) w) : CallsN Tryz.prog 60 [.int .i64 x, .int .i64 lo, .int .i64 hi] w K := by
 have cw := cur w
 unfold btw at hK
 refine call60 ?_
 cases q0 : decide (lo ≤ x) <;> cases q1 : decide (x ≤ hi) <;> rw [q0, q1] at hK <;> simp (maxSteps:=4000000)(disch:=first|assumption|(simp only[dz];first|done|assumption|omega)|omega|apply_rules[Fr.refl,Fr.alloc,Fr.drew]|rfl) only [↓gd,gp,Nat.reduceAdd,Nat.reduceEqDiff, ↓hk60, q0, q1] <;> exact hK
theorem gKey_eq (k : ByteArray) : St.goodKey k = gKey k := by
 rw [St.goodKey_iff]
 unfold gKey
 cases decide (k = (⟨#[]⟩ : ByteArray)) with
 | true => rfl
 | false =>
   simp only [Bool.not_false, Bool.true_and, Bool.false_or]
   by_cases h : (k.size : Int) ≤ 32
   ·rw [decide_eq_true h, decide_eq_false (by omega)]; rfl
   ·rw [decide_eq_false h, decide_eq_true (by omega)]; rfl
theorem gVal_eq (h : Bool) (d : ByteArray) : St.goodVal h d = gVal h d := by
 unfold St.goodVal gVal
 by_cases q : (d.size : Int) ≤ 256
 ·rw [decide_eq_true q, decide_eq_false (show ¬ (256 : Int) < (d.size : Int) by omega)]
  cases h <;> cases decide (d = (⟨#[]⟩ : ByteArray)) <;> rfl
 ·rw [decide_eq_false q, decide_eq_true (show (256 : Int) < (d.size : Int) by omega)]; rfl
theorem gPin_eq (lo hi : Int) : gPin lo hi = (!decide (lo < 0) && (!decide (1099511627776 < lo) && (!decide (hi ≤ lo) && (decide (hi = 4611686018427387904) || decide (hi ≤ 1099511627777))))) := by
 unfold gPin
 have e1 : decide ((0 : Int) ≤ lo) = !decide (lo < 0) := by
  by_cases h : lo < 0
  ·rw [decide_eq_true h, decide_eq_false (by omega)]; rfl
  ·rw [decide_eq_false h, decide_eq_true (by omega)]; rfl
 have e2 : decide (lo ≤ (1099511627776 : Int)) = !decide (1099511627776 < lo) := by
  by_cases h : 1099511627776 < lo
  ·rw [decide_eq_true h, decide_eq_false (by omega)]; rfl
  ·rw [decide_eq_false h, decide_eq_true (by omega)]; rfl
 have e3 : decide (lo < hi) = !decide (hi ≤ lo) := by
  by_cases h : hi ≤ lo
  ·rw [decide_eq_true h, decide_eq_false (by omega)]; rfl
  ·rw [decide_eq_false h, decide_eq_true (by omega)]; rfl
 rw [e1, e2, e3, Bool.and_assoc, Bool.and_assoc]
set_option maxHeartbeats 4000000 in
theorem r13gPin {lo hi : Int} {w : World} {K : Value → World → Prop} (hK : ∀ w', Fr [] w w' → K (.bool (gPin lo hi)) w') : CallsN Tryz.prog 63 [.agg ([.int .i64 lo, .int .i64 hi] : List Value).toArray] w K := by
 have cw := cur w
 rw [gPin_eq] at hK
 refine call63 ?_
 simp (maxSteps:=4000000)(disch:=first|assumption|(simp only[dz];first|done|assumption|omega)|omega|apply_rules[Fr.refl,Fr.alloc,Fr.drew]|rfl) only [↓gd,gp,Nat.reduceAdd,Nat.reduceEqDiff, ↓hk63]
 generalize hW : World.alloc w _ = w1
 have hf1 : Fr [] w w1 := by rw [← hW]; (repeat (first | exact Fr.refl _ _ | assumption | with_reducible apply Fr.alloc | with_reducible apply Fr.drew | with_reducible refine Fr.setB ?_ _ _ (.inr (by first | omega | (simp only [gz]; omega))) | with_reducible refine Fr.setB ?_ _ _ (.inl (by first | assumption | simp)) | with_reducible refine Fr.trans' ?_ (by assumption)))
 clear hW
 have cw1 := cur w1
 refine call92 ?_
 simp (maxSteps:=4000000)(disch:=first|assumption|(simp only[dz];first|done|assumption|omega)|omega|apply_rules[Fr.refl,Fr.alloc,Fr.drew]|rfl) only [↓gd,gp,Nat.reduceAdd,Nat.reduceEqDiff, ↓hk92]
 generalize hW : World.alloc w1 _ = w2
 have hf2 : Fr [] w1 w2 := by rw [← hW]; (repeat (first | exact Fr.refl _ _ | assumption | with_reducible apply Fr.alloc | with_reducible apply Fr.drew | with_reducible refine Fr.setB ?_ _ _ (.inr (by first | omega | (simp only [gz]; omega))) | with_reducible refine Fr.setB ?_ _ _ (.inl (by first | assumption | simp)) | with_reducible refine Fr.trans' ?_ (by assumption)))
 have g2 : w2.heap[w1.heap.size]? = some (.cells ([.string ⟨#[107]⟩, .bool false, .string ⟨#[]⟩, .int .i64 lo, .int .i64 hi] : List Value).toArray 57 (0, 0)) := by rw [← hW]; exact get_alloc_new _ _
 clear hW
 have cw2 := cur w2
 have k1 : St.goodKey ⟨#[107]⟩ = true := rfl
 have k2 : St.goodVal false ⟨#[]⟩ = true := rfl
 refine St.r5goodKey ?_
 simp (maxSteps:=4000000)(disch:=first|assumption|(simp only[dz];first|done|assumption|omega)|omega|apply_rules[Fr.refl,Fr.alloc,Fr.drew]|rfl) only [↓gd,gp,Nat.reduceAdd,Nat.reduceEqDiff, ↓hk92, k1, g2]
 refine St.r5goodVal fun w3 hf3 => ?_
 have cw3 := cur w3
 have g3 := hf3.getN g2
 have hK' := hK _ ((hf1.trans' hf2).trans' hf3)
 cases q0 : decide (lo < 0) <;> cases q1 : decide (1099511627776 < lo) <;> cases q2 : decide (hi ≤ lo) <;> cases q3 : decide (hi = 4611686018427387904) <;> cases q4 : decide (hi ≤ 1099511627777) <;>
  simp only [q0, q1, q2, q3, q4, Bool.not_true, Bool.not_false, Bool.true_and, Bool.false_and, Bool.and_true, Bool.and_false, Bool.true_or, Bool.false_or, Bool.or_true] at hK' <;>
  simp (maxSteps:=4000000)(disch:=first|assumption|(simp only[dz];first|done|assumption|omega)|omega|apply_rules[Fr.refl,Fr.alloc,Fr.drew]|rfl) only [↓gd,gp,Nat.reduceAdd,Nat.reduceEqDiff, ↓hk92, ↓hk63, k2, g3, q0, q1, q2, q3, q4] <;> exact hK'
set_option maxHeartbeats 8000000 in
theorem r13gWrites {w : World} {v : Value} {ws : List St.Wr} {K : Value → World → Prop} (h : SlOf 3 St.encWr w v ws) (hl : ws.length ≤ 9223372036854775807)
  (hK : ∀ w', Fr [] w w' → K (.bool (btw ws.length 1 8 && !ws.any badW)) w') : CallsN Tryz.prog 62 [v] w K := by
 have cw := cur w
 obtain ⟨va, vc, hv⟩ := h.form
 refine call62 ?_
 simp (maxSteps:=4000000)(disch:=first|assumption|(simp only[dz];first|done|assumption|omega)|omega|apply_rules[Fr.refl,Fr.alloc,Fr.drew]|rfl) only [↓gd,gp,Nat.reduceAdd,Nat.reduceEqDiff, ↓hk62]
 refine for_intro ws.length 3 0 (fun i e w' => e 0 = v ∧ (ws.take i).any badW = false ∧ Fr [] w w') ?_ (Nat.zero_le _) ?_ ?_
 ·simp (maxSteps:=4000000)(disch:=first|assumption|(simp only[dz];first|done|assumption|omega)|omega|apply_rules[Fr.refl,Fr.alloc,Fr.drew]|rfl) only [↓gsd,gs,gv,Nat.reduceAdd,Nat.reduceEqDiff]; rfl
 ·simp (maxSteps:=4000000)(disch:=first|assumption|(simp only[dz];first|done|assumption|omega)|omega|apply_rules[Fr.refl,Fr.alloc,Fr.drew]|rfl) only [↓gsd,gs,gv,Nat.reduceAdd,Nat.reduceEqDiff]
  exact ⟨rfl, Fr.refl _ _⟩
 rintro i e w1 kk hi e3 ⟨e0, hno, hf⟩ hk
 have cw1 := cur w1
 by_cases hil : i < ws.length
 ·have d : decide ((i : Int) < (ws.length : Int)) = true := decide_eq_true (by omega)
  obtain ⟨y, hy⟩ : ∃ y, ws[i]? = some y := ⟨ws[i], List.getElem?_eq_getElem hil⟩
  obtain ⟨bb, off, cap, ob, hv1, hob, hbl, hk1, hk2, _⟩ := St.SlOf.wval (h.frN hf) hy
  have i0 : (0 : Int) ≤ (i : Int) := by omega
  have i1 : (i : Int) < (ws.length : Int) := by omega
  have wr : IntKind.i64.wrap ((i : Int) + 1) = (i : Int) + 1 := wrap64 (by omega) (by omega)
  simp (maxSteps:=4000000)(disch:=first|assumption|(simp only[dz];first|done|assumption|omega)|omega|apply_rules[Fr.refl,Fr.alloc,Fr.drew]|rfl) only [↓gd,gp,Nat.reduceAdd,Nat.reduceEqDiff, ↓hk62, e0, e3, hv1, d, i0, i1, Int.toNat_natCast, hob, hk1, hk2]
  refine St.r5goodKey ?_
  cases q1 : gKey y.key with
  | false =>
    have hb : badW y = true := by unfold badW; rw [q1]; rfl
    rw [any_of_get hy hb] at hK
    simp (maxSteps:=4000000)(disch:=first|assumption|(simp only[dz];first|done|assumption|omega)|omega|apply_rules[Fr.refl,Fr.alloc,Fr.drew]|rfl) only [↓gd,gp,Nat.reduceAdd,Nat.reduceEqDiff, ↓hk62, gKey_eq, q1, Bool.not_true, Bool.and_false] at hK ⊢
    exact hK _ hf
  | true =>
    simp (maxSteps:=4000000)(disch:=first|assumption|(simp only[dz];first|done|assumption|omega)|omega|apply_rules[Fr.refl,Fr.alloc,Fr.drew]|rfl) only [↓gd,gp,Nat.reduceAdd,Nat.reduceEqDiff, ↓hk62, gKey_eq, q1, e0, e3, hv1, d, i0, i1, Int.toNat_natCast, hob, hk1, hk2]
    refine St.r5goodVal fun w2 hf2 => ?_
    have cw2 := cur w2
    cases q2 : gVal y.has y.data with
    | false =>
      have hb : badW y = true := by unfold badW; rw [q1, q2]; rfl
      rw [any_of_get hy hb] at hK
      simp (maxSteps:=4000000)(disch:=first|assumption|(simp only[dz];first|done|assumption|omega)|omega|apply_rules[Fr.refl,Fr.alloc,Fr.drew]|rfl) only [↓gd,gp,Nat.reduceAdd,Nat.reduceEqDiff, ↓hk62, gVal_eq, q2, Bool.not_true, Bool.and_false] at hK ⊢
      exact hK _ (hf.trans' hf2)
    | true =>
      have hb : badW y = false := by unfold badW; rw [q1, q2]; rfl
      simp (maxSteps:=4000000)(disch:=first|assumption|(simp only[dz];first|done|assumption|omega)|omega|apply_rules[Fr.refl,Fr.alloc,Fr.drew]|rfl) only [↓gd,gp,Nat.reduceAdd,Nat.reduceEqDiff, ↓hk62, gVal_eq, q2, e0, e3, wr]
      refine hk _ _ hil rfl ?_
      simp (maxSteps:=4000000)(disch:=first|assumption|(simp only[dz];first|done|assumption|omega)|omega|apply_rules[Fr.refl,Fr.alloc,Fr.drew]|rfl) only [↓gsd,gs,gv,Nat.reduceAdd,Nat.reduceEqDiff, e0, hv1]
      exact ⟨any_take_snoc hy hno hb, hf.trans' hf2⟩
 ·have d : decide ((i : Int) < (ws.length : Int)) = false := decide_eq_false (by omega)
  rw [List.take_of_length_le (by omega)] at hno
  simp (maxSteps:=4000000)(disch:=first|assumption|(simp only[dz];first|done|assumption|omega)|omega|apply_rules[Fr.refl,Fr.alloc,Fr.drew]|rfl) only [↓gd,gp,Nat.reduceAdd,Nat.reduceEqDiff, ↓hk62, e0, e3, hv, d]
  refine r13in ?_
  rw [hno] at hK
  simp only [Bool.not_false, Bool.and_true] at hK
  try simp (maxSteps:=4000000)(disch:=first|assumption|(simp only[dz];first|done|assumption|omega)|omega|apply_rules[Fr.refl,Fr.alloc,Fr.drew]|rfl) only [↓gd,gp,Nat.reduceAdd,Nat.reduceEqDiff, ↓hk62]
  exact hK _ hf
set_option maxHeartbeats 8000000 in
theorem r13gKeys {w : World} {v : Value} {ks : List ByteArray} {K : Value → World → Prop} (h : SlOf 1 Sm.encS w v ks) (hl : ks.length ≤ 9223372036854775807)
  (hK : ∀ w', Fr [] w w' → K (.bool (btw ks.length 1 8 && !ks.any (fun k => !gKey k))) w') : CallsN Tryz.prog 65 [v] w K := by
 have cw := cur w
 obtain ⟨va, vc, hv⟩ := h.form
 refine call65 ?_
 simp (maxSteps:=4000000)(disch:=first|assumption|(simp only[dz];first|done|assumption|omega)|omega|apply_rules[Fr.refl,Fr.alloc,Fr.drew]|rfl) only [↓gd,gp,Nat.reduceAdd,Nat.reduceEqDiff, ↓hk65]
 refine for_intro ks.length 3 0 (fun i e w' => e 0 = v ∧ (ks.take i).any (fun k => !gKey k) = false ∧ Fr [] w w') ?_ (Nat.zero_le _) ?_ ?_
 ·simp (maxSteps:=4000000)(disch:=first|assumption|(simp only[dz];first|done|assumption|omega)|omega|apply_rules[Fr.refl,Fr.alloc,Fr.drew]|rfl) only [↓gsd,gs,gv,Nat.reduceAdd,Nat.reduceEqDiff]; rfl
 ·simp (maxSteps:=4000000)(disch:=first|assumption|(simp only[dz];first|done|assumption|omega)|omega|apply_rules[Fr.refl,Fr.alloc,Fr.drew]|rfl) only [↓gsd,gs,gv,Nat.reduceAdd,Nat.reduceEqDiff]
  exact ⟨rfl, Fr.refl _ _⟩
 rintro i e w1 kk hi e3 ⟨e0, hno, hf⟩ hk
 have cw1 := cur w1
 by_cases hil : i < ks.length
 ·have d : decide ((i : Int) < (ks.length : Int)) = true := decide_eq_true (by omega)
  obtain ⟨y, hy⟩ : ∃ y, ks[i]? = some y := ⟨ks[i], List.getElem?_eq_getElem hil⟩
  obtain ⟨bb, off, cap, ob, hv1, hob, _, _, hcell⟩ := (h.frN hf).read Sm.encS_len i y hy
  have hc0 := fun orig K => hcell 0 (.string y) orig K rfl
  simp only [Nat.add_zero, Nat.mul_one] at hc0
  have i0 : (0 : Int) ≤ (i : Int) := by omega
  have i1 : (i : Int) < (ks.length : Int) := by omega
  have wr : IntKind.i64.wrap ((i : Int) + 1) = (i : Int) + 1 := wrap64 (by omega) (by omega)
  simp (maxSteps:=4000000)(disch:=first|assumption|(simp only[dz];first|done|assumption|omega)|omega|apply_rules[Fr.refl,Fr.alloc,Fr.drew]|rfl) only [↓gd,gp,Nat.reduceAdd,Nat.reduceEqDiff, ↓hk65, e0, e3, hv1, d, i0, i1, Int.toNat_natCast, Nat.mul_one, hob, hc0]
  refine St.r5goodKey ?_
  cases q1 : gKey y with
  | false =>
    rw [any_of_get hy (by rw [q1]; rfl)] at hK
    simp (maxSteps:=4000000)(disch:=first|assumption|(simp only[dz];first|done|assumption|omega)|omega|apply_rules[Fr.refl,Fr.alloc,Fr.drew]|rfl) only [↓gd,gp,Nat.reduceAdd,Nat.reduceEqDiff, ↓hk65, gKey_eq, q1, Bool.not_true, Bool.and_false] at hK ⊢
    exact hK _ hf
  | true =>
    simp (maxSteps:=4000000)(disch:=first|assumption|(simp only[dz];first|done|assumption|omega)|omega|apply_rules[Fr.refl,Fr.alloc,Fr.drew]|rfl) only [↓gd,gp,Nat.reduceAdd,Nat.reduceEqDiff, ↓hk65, gKey_eq, q1, e0, e3, wr]
    refine hk _ _ hil rfl ?_
    simp (maxSteps:=4000000)(disch:=first|assumption|(simp only[dz];first|done|assumption|omega)|omega|apply_rules[Fr.refl,Fr.alloc,Fr.drew]|rfl) only [↓gsd,gs,gv,Nat.reduceAdd,Nat.reduceEqDiff, e0, hv1]
    exact ⟨any_take_snoc hy hno (by rw [q1]; rfl), hf⟩
 ·have d : decide ((i : Int) < (ks.length : Int)) = false := decide_eq_false (by omega)
  rw [List.take_of_length_le (by omega)] at hno
  simp (maxSteps:=4000000)(disch:=first|assumption|(simp only[dz];first|done|assumption|omega)|omega|apply_rules[Fr.refl,Fr.alloc,Fr.drew]|rfl) only [↓gd,gp,Nat.reduceAdd,Nat.reduceEqDiff, ↓hk65, e0, e3, hv, d]
  refine r13in ?_
  rw [hno] at hK
  simp only [Bool.not_false, Bool.and_true] at hK
  try simp (maxSteps:=4000000)(disch:=first|assumption|(simp only[dz];first|done|assumption|omega)|omega|apply_rules[Fr.refl,Fr.alloc,Fr.drew]|rfl) only [↓gd,gp,Nat.reduceAdd,Nat.reduceEqDiff, ↓hk65]
  exact hK _ hf
end Go.Proofs.YtgloomahpjpiiaaGreat.Or
namespace Go.Proofs.YtgloomahpjpiiaaGreat.Or
open Go.VW
theorem kinds {k : Int} (h : 1 ≤ k ∧ k ≤ 11) : k = 1 ∨ k = 2 ∨ k = 3 ∨ k = 4 ∨ k = 5 ∨ k = 6 ∨ k = 7 ∨ k = 8 ∨ k = 9 ∨ k = 10 ∨ k = 11 := by omega
theorem same_only {m : Msg} (hk : 1 ≤ m.kind ∧ m.kind ≤ 11) : hdB m (onlyM m) = zB (blankM m) := by
 obtain ⟨kind, node, inc, ses, tx, seq, key, plo, phi, vh, vd, hit, err, n, wa, wl, wc, ka, kl, kc⟩ := m
 simp only at hk
 rcases kinds hk with rfl | rfl | rfl | rfl | rfl | rfl | rfl | rfl | rfl | rfl | rfl
 all_goals first
  | (cases hit <;> simp [hdB, onlyM, zB, blankM, msg0]; done)
  | (cases hit <;> by_cases he : err = 0 <;> simp [hdB, onlyM, zB, blankM, msg0, he]; done)
def fullR (m : Msg) : Bool := (decide (m.kind = 4) && m.hit) || (decide (m.kind = 6) && decide (m.err = 0))
def kindB (m : Msg) (ws : List St.Wr) (ks : List ByteArray) : Bool :=
 if m.kind = 1 then btw ws.length 1 8 && !ws.any badW
 else if m.kind = 3 ∨ m.kind = 5 then gKey m.key && gPin m.plo m.phi
 else if m.kind = 4 ∨ m.kind = 6 then !fullR m || (gVal m.vh m.vd && gPin m.plo m.phi)
 else if m.kind = 7 then gKey m.key && (gVal m.vh m.vd && gPin m.plo m.phi)
 else if m.kind = 8 then decide (1 ≤ m.n) && (btw ks.length 1 8 && !ks.any (fun k => !gKey k))
 else if m.kind = 9 then decide (1 ≤ m.n)
 else if m.kind = 10 ∨ m.kind = 11 then btw m.inc 1 2147483647
 else true
set_option maxHeartbeats 64000000 in
theorem ctail2 {m : Msg} {ws : List St.Wr} {ks : List ByteArray} {w : World} {mb : Nat} {ok : Bool} {e : Env} {K : Value → World → Prop} (hk : 1 ≤ m.kind ∧ m.kind ≤ 11) (hm : MsgAt w m ws ks) (g : w.heap[mb]? = some (.cells (encMsg m).toArray 40 (0, 0)))
  (e1 : e 1 = .pointer (some ⟨mb, 0, none⟩)) (e3 : e 3 = .int .i64 2147483647) (e4 : e 4 = .bool ok) (hK : ∀ w', Fr [] w w' → K (.int .i64 (if (ok && kindB m ws ks) = true then 0 else 1)) w') :
  W3 Tryz.prog 158 V34 c34_5 (retQ Tryz.prog [ResultVar.tmp 2] K) e w := by
 have cw := cur w
 have hwl := hm.wl
 have hkl := hm.kl
 have hdw := hm.dw
 have hdk := hm.dk
 have hlw := hm.wlen
 have hlk := hm.klen
 obtain ⟨kind, node, inc, ses, tx, seq, key, plo, phi, vh, vd, hit, err, n, wa, wl, wc, ka, kl, kc⟩ := m
 simp only at hk
 unfold encMsg at g
 unfold kindB fullR at hK
 simp only [Msg.wv, Msg.kv] at hdw hdk hlw hlk
 cases ok with
 | false =>
   simp only [Bool.false_and, Bool.false_eq_true, if_false] at hK
   rcases kinds hk with rfl | rfl | rfl | rfl | rfl | rfl | rfl | rfl | rfl | rfl | rfl
   all_goals first
    | (simp (maxSteps:=4000000)(disch:=first|assumption|(simp only[dz];first|done|assumption|omega)|omega|apply_rules[Fr.refl,Fr.alloc,Fr.drew]|rfl) only [↓gd,gp,Nat.reduceAdd,Nat.reduceEqDiff, ↓hk34, e1, e3, e4, g, Int.reduceEq, Int.reduceLE]; exact hK _ (Fr.refl _ _))
    | (cases hit <;> simp (maxSteps:=4000000)(disch:=first|assumption|(simp only[dz];first|done|assumption|omega)|omega|apply_rules[Fr.refl,Fr.alloc,Fr.drew]|rfl) only [↓gd,gp,Nat.reduceAdd,Nat.reduceEqDiff, ↓hk34, e1, e3, e4, g, Int.reduceEq, Int.reduceLE] <;> exact hK _ (Fr.refl _ _))
    | (cases de : decide (err = 0) <;> simp (maxSteps:=4000000)(disch:=first|assumption|(simp only[dz];first|done|assumption|omega)|omega|apply_rules[Fr.refl,Fr.alloc,Fr.drew]|rfl) only [↓gd,gp,Nat.reduceAdd,Nat.reduceEqDiff, ↓hk34, e1, e3, e4, g, Int.reduceEq, Int.reduceLE, de] <;> exact hK _ (Fr.refl _ _))
 | true =>
   simp only [Bool.true_and] at hK
   rcases kinds hk with rfl | rfl | rfl | rfl | rfl | rfl | rfl | rfl | rfl | rfl | rfl
   ·simp only [Int.reduceEq, if_true, if_false] at hK
    simp (maxSteps:=4000000)(disch:=first|assumption|(simp only[dz];first|done|assumption|omega)|omega|apply_rules[Fr.refl,Fr.alloc,Fr.drew]|rfl) only [↓gd,gp,Nat.reduceAdd,Nat.reduceEqDiff, ↓hk34, e1, e3, e4, g, Int.reduceEq, Int.reduceLE]
    refine r13gWrites hdw hwl fun w2 hf2 => ?_
    have cw2 := cur w2
    have h2 := hK _ hf2
    cases q : (btw ws.length 1 8 && !ws.any badW) <;> rw [q] at h2 <;> simp only [Bool.false_eq_true, if_true, if_false] at h2 <;> simp (maxSteps:=4000000)(disch:=first|assumption|(simp only[dz];first|done|assumption|omega)|omega|apply_rules[Fr.refl,Fr.alloc,Fr.drew]|rfl) only [↓gd,gp,Nat.reduceAdd,Nat.reduceEqDiff, ↓hk34, q] <;> exact h2
   ·simp only [Int.reduceEq, if_true, if_false, or_self] at hK
    simp (maxSteps:=4000000)(disch:=first|assumption|(simp only[dz];first|done|assumption|omega)|omega|apply_rules[Fr.refl,Fr.alloc,Fr.drew]|rfl) only [↓gd,gp,Nat.reduceAdd,Nat.reduceEqDiff, ↓hk34, e1, e3, e4, g, Int.reduceEq, Int.reduceLE]
    exact hK _ (Fr.refl _ _)
   ·simp only [Int.reduceEq, if_true, if_false, or_self, or_true, true_or, or_false, false_or, decide_true, decide_false, Bool.true_and, Bool.false_and, Bool.or_false, Bool.false_or, Bool.not_false, Bool.not_true, Bool.true_or] at hK
    simp (maxSteps:=4000000)(disch:=first|assumption|(simp only[dz];first|done|assumption|omega)|omega|apply_rules[Fr.refl,Fr.alloc,Fr.drew]|rfl) only [↓gd,gp,Nat.reduceAdd,Nat.reduceEqDiff, ↓hk34, e1, e3, e4, g, Int.reduceEq, Int.reduceLE]
    refine St.r5goodKey ?_
    cases q1 : gKey key with
    | false =>
      rw [q1] at hK
      simp only [bOO] at hK
      simp (maxSteps:=4000000)(disch:=first|assumption|(simp only[dz];first|done|assumption|omega)|omega|apply_rules[Fr.refl,Fr.alloc,Fr.drew]|rfl) only [↓gd,gp,Nat.reduceAdd,Nat.reduceEqDiff, ↓hk34, e1, e3, e4, g, Int.reduceEq, Int.reduceLE, gKey_eq, q1]
      exact hK _ (Fr.refl _ _)
    | true =>
      rw [q1] at hK
      simp only [bOO] at hK
      simp (maxSteps:=4000000)(disch:=first|assumption|(simp only[dz];first|done|assumption|omega)|omega|apply_rules[Fr.refl,Fr.alloc,Fr.drew]|rfl) only [↓gd,gp,Nat.reduceAdd,Nat.reduceEqDiff, ↓hk34, e1, e3, e4, g, Int.reduceEq, Int.reduceLE, gKey_eq, q1]
      refine r13gPin fun w3 hf3 => ?_
      have cw3 := cur w3
      have h3 := hK _ (hf3)
      cases q3 : gPin plo phi <;> rw [q3] at h3 <;> simp only [Bool.false_eq_true, if_true, if_false] at h3 <;> simp (maxSteps:=4000000)(disch:=first|assumption|(simp only[dz];first|done|assumption|omega)|omega|apply_rules[Fr.refl,Fr.alloc,Fr.drew]|rfl) only [↓gd,gp,Nat.reduceAdd,Nat.reduceEqDiff, ↓hk34, q3] <;> exact h3
   ·simp only [Int.reduceEq, if_true, if_false, or_self, or_true, true_or, or_false, false_or, decide_true, decide_false, Bool.true_and, Bool.false_and, Bool.or_false, Bool.false_or] at hK
    cases hit with
    | false =>
      simp only [Bool.not_false, Bool.true_or, if_true] at hK
      simp (maxSteps:=4000000)(disch:=first|assumption|(simp only[dz];first|done|assumption|omega)|omega|apply_rules[Fr.refl,Fr.alloc,Fr.drew]|rfl) only [↓gd,gp,Nat.reduceAdd,Nat.reduceEqDiff, ↓hk34, e1, e3, e4, g, Int.reduceEq, Int.reduceLE]
      exact hK _ (Fr.refl _ _)
    | true =>
      simp only [Bool.not_true, Bool.false_or] at hK
      simp (maxSteps:=4000000)(disch:=first|assumption|(simp only[dz];first|done|assumption|omega)|omega|apply_rules[Fr.refl,Fr.alloc,Fr.drew]|rfl) only [↓gd,gp,Nat.reduceAdd,Nat.reduceEqDiff, ↓hk34, e1, e3, e4, g, Int.reduceEq, Int.reduceLE]
      refine St.r5goodVal fun w2 hf2 => ?_
      have cw2 := cur w2
      have g2 := hf2.getN g
      cases q2 : gVal vh vd with
      | false =>
        rw [q2] at hK
        simp only [bOO] at hK
        simp (maxSteps:=4000000)(disch:=first|assumption|(simp only[dz];first|done|assumption|omega)|omega|apply_rules[Fr.refl,Fr.alloc,Fr.drew]|rfl) only [↓gd,gp,Nat.reduceAdd,Nat.reduceEqDiff, ↓hk34, e1, e3, e4, g, Int.reduceEq, Int.reduceLE, g2, gVal_eq, q2]
        exact hK _ hf2
      | true =>
        rw [q2] at hK
        simp only [bOO] at hK
        simp (maxSteps:=4000000)(disch:=first|assumption|(simp only[dz];first|done|assumption|omega)|omega|apply_rules[Fr.refl,Fr.alloc,Fr.drew]|rfl) only [↓gd,gp,Nat.reduceAdd,Nat.reduceEqDiff, ↓hk34, e1, e3, e4, g, Int.reduceEq, Int.reduceLE, g2, gVal_eq, q2]
        refine r13gPin fun w3 hf3 => ?_
        have cw3 := cur w3
        have h3 := hK _ (hf2.trans' hf3)
        cases q3 : gPin plo phi <;> rw [q3] at h3 <;> simp only [Bool.false_eq_true, if_true, if_false] at h3 <;> simp (maxSteps:=4000000)(disch:=first|assumption|(simp only[dz];first|done|assumption|omega)|omega|apply_rules[Fr.refl,Fr.alloc,Fr.drew]|rfl) only [↓gd,gp,Nat.reduceAdd,Nat.reduceEqDiff, ↓hk34, q3] <;> exact h3
   ·simp only [Int.reduceEq, if_true, if_false, or_self, or_true, true_or, or_false, false_or, decide_true, decide_false, Bool.true_and, Bool.false_and, Bool.or_false, Bool.false_or, Bool.not_false, Bool.not_true, Bool.true_or] at hK
    simp (maxSteps:=4000000)(disch:=first|assumption|(simp only[dz];first|done|assumption|omega)|omega|apply_rules[Fr.refl,Fr.alloc,Fr.drew]|rfl) only [↓gd,gp,Nat.reduceAdd,Nat.reduceEqDiff, ↓hk34, e1, e3, e4, g, Int.reduceEq, Int.reduceLE]
    refine St.r5goodKey ?_
    cases q1 : gKey key with
    | false =>
      rw [q1] at hK
      simp only [bOO] at hK
      simp (maxSteps:=4000000)(disch:=first|assumption|(simp only[dz];first|done|assumption|omega)|omega|apply_rules[Fr.refl,Fr.alloc,Fr.drew]|rfl) only [↓gd,gp,Nat.reduceAdd,Nat.reduceEqDiff, ↓hk34, e1, e3, e4, g, Int.reduceEq, Int.reduceLE, gKey_eq, q1]
      exact hK _ (Fr.refl _ _)
    | true =>
      rw [q1] at hK
      simp only [bOO] at hK
      simp (maxSteps:=4000000)(disch:=first|assumption|(simp only[dz];first|done|assumption|omega)|omega|apply_rules[Fr.refl,Fr.alloc,Fr.drew]|rfl) only [↓gd,gp,Nat.reduceAdd,Nat.reduceEqDiff, ↓hk34, e1, e3, e4, g, Int.reduceEq, Int.reduceLE, gKey_eq, q1]
      refine r13gPin fun w3 hf3 => ?_
      have cw3 := cur w3
      have h3 := hK _ (hf3)
      cases q3 : gPin plo phi <;> rw [q3] at h3 <;> simp only [Bool.false_eq_true, if_true, if_false] at h3 <;> simp (maxSteps:=4000000)(disch:=first|assumption|(simp only[dz];first|done|assumption|omega)|omega|apply_rules[Fr.refl,Fr.alloc,Fr.drew]|rfl) only [↓gd,gp,Nat.reduceAdd,Nat.reduceEqDiff, ↓hk34, q3] <;> exact h3
   ·simp only [Int.reduceEq, if_true, if_false, or_self, or_true, true_or, or_false, false_or, decide_true, decide_false, Bool.true_and, Bool.false_and, Bool.or_false, Bool.false_or] at hK
    cases de : decide (err = 0) with
    | false =>
      rw [de] at hK
      simp only [Bool.not_false, Bool.true_or, if_true] at hK
      simp (maxSteps:=4000000)(disch:=first|assumption|(simp only[dz];first|done|assumption|omega)|omega|apply_rules[Fr.refl,Fr.alloc,Fr.drew]|rfl) only [↓gd,gp,Nat.reduceAdd,Nat.reduceEqDiff, ↓hk34, e1, e3, e4, g, Int.reduceEq, Int.reduceLE, de]
      exact hK _ (Fr.refl _ _)
    | true =>
      rw [de] at hK
      simp only [Bool.not_true, Bool.false_or] at hK
      simp (maxSteps:=4000000)(disch:=first|assumption|(simp only[dz];first|done|assumption|omega)|omega|apply_rules[Fr.refl,Fr.alloc,Fr.drew]|rfl) only [↓gd,gp,Nat.reduceAdd,Nat.reduceEqDiff, ↓hk34, e1, e3, e4, g, Int.reduceEq, Int.reduceLE, de]
      refine St.r5goodVal fun w2 hf2 => ?_
      have cw2 := cur w2
      have g2 := hf2.getN g
      cases q2 : gVal vh vd with
      | false =>
        rw [q2] at hK
        simp only [bOO] at hK
        simp (maxSteps:=4000000)(disch:=first|assumption|(simp only[dz];first|done|assumption|omega)|omega|apply_rules[Fr.refl,Fr.alloc,Fr.drew]|rfl) only [↓gd,gp,Nat.reduceAdd,Nat.reduceEqDiff, ↓hk34, e1, e3, e4, g, Int.reduceEq, Int.reduceLE, g2, gVal_eq, q2]
        exact hK _ hf2
      | true =>
        rw [q2] at hK
        simp only [bOO] at hK
        simp (maxSteps:=4000000)(disch:=first|assumption|(simp only[dz];first|done|assumption|omega)|omega|apply_rules[Fr.refl,Fr.alloc,Fr.drew]|rfl) only [↓gd,gp,Nat.reduceAdd,Nat.reduceEqDiff, ↓hk34, e1, e3, e4, g, Int.reduceEq, Int.reduceLE, g2, gVal_eq, q2]
        refine r13gPin fun w3 hf3 => ?_
        have cw3 := cur w3
        have h3 := hK _ (hf2.trans' hf3)
        cases q3 : gPin plo phi <;> rw [q3] at h3 <;> simp only [Bool.false_eq_true, if_true, if_false] at h3 <;> simp (maxSteps:=4000000)(disch:=first|assumption|(simp only[dz];first|done|assumption|omega)|omega|apply_rules[Fr.refl,Fr.alloc,Fr.drew]|rfl) only [↓gd,gp,Nat.reduceAdd,Nat.reduceEqDiff, ↓hk34, q3] <;> exact h3
   ·simp only [Int.reduceEq, if_true, if_false, or_self, or_true, true_or, or_false, false_or, decide_true, decide_false, Bool.true_and, Bool.false_and, Bool.or_false, Bool.false_or, Bool.not_false, Bool.not_true, Bool.true_or] at hK
    simp (maxSteps:=4000000)(disch:=first|assumption|(simp only[dz];first|done|assumption|omega)|omega|apply_rules[Fr.refl,Fr.alloc,Fr.drew]|rfl) only [↓gd,gp,Nat.reduceAdd,Nat.reduceEqDiff, ↓hk34, e1, e3, e4, g, Int.reduceEq, Int.reduceLE]
    refine St.r5goodKey ?_
    cases q1 : gKey key with
    | false =>
      rw [q1] at hK
      simp only [bOO] at hK
      simp (maxSteps:=4000000)(disch:=first|assumption|(simp only[dz];first|done|assumption|omega)|omega|apply_rules[Fr.refl,Fr.alloc,Fr.drew]|rfl) only [↓gd,gp,Nat.reduceAdd,Nat.reduceEqDiff, ↓hk34, e1, e3, e4, g, Int.reduceEq, Int.reduceLE, gKey_eq, q1]
      exact hK _ (Fr.refl _ _)
    | true =>
      rw [q1] at hK
      simp only [bOO] at hK
      simp (maxSteps:=4000000)(disch:=first|assumption|(simp only[dz];first|done|assumption|omega)|omega|apply_rules[Fr.refl,Fr.alloc,Fr.drew]|rfl) only [↓gd,gp,Nat.reduceAdd,Nat.reduceEqDiff, ↓hk34, e1, e3, e4, g, Int.reduceEq, Int.reduceLE, gKey_eq, q1]
      refine St.r5goodVal fun w2 hf2 => ?_
      have cw2 := cur w2
      have g2 := hf2.getN g
      cases q2 : gVal vh vd with
      | false =>
        rw [q2] at hK
        simp only [bOO] at hK
        simp (maxSteps:=4000000)(disch:=first|assumption|(simp only[dz];first|done|assumption|omega)|omega|apply_rules[Fr.refl,Fr.alloc,Fr.drew]|rfl) only [↓gd,gp,Nat.reduceAdd,Nat.reduceEqDiff, ↓hk34, e1, e3, e4, g, Int.reduceEq, Int.reduceLE, g2, gVal_eq, q2]
        exact hK _ hf2
      | true =>
        rw [q2] at hK
        simp only [bOO] at hK
        simp (maxSteps:=4000000)(disch:=first|assumption|(simp only[dz];first|done|assumption|omega)|omega|apply_rules[Fr.refl,Fr.alloc,Fr.drew]|rfl) only [↓gd,gp,Nat.reduceAdd,Nat.reduceEqDiff, ↓hk34, e1, e3, e4, g, Int.reduceEq, Int.reduceLE, g2, gVal_eq, q2]
        refine r13gPin fun w3 hf3 => ?_
        have cw3 := cur w3
        have h3 := hK _ (hf2.trans' hf3)
        cases q3 : gPin plo phi <;> rw [q3] at h3 <;> simp only [Bool.false_eq_true, if_true, if_false] at h3 <;> simp (maxSteps:=4000000)(disch:=first|assumption|(simp only[dz];first|done|assumption|omega)|omega|apply_rules[Fr.refl,Fr.alloc,Fr.drew]|rfl) only [↓gd,gp,Nat.reduceAdd,Nat.reduceEqDiff, ↓hk34, q3] <;> exact h3
   ·simp only [Int.reduceEq, if_true, if_false, or_self, or_true, true_or, or_false, false_or, decide_true, decide_false, Bool.true_and, Bool.false_and, Bool.or_false, Bool.false_or, Bool.not_false, Bool.not_true, Bool.true_or] at hK
    cases q1 : decide (1 ≤ n) with
    | false =>
      rw [q1] at hK
      simp only [bOO] at hK
      simp (maxSteps:=4000000)(disch:=first|assumption|(simp only[dz];first|done|assumption|omega)|omega|apply_rules[Fr.refl,Fr.alloc,Fr.drew]|rfl) only [↓gd,gp,Nat.reduceAdd,Nat.reduceEqDiff, ↓hk34, e1, e3, e4, g, Int.reduceEq, Int.reduceLE, q1]
      exact hK _ (Fr.refl _ _)
    | true =>
      rw [q1] at hK
      simp only [bOO] at hK
      simp (maxSteps:=4000000)(disch:=first|assumption|(simp only[dz];first|done|assumption|omega)|omega|apply_rules[Fr.refl,Fr.alloc,Fr.drew]|rfl) only [↓gd,gp,Nat.reduceAdd,Nat.reduceEqDiff, ↓hk34, e1, e3, e4, g, Int.reduceEq, Int.reduceLE, q1]
      refine r13gKeys hdk hkl fun w2 hf2 => ?_
      have cw2 := cur w2
      have h2 := hK _ hf2
      cases q : (btw ks.length 1 8 && !ks.any (fun k => !gKey k)) <;> rw [q] at h2 <;> simp only [Bool.false_eq_true, if_true, if_false] at h2 <;> simp (maxSteps:=4000000)(disch:=first|assumption|(simp only[dz];first|done|assumption|omega)|omega|apply_rules[Fr.refl,Fr.alloc,Fr.drew]|rfl) only [↓gd,gp,Nat.reduceAdd,Nat.reduceEqDiff, ↓hk34, q] <;> exact h2
   ·simp only [Int.reduceEq, if_true, if_false, or_self, or_true, true_or, or_false, false_or, decide_true, decide_false, Bool.true_and, Bool.false_and, Bool.or_false, Bool.false_or, Bool.not_false, Bool.not_true, Bool.true_or] at hK
    have h2 := hK _ (Fr.refl _ _)
    cases q1 : decide (1 ≤ n) <;> rw [q1] at h2 <;> simp only [Bool.false_eq_true, if_true, if_false] at h2 <;> simp (maxSteps:=4000000)(disch:=first|assumption|(simp only[dz];first|done|assumption|omega)|omega|apply_rules[Fr.refl,Fr.alloc,Fr.drew]|rfl) only [↓gd,gp,Nat.reduceAdd,Nat.reduceEqDiff, ↓hk34, e1, e3, e4, g, Int.reduceEq, Int.reduceLE, q1] <;> exact h2
   ·simp only [Int.reduceEq, if_true, if_false, or_self, or_true, true_or, or_false, false_or, decide_true, decide_false, Bool.true_and, Bool.false_and, Bool.or_false, Bool.false_or, Bool.not_false, Bool.not_true, Bool.true_or] at hK
    simp (maxSteps:=4000000)(disch:=first|assumption|(simp only[dz];first|done|assumption|omega)|omega|apply_rules[Fr.refl,Fr.alloc,Fr.drew]|rfl) only [↓gd,gp,Nat.reduceAdd,Nat.reduceEqDiff, ↓hk34, e1, e3, e4, g, Int.reduceEq, Int.reduceLE]
    refine r13in ?_
    have h2 := hK _ (Fr.refl _ _)
    cases q1 : btw inc 1 2147483647 <;> rw [q1] at h2 <;> simp only [Bool.false_eq_true, if_true, if_false] at h2 <;> simp (maxSteps:=4000000)(disch:=first|assumption|(simp only[dz];first|done|assumption|omega)|omega|apply_rules[Fr.refl,Fr.alloc,Fr.drew]|rfl) only [↓gd,gp,Nat.reduceAdd,Nat.reduceEqDiff, ↓hk34, q1] <;> exact h2
   ·simp only [Int.reduceEq, if_true, if_false, or_self, or_true, true_or, or_false, false_or, decide_true, decide_false, Bool.true_and, Bool.false_and, Bool.or_false, Bool.false_or, Bool.not_false, Bool.not_true, Bool.true_or] at hK
    simp (maxSteps:=4000000)(disch:=first|assumption|(simp only[dz];first|done|assumption|omega)|omega|apply_rules[Fr.refl,Fr.alloc,Fr.drew]|rfl) only [↓gd,gp,Nat.reduceAdd,Nat.reduceEqDiff, ↓hk34, e1, e3, e4, g, Int.reduceEq, Int.reduceLE]
    refine r13in ?_
    have h2 := hK _ (Fr.refl _ _)
    cases q1 : btw inc 1 2147483647 <;> rw [q1] at h2 <;> simp only [Bool.false_eq_true, if_true, if_false] at h2 <;> simp (maxSteps:=4000000)(disch:=first|assumption|(simp only[dz];first|done|assumption|omega)|omega|apply_rules[Fr.refl,Fr.alloc,Fr.drew]|rfl) only [↓gd,gp,Nat.reduceAdd,Nat.reduceEqDiff, ↓hk34, q1] <;> exact h2
end Go.Proofs.YtgloomahpjpiiaaGreat.Or
namespace Go.Proofs.YtgloomahpjpiiaaGreat.Or
open Go.VW
theorem ctail {m : Msg} {ws : List St.Wr} {ks : List ByteArray} {w : World} {mb : Nat} {ok : Bool} {e : Env} {K : Value → World → Prop} (hk : 1 ≤ m.kind ∧ m.kind ≤ 11) (hm : MsgAt w m ws ks) (g : w.heap[mb]? = some (.cells (encMsg m).toArray 40 (0, 0)))
  (e1 : e 1 = .pointer (some ⟨mb, 0, none⟩)) (e3 : e 3 = .int .i64 2147483647) (e4 : e 4 = .bool ok) (hK : ∀ w', Fr [] w w' → K (.int .i64 (if (ok && ((!decide (m.kind ≤ 6) || btw m.seq 1 2147483647) && kindB m ws ks)) = true then 0 else 1)) w') :
  W3 Tryz.prog 158 V34 c34_4 (retQ Tryz.prog [ResultVar.tmp 2] K) e w := by
 have cw := cur w
 have g' := g
 unfold encMsg at g'
 cases q : decide (m.kind ≤ 6) with
 | false =>
   rw [q] at hK
   simp only [Bool.not_false, Bool.true_or, Bool.true_and] at hK
   simp (maxSteps:=4000000)(disch:=first|assumption|(simp only[dz];first|done|assumption|omega)|omega|apply_rules[Fr.refl,Fr.alloc,Fr.drew]|rfl) only [↓gd,gp,Nat.reduceAdd,Nat.reduceEqDiff, ↓c34_7_s, ↓c34_10_s, ↓c34_9_s, ↓c34_8_s, ↓c34_6_s, ↓c34_15_s, ↓c34_18_s, ↓c34_23_s, ↓c34_22_s, ↓c34_21_s, ↓c34_26_s, ↓c34_29_s, ↓c34_32_s, ↓c34_35_s, ↓c34_34_s, ↓c34_38_s, ↓c34_37_s, ↓c34_36_s, ↓c34_33_s, ↓c34_31_s, ↓c34_30_s, ↓c34_28_s, ↓c34_27_s, ↓c34_25_s, ↓c34_24_s, ↓c34_20_s, ↓c34_41_s, ↓c34_40_s, ↓c34_39_s, ↓c34_19_s, ↓c34_17_s, ↓c34_44_s, ↓c34_43_s, ↓c34_42_s, ↓c34_16_s, ↓c34_14_s, ↓c34_13_s, ↓c34_12_s, ↓c34_11_s, ↓c34_47_s, ↓c34_46_s, ↓c34_45_s, ↓c34_4_s, ↓c34_3_s, ↓c34_2_s, ↓c34_50_s, ↓c34_49_s, ↓c34_48_s, ↓c34_1_s, ↓c34_s, ↓w3t_34, e1, e3, e4, g', q]
   exact ctail2 hk hm g e1 e3 e4 hK
 | true =>
   rw [q] at hK
   simp only [Bool.not_true, Bool.false_or] at hK
   cases ok with
   | false =>
     simp only [Bool.false_and, Bool.false_eq_true, if_false] at hK
     simp (maxSteps:=4000000)(disch:=first|assumption|(simp only[dz];first|done|assumption|omega)|omega|apply_rules[Fr.refl,Fr.alloc,Fr.drew]|rfl) only [↓gd,gp,Nat.reduceAdd,Nat.reduceEqDiff, ↓c34_7_s, ↓c34_10_s, ↓c34_9_s, ↓c34_8_s, ↓c34_6_s, ↓c34_15_s, ↓c34_18_s, ↓c34_23_s, ↓c34_22_s, ↓c34_21_s, ↓c34_26_s, ↓c34_29_s, ↓c34_32_s, ↓c34_35_s, ↓c34_34_s, ↓c34_38_s, ↓c34_37_s, ↓c34_36_s, ↓c34_33_s, ↓c34_31_s, ↓c34_30_s, ↓c34_28_s, ↓c34_27_s, ↓c34_25_s, ↓c34_24_s, ↓c34_20_s, ↓c34_41_s, ↓c34_40_s, ↓c34_39_s, ↓c34_19_s, ↓c34_17_s, ↓c34_44_s, ↓c34_43_s, ↓c34_42_s, ↓c34_16_s, ↓c34_14_s, ↓c34_13_s, ↓c34_12_s, ↓c34_11_s, ↓c34_47_s, ↓c34_46_s, ↓c34_45_s, ↓c34_4_s, ↓c34_3_s, ↓c34_2_s, ↓c34_50_s, ↓c34_49_s, ↓c34_48_s, ↓c34_1_s, ↓c34_s, ↓w3t_34, e1, e3, e4, g', q]
     exact ctail2 (ok := false) hk hm g e1 e3 rfl (by simpa using hK)
   | true =>
     simp only [Bool.true_and] at hK
     simp (maxSteps:=4000000)(disch:=first|assumption|(simp only[dz];first|done|assumption|omega)|omega|apply_rules[Fr.refl,Fr.alloc,Fr.drew]|rfl) only [↓gd,gp,Nat.reduceAdd,Nat.reduceEqDiff, ↓c34_7_s, ↓c34_10_s, ↓c34_9_s, ↓c34_8_s, ↓c34_6_s, ↓c34_15_s, ↓c34_18_s, ↓c34_23_s, ↓c34_22_s, ↓c34_21_s, ↓c34_26_s, ↓c34_29_s, ↓c34_32_s, ↓c34_35_s, ↓c34_34_s, ↓c34_38_s, ↓c34_37_s, ↓c34_36_s, ↓c34_33_s, ↓c34_31_s, ↓c34_30_s, ↓c34_28_s, ↓c34_27_s, ↓c34_25_s, ↓c34_24_s, ↓c34_20_s, ↓c34_41_s, ↓c34_40_s, ↓c34_39_s, ↓c34_19_s, ↓c34_17_s, ↓c34_44_s, ↓c34_43_s, ↓c34_42_s, ↓c34_16_s, ↓c34_14_s, ↓c34_13_s, ↓c34_12_s, ↓c34_11_s, ↓c34_47_s, ↓c34_46_s, ↓c34_45_s, ↓c34_4_s, ↓c34_3_s, ↓c34_2_s, ↓c34_50_s, ↓c34_49_s, ↓c34_48_s, ↓c34_1_s, ↓c34_s, ↓w3t_34, e1, e3, e4, g', q]
     refine r13in ?_
     try simp (maxSteps:=4000000)(disch:=first|assumption|(simp only[dz];first|done|assumption|omega)|omega|apply_rules[Fr.refl,Fr.alloc,Fr.drew]|rfl) only [↓gd,gp,Nat.reduceAdd,Nat.reduceEqDiff, ↓c34_7_s, ↓c34_10_s, ↓c34_9_s, ↓c34_8_s, ↓c34_6_s, ↓c34_15_s, ↓c34_18_s, ↓c34_23_s, ↓c34_22_s, ↓c34_21_s, ↓c34_26_s, ↓c34_29_s, ↓c34_32_s, ↓c34_35_s, ↓c34_34_s, ↓c34_38_s, ↓c34_37_s, ↓c34_36_s, ↓c34_33_s, ↓c34_31_s, ↓c34_30_s, ↓c34_28_s, ↓c34_27_s, ↓c34_25_s, ↓c34_24_s, ↓c34_20_s, ↓c34_41_s, ↓c34_40_s, ↓c34_39_s, ↓c34_19_s, ↓c34_17_s, ↓c34_44_s, ↓c34_43_s, ↓c34_42_s, ↓c34_16_s, ↓c34_14_s, ↓c34_13_s, ↓c34_12_s, ↓c34_11_s, ↓c34_47_s, ↓c34_46_s, ↓c34_45_s, ↓c34_4_s, ↓c34_3_s, ↓c34_2_s, ↓c34_50_s, ↓c34_49_s, ↓c34_48_s, ↓c34_1_s, ↓c34_s, ↓w3t_34, e1, e3, e4, g', q]
     exact ctail2 (ok := btw m.seq 1 2147483647) hk hm g e1 e3 rfl hK
theorem only_at {m : Msg} {ws : List St.Wr} {ks : List ByteArray} {w : World} (hk : 1 ≤ m.kind ∧ m.kind ≤ 11) (hm : MsgAt w m ws ks) : MsgAt w (onlyM m) (if m.kind = 1 then ws else []) (if m.kind = 8 then ks else []) := by
 obtain ⟨h1, h2, h3, h4⟩ := hm
 obtain ⟨kind, node, inc, ses, tx, seq, key, plo, phi, vh, vd, hit, err, n, wa, wl, wc, ka, kl, kc⟩ := m
 simp only at hk
 rcases kinds hk with rfl | rfl | rfl | rfl | rfl | rfl | rfl | rfl | rfl | rfl | rfl
 all_goals simp only [Int.reduceEq, if_true, if_false]
 all_goals first
  | exact ⟨h1, Sl.nil, h3, Nat.zero_le _⟩
  | exact ⟨Sl.nil, h2, Nat.zero_le _, h4⟩
  | exact ⟨Sl.nil, Sl.nil, Nat.zero_le _, Nat.zero_le _⟩
def chkR (m : Msg) (ws : List St.Wr) (ks : List ByteArray) : Int := if btw m.kind 1 11 = true then (if ((zB (blankM m) && (btw m.node 0 7 && (btw m.ses 0 63 && (btw m.tx 0 255 && (btw m.err 0 255 && (decide (0 ≤ m.n) && decide (m.n ≤ 1099511627776))))))) && ((!decide (m.kind ≤ 6) || btw m.seq 1 2147483647) && kindB m ws ks)) = true then 0 else 1) else 13
theorem chkR_eq {m : Msg} {ws : List St.Wr} {ks : List ByteArray} (hw : m.wl = ws.length) (hkl : m.kl = ks.length) : chkR m ws ks = chkM m ws ks := by
 unfold chkR chkM
 by_cases hb : btw m.kind 1 11 = true
 ·rw [if_pos hb, if_pos hb]
  have hk := (btw_iff _ _ _).1 hb
  cases z : zB (blankM m) with
  | false => simp
  | true =>
    have e : (btw m.node 0 7 && (btw m.ses 0 63 && (btw m.tx 0 255 && (btw m.err 0 255 && (decide (0 ≤ m.n) && decide (m.n ≤ 1099511627776)))))) = (btw m.node 0 7 && (btw m.ses 0 63 && (btw m.tx 0 255 && (btw m.err 0 255 && btw m.n 0 1099511627776)))) := rfl
    have e2 : ((!decide (m.kind ≤ 6) || btw m.seq 1 2147483647) && kindB m ws ks) = (tailB (decide (m.kind ≤ 6)) (decide (m.kind = 10) || decide (m.kind = 11)) (decide (m.kind = 8) || decide (m.kind = 9)) m && thingsB m ws ks) := by
     obtain ⟨kind, node, inc, ses, tx, seq, key, plo, phi, vh, vd, hit, err, n, wa, wl, wc, ka, kl, kc⟩ := m
     simp only at hk hw hkl
     subst hw hkl
     rcases kinds hk with rfl | rfl | rfl | rfl | rfl | rfl | rfl | rfl | rfl | rfl | rfl
     all_goals first
      | (simp [tailB, kindB, thingsB, fullR, fullB]; done)
      | (simp [zB, blankM] at z; simp [tailB, kindB, thingsB, fullR, fullB, z]; done)
      | (simp [zB, blankM] at z; have hh : hit = false := by simp_all
         simp [tailB, kindB, thingsB, fullR, fullB, hh]; done)
    simp only [Bool.true_and]
    rw [e, e2]
    unfold numsB
    cases btw m.node 0 7 <;> cases btw m.ses 0 63 <;> cases btw m.tx 0 255 <;> cases btw m.err 0 255 <;> cases btw m.n 0 1099511627776 <;> simp
 ·rw [if_neg hb, if_neg hb]
set_option maxHeartbeats 64000000 in
theorem r13check {m : Msg} {ws : List St.Wr} {ks : List ByteArray} {w : World} {K : Value → World → Prop} (h : MsgAt w m ws ks) (hK : ∀ w', Fr [] w w' → K (.int .i64 (chkM m ws ks)) w') : CallsN Tryz.prog 34 [.agg (encMsg m).toArray] w K := by
 have cw := cur w
 rw [← chkR_eq h.wlen h.klen] at hK
 unfold chkR at hK
 refine call34 ?_
 have hme : (encMsg m).toArray = #[.int .i64 m.kind, .int .i64 m.node, .int .i64 m.inc, .int .i64 m.ses, .int .i64 m.tx, .int .i64 m.seq, .string m.key, .int .i64 m.plo, .int .i64 m.phi, .bool m.vh, .string m.vd, .bool m.hit, .int .i64 m.err, .int .i64 m.n, .slice m.wa m.wl m.wc, .slice m.ka m.kl m.kc] := rfl
 rw [hme]
 simp (maxSteps:=4000000)(disch:=first|assumption|(simp only[dz];first|done|assumption|omega)|omega|apply_rules[Fr.refl,Fr.alloc,Fr.drew]|rfl) only [↓gd,gp,Nat.reduceAdd,Nat.reduceEqDiff, ↓hk34]
 generalize hW : World.alloc w _ = w1
 have hf1 : Fr [] w w1 := by rw [← hW]; (repeat (first | exact Fr.refl _ _ | assumption | with_reducible apply Fr.alloc | with_reducible apply Fr.drew | with_reducible refine Fr.setB ?_ _ _ (.inr (by first | omega | (simp only [gz]; omega))) | with_reducible refine Fr.setB ?_ _ _ (.inl (by first | assumption | simp)) | with_reducible refine Fr.trans' ?_ (by assumption)))
 have g : w1.heap[w.heap.size]? = some (.cells (encMsg m).toArray 40 (0, 0)) := by rw [← hW, hme]; exact get_alloc_new _ _
 clear hW
 have cw1 := cur w1
 have g' := g
 rw [hme] at g'
 refine r13in ?_
 cases qk : btw m.kind 1 11 with
 | false =>
   rw [qk] at hK
   simp only [Bool.false_eq_true, if_false] at hK
   simp (maxSteps:=4000000)(disch:=first|assumption|(simp only[dz];first|done|assumption|omega)|omega|apply_rules[Fr.refl,Fr.alloc,Fr.drew]|rfl) only [↓gd,gp,Nat.reduceAdd,Nat.reduceEqDiff, ↓hk34, qk]
   exact hK _ hf1
 | true =>
   rw [qk] at hK
   simp only [if_true] at hK
   have hk := (btw_iff _ _ _).1 qk
   simp (maxSteps:=4000000)(disch:=first|assumption|(simp only[dz];first|done|assumption|omega)|omega|apply_rules[Fr.refl,Fr.alloc,Fr.drew]|rfl) only [↓gd,gp,Nat.reduceAdd,Nat.reduceEqDiff, ↓c34_7_s, ↓c34_10_s, ↓c34_9_s, ↓c34_8_s, ↓c34_6_s, ↓c34_15_s, ↓c34_18_s, ↓c34_23_s, ↓c34_22_s, ↓c34_21_s, ↓c34_26_s, ↓c34_29_s, ↓c34_32_s, ↓c34_35_s, ↓c34_34_s, ↓c34_38_s, ↓c34_37_s, ↓c34_36_s, ↓c34_33_s, ↓c34_31_s, ↓c34_30_s, ↓c34_28_s, ↓c34_27_s, ↓c34_25_s, ↓c34_24_s, ↓c34_20_s, ↓c34_41_s, ↓c34_40_s, ↓c34_39_s, ↓c34_19_s, ↓c34_17_s, ↓c34_44_s, ↓c34_43_s, ↓c34_42_s, ↓c34_16_s, ↓c34_14_s, ↓c34_13_s, ↓c34_12_s, ↓c34_11_s, ↓c34_5_s, ↓c34_47_s, ↓c34_46_s, ↓c34_45_s, ↓c34_3_s, ↓c34_2_s, ↓c34_50_s, ↓c34_49_s, ↓c34_48_s, ↓c34_1_s, ↓c34_s, ↓w3t_34, qk, g']
   rw [← hme]
   refine r13only hk fun w2 hf2 => ?_
   have cw2 := cur w2
   have hf2' : Fr [] w1 w2 := by first | exact hf2 | exact (Fr.drew (Fr.refl [] w1)).trans' hf2
   have g2 := hf2'.getN g
   have g2' := hf2'.getN g'
   have hm2 := h.frN (hf1.trans' hf2')
   simp (maxSteps:=4000000)(disch:=first|assumption|(simp only[dz];first|done|assumption|omega)|omega|apply_rules[Fr.refl,Fr.alloc,Fr.drew]|rfl) only [↓gd,gp,Nat.reduceAdd,Nat.reduceEqDiff, ↓c34_7_s, ↓c34_10_s, ↓c34_9_s, ↓c34_8_s, ↓c34_6_s, ↓c34_15_s, ↓c34_18_s, ↓c34_23_s, ↓c34_22_s, ↓c34_21_s, ↓c34_26_s, ↓c34_29_s, ↓c34_32_s, ↓c34_35_s, ↓c34_34_s, ↓c34_38_s, ↓c34_37_s, ↓c34_36_s, ↓c34_33_s, ↓c34_31_s, ↓c34_30_s, ↓c34_28_s, ↓c34_27_s, ↓c34_25_s, ↓c34_24_s, ↓c34_20_s, ↓c34_41_s, ↓c34_40_s, ↓c34_39_s, ↓c34_19_s, ↓c34_17_s, ↓c34_44_s, ↓c34_43_s, ↓c34_42_s, ↓c34_16_s, ↓c34_14_s, ↓c34_13_s, ↓c34_12_s, ↓c34_11_s, ↓c34_5_s, ↓c34_47_s, ↓c34_46_s, ↓c34_45_s, ↓c34_3_s, ↓c34_2_s, ↓c34_50_s, ↓c34_49_s, ↓c34_48_s, ↓c34_1_s, ↓c34_s, ↓w3t_34, eq_true hf2']
   refine r13same hm2 (only_at hk hm2) (fun q => ?_) (fun q => ?_) fun w3 hf3 => ?_
   ·by_cases h1 : m.kind = 1
    ·rw [if_pos h1]
    ·rw [if_neg h1] at q ⊢
     exact List.length_eq_zero_iff.1 q
   ·by_cases h1 : m.kind = 8
    ·rw [if_pos h1]
    ·rw [if_neg h1] at q ⊢
     exact List.length_eq_zero_iff.1 q
   rw [same_only hk]
   have cw3 := cur w3
   have hf3' : Fr [] w1 w3 := hf2'.trans' hf3
   have g3 := hf3'.getN g
   have g3' := hf3'.getN g'
   have hm3 := h.frN (hf1.trans' hf3')
   have hK3 := fun w' hf => hK w' ((hf1.trans' hf3').trans' hf)
   generalize zB (blankM m) = c0 at hK3
   have fin : ∀ (ok : Bool) (e : Env) (w4 : World), Fr [] w3 w4 → ok = (c0 && (btw m.node 0 7 && (btw m.ses 0 63 && (btw m.tx 0 255 && (btw m.err 0 255 && (decide (0 ≤ m.n) && decide (m.n ≤ 1099511627776))))))) → e 1 = .pointer (some ⟨w.heap.size, 0, none⟩) → e 3 = .int .i64 2147483647 → e 4 = .bool ok →
     W3 Tryz.prog 158 V34 c34_4 (retQ Tryz.prog [ResultVar.tmp 2] K) e w4 := fun ok e w4 hf4 hok e1 e3 e4 =>
    ctail (ok := ok) hk (hm3.frN hf4) (hf4.getN g3) e1 e3 e4 fun w5 hf5 => by
     rw [hok]; exact hK3 w5 (hf4.trans' hf5)
   cases q0 : c0 with
   | false =>
     subst q0
     simp (maxSteps:=4000000)(disch:=first|assumption|(simp only[dz];first|done|assumption|omega)|omega|apply_rules[Fr.refl,Fr.alloc,Fr.drew]|rfl) only [↓gd,gp,Nat.reduceAdd,Nat.reduceEqDiff, ↓c34_7_s, ↓c34_10_s, ↓c34_9_s, ↓c34_8_s, ↓c34_6_s, ↓c34_15_s, ↓c34_18_s, ↓c34_23_s, ↓c34_22_s, ↓c34_21_s, ↓c34_26_s, ↓c34_29_s, ↓c34_32_s, ↓c34_35_s, ↓c34_34_s, ↓c34_38_s, ↓c34_37_s, ↓c34_36_s, ↓c34_33_s, ↓c34_31_s, ↓c34_30_s, ↓c34_28_s, ↓c34_27_s, ↓c34_25_s, ↓c34_24_s, ↓c34_20_s, ↓c34_41_s, ↓c34_40_s, ↓c34_39_s, ↓c34_19_s, ↓c34_17_s, ↓c34_44_s, ↓c34_43_s, ↓c34_42_s, ↓c34_16_s, ↓c34_14_s, ↓c34_13_s, ↓c34_12_s, ↓c34_11_s, ↓c34_5_s, ↓c34_47_s, ↓c34_46_s, ↓c34_45_s, ↓c34_3_s, ↓c34_2_s, ↓c34_50_s, ↓c34_49_s, ↓c34_48_s, ↓c34_1_s, ↓c34_s, ↓w3t_34, g3', eq_true hf2', eq_true hf3, eq_true hf3']
     exact fin false _ _ (by (repeat (first | exact Fr.refl _ _ | assumption | with_reducible apply Fr.alloc | with_reducible apply Fr.drew | with_reducible refine Fr.setB ?_ _ _ (.inr (by first | omega | (simp only [gz]; omega))) | with_reducible refine Fr.setB ?_ _ _ (.inl (by first | assumption | simp)) | with_reducible refine Fr.trans' ?_ (by assumption)))) (by simp) rfl rfl rfl
   | true =>
     subst q0
     simp (maxSteps:=4000000)(disch:=first|assumption|(simp only[dz];first|done|assumption|omega)|omega|apply_rules[Fr.refl,Fr.alloc,Fr.drew]|rfl) only [↓gd,gp,Nat.reduceAdd,Nat.reduceEqDiff, ↓c34_7_s, ↓c34_10_s, ↓c34_9_s, ↓c34_8_s, ↓c34_6_s, ↓c34_15_s, ↓c34_18_s, ↓c34_23_s, ↓c34_22_s, ↓c34_21_s, ↓c34_26_s, ↓c34_29_s, ↓c34_32_s, ↓c34_35_s, ↓c34_34_s, ↓c34_38_s, ↓c34_37_s, ↓c34_36_s, ↓c34_33_s, ↓c34_31_s, ↓c34_30_s, ↓c34_28_s, ↓c34_27_s, ↓c34_25_s, ↓c34_24_s, ↓c34_20_s, ↓c34_41_s, ↓c34_40_s, ↓c34_39_s, ↓c34_19_s, ↓c34_17_s, ↓c34_44_s, ↓c34_43_s, ↓c34_42_s, ↓c34_16_s, ↓c34_14_s, ↓c34_13_s, ↓c34_12_s, ↓c34_11_s, ↓c34_5_s, ↓c34_47_s, ↓c34_46_s, ↓c34_45_s, ↓c34_3_s, ↓c34_2_s, ↓c34_50_s, ↓c34_49_s, ↓c34_48_s, ↓c34_1_s, ↓c34_s, ↓w3t_34, g3', eq_true hf2', eq_true hf3, eq_true hf3']
     refine r13in ?_
     cases q1 : btw m.node 0 7 with
     | false =>
       simp (maxSteps:=4000000)(disch:=first|assumption|(simp only[dz];first|done|assumption|omega)|omega|apply_rules[Fr.refl,Fr.alloc,Fr.drew]|rfl) only [↓gd,gp,Nat.reduceAdd,Nat.reduceEqDiff, ↓c34_7_s, ↓c34_10_s, ↓c34_9_s, ↓c34_8_s, ↓c34_6_s, ↓c34_15_s, ↓c34_18_s, ↓c34_23_s, ↓c34_22_s, ↓c34_21_s, ↓c34_26_s, ↓c34_29_s, ↓c34_32_s, ↓c34_35_s, ↓c34_34_s, ↓c34_38_s, ↓c34_37_s, ↓c34_36_s, ↓c34_33_s, ↓c34_31_s, ↓c34_30_s, ↓c34_28_s, ↓c34_27_s, ↓c34_25_s, ↓c34_24_s, ↓c34_20_s, ↓c34_41_s, ↓c34_40_s, ↓c34_39_s, ↓c34_19_s, ↓c34_17_s, ↓c34_44_s, ↓c34_43_s, ↓c34_42_s, ↓c34_16_s, ↓c34_14_s, ↓c34_13_s, ↓c34_12_s, ↓c34_11_s, ↓c34_5_s, ↓c34_47_s, ↓c34_46_s, ↓c34_45_s, ↓c34_3_s, ↓c34_2_s, ↓c34_50_s, ↓c34_49_s, ↓c34_48_s, ↓c34_1_s, ↓c34_s, ↓w3t_34, g3', eq_true hf2', eq_true hf3, eq_true hf3', q1]
       exact fin false _ _ (by (repeat (first | exact Fr.refl _ _ | assumption | with_reducible apply Fr.alloc | with_reducible apply Fr.drew | with_reducible refine Fr.setB ?_ _ _ (.inr (by first | omega | (simp only [gz]; omega))) | with_reducible refine Fr.setB ?_ _ _ (.inl (by first | assumption | simp)) | with_reducible refine Fr.trans' ?_ (by assumption)))) (by simp [q1]) rfl rfl rfl
     | true =>
       simp (maxSteps:=4000000)(disch:=first|assumption|(simp only[dz];first|done|assumption|omega)|omega|apply_rules[Fr.refl,Fr.alloc,Fr.drew]|rfl) only [↓gd,gp,Nat.reduceAdd,Nat.reduceEqDiff, ↓c34_7_s, ↓c34_10_s, ↓c34_9_s, ↓c34_8_s, ↓c34_6_s, ↓c34_15_s, ↓c34_18_s, ↓c34_23_s, ↓c34_22_s, ↓c34_21_s, ↓c34_26_s, ↓c34_29_s, ↓c34_32_s, ↓c34_35_s, ↓c34_34_s, ↓c34_38_s, ↓c34_37_s, ↓c34_36_s, ↓c34_33_s, ↓c34_31_s, ↓c34_30_s, ↓c34_28_s, ↓c34_27_s, ↓c34_25_s, ↓c34_24_s, ↓c34_20_s, ↓c34_41_s, ↓c34_40_s, ↓c34_39_s, ↓c34_19_s, ↓c34_17_s, ↓c34_44_s, ↓c34_43_s, ↓c34_42_s, ↓c34_16_s, ↓c34_14_s, ↓c34_13_s, ↓c34_12_s, ↓c34_11_s, ↓c34_5_s, ↓c34_47_s, ↓c34_46_s, ↓c34_45_s, ↓c34_3_s, ↓c34_2_s, ↓c34_50_s, ↓c34_49_s, ↓c34_48_s, ↓c34_1_s, ↓c34_s, ↓w3t_34, g3', eq_true hf2', eq_true hf3, eq_true hf3', q1]
       refine r13in ?_
       cases q2 : btw m.ses 0 63 with
       | false =>
         simp (maxSteps:=4000000)(disch:=first|assumption|(simp only[dz];first|done|assumption|omega)|omega|apply_rules[Fr.refl,Fr.alloc,Fr.drew]|rfl) only [↓gd,gp,Nat.reduceAdd,Nat.reduceEqDiff, ↓c34_7_s, ↓c34_10_s, ↓c34_9_s, ↓c34_8_s, ↓c34_6_s, ↓c34_15_s, ↓c34_18_s, ↓c34_23_s, ↓c34_22_s, ↓c34_21_s, ↓c34_26_s, ↓c34_29_s, ↓c34_32_s, ↓c34_35_s, ↓c34_34_s, ↓c34_38_s, ↓c34_37_s, ↓c34_36_s, ↓c34_33_s, ↓c34_31_s, ↓c34_30_s, ↓c34_28_s, ↓c34_27_s, ↓c34_25_s, ↓c34_24_s, ↓c34_20_s, ↓c34_41_s, ↓c34_40_s, ↓c34_39_s, ↓c34_19_s, ↓c34_17_s, ↓c34_44_s, ↓c34_43_s, ↓c34_42_s, ↓c34_16_s, ↓c34_14_s, ↓c34_13_s, ↓c34_12_s, ↓c34_11_s, ↓c34_5_s, ↓c34_47_s, ↓c34_46_s, ↓c34_45_s, ↓c34_3_s, ↓c34_2_s, ↓c34_50_s, ↓c34_49_s, ↓c34_48_s, ↓c34_1_s, ↓c34_s, ↓w3t_34, g3', eq_true hf2', eq_true hf3, eq_true hf3', q1, q2]
         exact fin false _ _ (by (repeat (first | exact Fr.refl _ _ | assumption | with_reducible apply Fr.alloc | with_reducible apply Fr.drew | with_reducible refine Fr.setB ?_ _ _ (.inr (by first | omega | (simp only [gz]; omega))) | with_reducible refine Fr.setB ?_ _ _ (.inl (by first | assumption | simp)) | with_reducible refine Fr.trans' ?_ (by assumption)))) (by simp [q1, q2]) rfl rfl rfl
       | true =>
         simp (maxSteps:=4000000)(disch:=first|assumption|(simp only[dz];first|done|assumption|omega)|omega|apply_rules[Fr.refl,Fr.alloc,Fr.drew]|rfl) only [↓gd,gp,Nat.reduceAdd,Nat.reduceEqDiff, ↓c34_7_s, ↓c34_10_s, ↓c34_9_s, ↓c34_8_s, ↓c34_6_s, ↓c34_15_s, ↓c34_18_s, ↓c34_23_s, ↓c34_22_s, ↓c34_21_s, ↓c34_26_s, ↓c34_29_s, ↓c34_32_s, ↓c34_35_s, ↓c34_34_s, ↓c34_38_s, ↓c34_37_s, ↓c34_36_s, ↓c34_33_s, ↓c34_31_s, ↓c34_30_s, ↓c34_28_s, ↓c34_27_s, ↓c34_25_s, ↓c34_24_s, ↓c34_20_s, ↓c34_41_s, ↓c34_40_s, ↓c34_39_s, ↓c34_19_s, ↓c34_17_s, ↓c34_44_s, ↓c34_43_s, ↓c34_42_s, ↓c34_16_s, ↓c34_14_s, ↓c34_13_s, ↓c34_12_s, ↓c34_11_s, ↓c34_5_s, ↓c34_47_s, ↓c34_46_s, ↓c34_45_s, ↓c34_3_s, ↓c34_2_s, ↓c34_50_s, ↓c34_49_s, ↓c34_48_s, ↓c34_1_s, ↓c34_s, ↓w3t_34, g3', eq_true hf2', eq_true hf3, eq_true hf3', q1, q2]
         refine r13in ?_
         cases q3 : btw m.tx 0 255 with
         | false =>
           simp (maxSteps:=4000000)(disch:=first|assumption|(simp only[dz];first|done|assumption|omega)|omega|apply_rules[Fr.refl,Fr.alloc,Fr.drew]|rfl) only [↓gd,gp,Nat.reduceAdd,Nat.reduceEqDiff, ↓c34_7_s, ↓c34_10_s, ↓c34_9_s, ↓c34_8_s, ↓c34_6_s, ↓c34_15_s, ↓c34_18_s, ↓c34_23_s, ↓c34_22_s, ↓c34_21_s, ↓c34_26_s, ↓c34_29_s, ↓c34_32_s, ↓c34_35_s, ↓c34_34_s, ↓c34_38_s, ↓c34_37_s, ↓c34_36_s, ↓c34_33_s, ↓c34_31_s, ↓c34_30_s, ↓c34_28_s, ↓c34_27_s, ↓c34_25_s, ↓c34_24_s, ↓c34_20_s, ↓c34_41_s, ↓c34_40_s, ↓c34_39_s, ↓c34_19_s, ↓c34_17_s, ↓c34_44_s, ↓c34_43_s, ↓c34_42_s, ↓c34_16_s, ↓c34_14_s, ↓c34_13_s, ↓c34_12_s, ↓c34_11_s, ↓c34_5_s, ↓c34_47_s, ↓c34_46_s, ↓c34_45_s, ↓c34_3_s, ↓c34_2_s, ↓c34_50_s, ↓c34_49_s, ↓c34_48_s, ↓c34_1_s, ↓c34_s, ↓w3t_34, g3', eq_true hf2', eq_true hf3, eq_true hf3', q1, q2, q3]
           exact fin false _ _ (by (repeat (first | exact Fr.refl _ _ | assumption | with_reducible apply Fr.alloc | with_reducible apply Fr.drew | with_reducible refine Fr.setB ?_ _ _ (.inr (by first | omega | (simp only [gz]; omega))) | with_reducible refine Fr.setB ?_ _ _ (.inl (by first | assumption | simp)) | with_reducible refine Fr.trans' ?_ (by assumption)))) (by simp [q1, q2, q3]) rfl rfl rfl
         | true =>
           simp (maxSteps:=4000000)(disch:=first|assumption|(simp only[dz];first|done|assumption|omega)|omega|apply_rules[Fr.refl,Fr.alloc,Fr.drew]|rfl) only [↓gd,gp,Nat.reduceAdd,Nat.reduceEqDiff, ↓c34_7_s, ↓c34_10_s, ↓c34_9_s, ↓c34_8_s, ↓c34_6_s, ↓c34_15_s, ↓c34_18_s, ↓c34_23_s, ↓c34_22_s, ↓c34_21_s, ↓c34_26_s, ↓c34_29_s, ↓c34_32_s, ↓c34_35_s, ↓c34_34_s, ↓c34_38_s, ↓c34_37_s, ↓c34_36_s, ↓c34_33_s, ↓c34_31_s, ↓c34_30_s, ↓c34_28_s, ↓c34_27_s, ↓c34_25_s, ↓c34_24_s, ↓c34_20_s, ↓c34_41_s, ↓c34_40_s, ↓c34_39_s, ↓c34_19_s, ↓c34_17_s, ↓c34_44_s, ↓c34_43_s, ↓c34_42_s, ↓c34_16_s, ↓c34_14_s, ↓c34_13_s, ↓c34_12_s, ↓c34_11_s, ↓c34_5_s, ↓c34_47_s, ↓c34_46_s, ↓c34_45_s, ↓c34_3_s, ↓c34_2_s, ↓c34_50_s, ↓c34_49_s, ↓c34_48_s, ↓c34_1_s, ↓c34_s, ↓w3t_34, g3', eq_true hf2', eq_true hf3, eq_true hf3', q1, q2, q3]
           refine r13in ?_
           cases q4 : btw m.err 0 255 with
           | false =>
             simp (maxSteps:=4000000)(disch:=first|assumption|(simp only[dz];first|done|assumption|omega)|omega|apply_rules[Fr.refl,Fr.alloc,Fr.drew]|rfl) only [↓gd,gp,Nat.reduceAdd,Nat.reduceEqDiff, ↓c34_7_s, ↓c34_10_s, ↓c34_9_s, ↓c34_8_s, ↓c34_6_s, ↓c34_15_s, ↓c34_18_s, ↓c34_23_s, ↓c34_22_s, ↓c34_21_s, ↓c34_26_s, ↓c34_29_s, ↓c34_32_s, ↓c34_35_s, ↓c34_34_s, ↓c34_38_s, ↓c34_37_s, ↓c34_36_s, ↓c34_33_s, ↓c34_31_s, ↓c34_30_s, ↓c34_28_s, ↓c34_27_s, ↓c34_25_s, ↓c34_24_s, ↓c34_20_s, ↓c34_41_s, ↓c34_40_s, ↓c34_39_s, ↓c34_19_s, ↓c34_17_s, ↓c34_44_s, ↓c34_43_s, ↓c34_42_s, ↓c34_16_s, ↓c34_14_s, ↓c34_13_s, ↓c34_12_s, ↓c34_11_s, ↓c34_5_s, ↓c34_47_s, ↓c34_46_s, ↓c34_45_s, ↓c34_3_s, ↓c34_2_s, ↓c34_50_s, ↓c34_49_s, ↓c34_48_s, ↓c34_1_s, ↓c34_s, ↓w3t_34, g3', eq_true hf2', eq_true hf3, eq_true hf3', q1, q2, q3, q4]
             exact fin false _ _ (by (repeat (first | exact Fr.refl _ _ | assumption | with_reducible apply Fr.alloc | with_reducible apply Fr.drew | with_reducible refine Fr.setB ?_ _ _ (.inr (by first | omega | (simp only [gz]; omega))) | with_reducible refine Fr.setB ?_ _ _ (.inl (by first | assumption | simp)) | with_reducible refine Fr.trans' ?_ (by assumption)))) (by simp [q1, q2, q3, q4]) rfl rfl rfl
           | true =>
             cases q5 : decide (0 ≤ m.n) with
             | false =>
               simp (maxSteps:=4000000)(disch:=first|assumption|(simp only[dz];first|done|assumption|omega)|omega|apply_rules[Fr.refl,Fr.alloc,Fr.drew]|rfl) only [↓gd,gp,Nat.reduceAdd,Nat.reduceEqDiff, ↓c34_7_s, ↓c34_10_s, ↓c34_9_s, ↓c34_8_s, ↓c34_6_s, ↓c34_15_s, ↓c34_18_s, ↓c34_23_s, ↓c34_22_s, ↓c34_21_s, ↓c34_26_s, ↓c34_29_s, ↓c34_32_s, ↓c34_35_s, ↓c34_34_s, ↓c34_38_s, ↓c34_37_s, ↓c34_36_s, ↓c34_33_s, ↓c34_31_s, ↓c34_30_s, ↓c34_28_s, ↓c34_27_s, ↓c34_25_s, ↓c34_24_s, ↓c34_20_s, ↓c34_41_s, ↓c34_40_s, ↓c34_39_s, ↓c34_19_s, ↓c34_17_s, ↓c34_44_s, ↓c34_43_s, ↓c34_42_s, ↓c34_16_s, ↓c34_14_s, ↓c34_13_s, ↓c34_12_s, ↓c34_11_s, ↓c34_5_s, ↓c34_47_s, ↓c34_46_s, ↓c34_45_s, ↓c34_3_s, ↓c34_2_s, ↓c34_50_s, ↓c34_49_s, ↓c34_48_s, ↓c34_1_s, ↓c34_s, ↓w3t_34, g3', eq_true hf2', eq_true hf3, eq_true hf3', q1, q2, q3, q4, q5]
               exact fin false _ _ (by (repeat (first | exact Fr.refl _ _ | assumption | with_reducible apply Fr.alloc | with_reducible apply Fr.drew | with_reducible refine Fr.setB ?_ _ _ (.inr (by first | omega | (simp only [gz]; omega))) | with_reducible refine Fr.setB ?_ _ _ (.inl (by first | assumption | simp)) | with_reducible refine Fr.trans' ?_ (by assumption)))) (by simp [q1, q2, q3, q4, q5]) rfl rfl rfl
             | true =>
               cases q6 : decide (m.n ≤ 1099511627776) with
               | false =>
                 simp (maxSteps:=4000000)(disch:=first|assumption|(simp only[dz];first|done|assumption|omega)|omega|apply_rules[Fr.refl,Fr.alloc,Fr.drew]|rfl) only [↓gd,gp,Nat.reduceAdd,Nat.reduceEqDiff, ↓c34_7_s, ↓c34_10_s, ↓c34_9_s, ↓c34_8_s, ↓c34_6_s, ↓c34_15_s, ↓c34_18_s, ↓c34_23_s, ↓c34_22_s, ↓c34_21_s, ↓c34_26_s, ↓c34_29_s, ↓c34_32_s, ↓c34_35_s, ↓c34_34_s, ↓c34_38_s, ↓c34_37_s, ↓c34_36_s, ↓c34_33_s, ↓c34_31_s, ↓c34_30_s, ↓c34_28_s, ↓c34_27_s, ↓c34_25_s, ↓c34_24_s, ↓c34_20_s, ↓c34_41_s, ↓c34_40_s, ↓c34_39_s, ↓c34_19_s, ↓c34_17_s, ↓c34_44_s, ↓c34_43_s, ↓c34_42_s, ↓c34_16_s, ↓c34_14_s, ↓c34_13_s, ↓c34_12_s, ↓c34_11_s, ↓c34_5_s, ↓c34_47_s, ↓c34_46_s, ↓c34_45_s, ↓c34_3_s, ↓c34_2_s, ↓c34_50_s, ↓c34_49_s, ↓c34_48_s, ↓c34_1_s, ↓c34_s, ↓w3t_34, g3', eq_true hf2', eq_true hf3, eq_true hf3', q1, q2, q3, q4, q5, q6]
                 exact fin false _ _ (by (repeat (first | exact Fr.refl _ _ | assumption | with_reducible apply Fr.alloc | with_reducible apply Fr.drew | with_reducible refine Fr.setB ?_ _ _ (.inr (by first | omega | (simp only [gz]; omega))) | with_reducible refine Fr.setB ?_ _ _ (.inl (by first | assumption | simp)) | with_reducible refine Fr.trans' ?_ (by assumption)))) (by simp [q1, q2, q3, q4, q5, q6]) rfl rfl rfl
               | true =>
                 simp (maxSteps:=4000000)(disch:=first|assumption|(simp only[dz];first|done|assumption|omega)|omega|apply_rules[Fr.refl,Fr.alloc,Fr.drew]|rfl) only [↓gd,gp,Nat.reduceAdd,Nat.reduceEqDiff, ↓c34_7_s, ↓c34_10_s, ↓c34_9_s, ↓c34_8_s, ↓c34_6_s, ↓c34_15_s, ↓c34_18_s, ↓c34_23_s, ↓c34_22_s, ↓c34_21_s, ↓c34_26_s, ↓c34_29_s, ↓c34_32_s, ↓c34_35_s, ↓c34_34_s, ↓c34_38_s, ↓c34_37_s, ↓c34_36_s, ↓c34_33_s, ↓c34_31_s, ↓c34_30_s, ↓c34_28_s, ↓c34_27_s, ↓c34_25_s, ↓c34_24_s, ↓c34_20_s, ↓c34_41_s, ↓c34_40_s, ↓c34_39_s, ↓c34_19_s, ↓c34_17_s, ↓c34_44_s, ↓c34_43_s, ↓c34_42_s, ↓c34_16_s, ↓c34_14_s, ↓c34_13_s, ↓c34_12_s, ↓c34_11_s, ↓c34_5_s, ↓c34_47_s, ↓c34_46_s, ↓c34_45_s, ↓c34_3_s, ↓c34_2_s, ↓c34_50_s, ↓c34_49_s, ↓c34_48_s, ↓c34_1_s, ↓c34_s, ↓w3t_34, g3', eq_true hf2', eq_true hf3, eq_true hf3', q1, q2, q3, q4, q5, q6]
                 exact fin true _ _ (by (repeat (first | exact Fr.refl _ _ | assumption | with_reducible apply Fr.alloc | with_reducible apply Fr.drew | with_reducible refine Fr.setB ?_ _ _ (.inr (by first | omega | (simp only [gz]; omega))) | with_reducible refine Fr.setB ?_ _ _ (.inl (by first | assumption | simp)) | with_reducible refine Fr.trans' ?_ (by assumption)))) (by simp [q1, q2, q3, q4, q5, q6]) rfl rfl rfl
end Go.Proofs.YtgloomahpjpiiaaGreat.Or
namespace Go.Proofs.YtgloomahpjpiiaaGreat.Or
open Go.VW
theorem own_max {k n : Nat} {e : TypeId} {w : World} {v : Value} {cs : List Value} (h : VW.Own k e w v n cs) : n ≤ 9223372036854775807 := by
 rcases h.2 with ⟨rfl, h0⟩ | ⟨y, cap', cur', hvx, hb0, hgx, hnc, hcm, _⟩
 ·first | omega | (simp at h0; omega)
 ·simp only [maxLen] at hcm; omega
/-- An answer that may be read. -/
structure AnsRo (w : World) (m : Msg) (a : Ans) : Prop where
 eq : m = { a.m with ka := m.ka, kl := m.kl, kc := m.kc }
 wv : a.m.wv = .slice none 0 0
 sl : SlOf 1 Sm.encS w m.kv a.ks
 len : a.ks.length ≤ 9223372036854775807
theorem AnsRo.frN {w w' : World} {m : Msg} {a : Ans} (h : AnsRo w m a) (hf : Fr [] w w') : AnsRo w' m a := ⟨h.eq, h.wv, h.sl.frN hf, h.len⟩
theorem AnsRo.at_ {w : World} {m : Msg} {a : Ans} (h : AnsRo w m a) : MsgAt w m [] a.ks := by
 refine ⟨?_, h.sl, Nat.zero_le _, h.len⟩
 have e : m.wv = a.m.wv := by rw [h.eq]
 rw [e, h.wv]
 exact Sl.nil
structure AnsRd (w : World) (v : Value) (l : List Ans) : Prop where
 ex : ∃ ms : List Msg, SlOf 16 encMsg w v ms ∧ ms.length = l.length ∧ ∀ (i : Nat) m a, ms[i]? = some m → l[i]? = some a → AnsRo w m a
theorem AnsRd.frN {w w' : World} {v : Value} {l : List Ans} (h : AnsRd w v l) (hf : Fr [] w w') : AnsRd w' v l := by
 obtain ⟨ms, h1, h2, h3⟩ := h
 exact ⟨ms, h1.frN hf, h2, fun i m a q1 q2 => (h3 i m a q1 q2).frN hf⟩
theorem AnsRd.form {w : World} {v : Value} {l : List Ans} (h : AnsRd w v l) : ∃ a c, v = .slice a l.length c := by
 obtain ⟨ms, h1, h2, h3⟩ := h
 obtain ⟨a, c, hv⟩ := h1.form
 exact ⟨a, c, by rw [hv, h2]⟩
theorem AnsAt.rd {w : World} {R R' : Nat → Prop} {v : Value} {l : List Ans} (h : AnsAt w R R' v l) (hw : ∀ a ∈ l, a.m.wv = .slice none 0 0) : AnsRd w v l := by
 obtain ⟨⟨ms, h1, h2, h3⟩, _⟩ := h
 exact ⟨ms, h1.sl, h2, fun i m a q1 q2 => ⟨(h3 i m a q1 q2).eq, hw a (List.mem_of_getElem? q2), (h3 i m a q1 q2).own.sl, own_max (h3 i m a q1 q2).own⟩⟩
end Go.Proofs.YtgloomahpjpiiaaGreat.Or
