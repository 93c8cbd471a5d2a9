/- Messages; what of one is left blank. codec: between, known, unused. codec: good keys, values, pins; lists that have a bad one. -/
import Derived.Test.YtgloomahpjpiiaaGreatOC
import Derived.Test.YtgloomahpjpiiaaGreatD5
import Derived.Test.YtgloomahpjpiiaaGreatS7
set_option linter.unusedVariables false
set_option linter.unusedSimpArgs false
set_option maxRecDepth 10000
namespace Go.Proofs.YtgloomahpjpiiaaGreat.Or
open Go.VW
structure Msg where
 kind : Int
 node : Int
 inc : Int
 ses : Int
 tx : Int
 seq : Int
 key : ByteArray
 plo : Int
 phi : Int
 vh : Bool
 vd : ByteArray
 hit : Bool
 err : Int
 n : Int
 wa : Option Addr
 wl : Nat
 wc : Nat
 ka : Option Addr
 kl : Nat
 kc : Nat
def encMsg (m : Msg) : List Value := [.int .i64 m.kind, .int .i64 m.node, .int .i64 m.inc, .int .i64 m.ses, .int .i64 m.tx, .int .i64 m.seq, .string m.key, .int .i64 m.plo, .int .i64 m.phi, .bool m.vh, .string m.vd, .bool m.hit, .int .i64 m.err, .int .i64 m.n, .slice m.wa m.wl m.wc, .slice m.ka m.kl m.kc]
theorem encMsg_len (m : Msg) : (encMsg m).length = 16 := rfl
def blankM (m : Msg) : Msg :=
 if m.kind = 1 then { m with ses := 0, seq := 0, wa := none, wl := 0, wc := 0 }
 else if m.kind = 2 then { m with ses := 0, seq := 0, err := 0, n := 0 }
 else if m.kind = 3 then { m with node := 0, tx := 0, seq := 0, key := ⟨#[]⟩, plo := 0, phi := 0 }
 else if m.kind = 4 then { m with tx := 0, seq := 0, hit := false, vh := if m.hit = true then false else m.vh, vd := if m.hit = true then ⟨#[]⟩ else m.vd, plo := if m.hit = true then 0 else m.plo, phi := if m.hit = true then 0 else m.phi }
 else if m.kind = 5 then { m with tx := 0, seq := 0, key := ⟨#[]⟩, plo := 0, phi := 0 }
 else if m.kind = 6 then { m with tx := 0, seq := 0, err := 0, vh := if m.err = 0 then false else m.vh, vd := if m.err = 0 then ⟨#[]⟩ else m.vd, plo := if m.err = 0 then 0 else m.plo, phi := if m.err = 0 then 0 else m.phi }
 else if m.kind = 7 then { m with node := 0, key := ⟨#[]⟩, vh := false, vd := ⟨#[]⟩, plo := 0, phi := 0, n := 0 }
 else if m.kind = 8 then { m with node := 0, n := 0, ka := none, kl := 0, kc := 0 }
 else if m.kind = 9 then { m with node := 0, n := 0 }
 else if m.kind = 10 then { m with node := 0, inc := 0 }
 else { m with node := 0, n := 0, inc := 0 }
set_option maxHeartbeats 16000000 in
theorem blank_spec {m : Msg} {w : World} {K : Value → World → Prop} (hk : 1 ≤ m.kind ∧ m.kind ≤ 11) (hK : ∀ w', Fr [] w w' → K (.agg (encMsg (blankM m)).toArray) w') : CallsN Tryz.prog 78 [.agg (encMsg m).toArray] w K := by
 have cw := cur w
 obtain ⟨kind, node, inc, ses, tx, seq, key, plo, phi, vh, vd, hit, err, n, wa, wl, wc, ka, kl, kc⟩ := m
 simp only at hk
 have hc : kind = 1 ∨ kind = 2 ∨ kind = 3 ∨ kind = 4 ∨ kind = 5 ∨ kind = 6 ∨ kind = 7 ∨ kind = 8 ∨ kind = 9 ∨ kind = 10 ∨ kind = 11 := by omega
 refine call78 ?_
 unfold blankM encMsg at *
 by_cases h46 : kind = 4 ∨ kind = 6
 ·rcases h46 with rfl | rfl
  ·cases de : decide (err = 0) <;> cases hit <;> simp only [Int.reduceEq, if_true, if_false, Bool.false_eq_true] at hK <;> simp (maxSteps:=4000000)(disch:=first|assumption|(simp only[dz];first|done|assumption|omega)|omega|apply_rules[Fr.refl,Fr.alloc,Fr.drew]|rfl) only [↓gd,gp,Nat.reduceAdd,Nat.reduceEqDiff, ↓hk78, Int.reduceEq, Int.reduceLE, de] <;> exact hK _ (by (repeat (first | exact Fr.refl _ _ | assumption | with_reducible apply Fr.alloc | with_reducible apply Fr.drew | with_reducible refine Fr.setB ?_ _ _ (.inr (by first | omega | (simp only [gz]; omega))) | with_reducible refine Fr.setB ?_ _ _ (.inl (by first | assumption | simp)) | with_reducible refine Fr.trans' ?_ (by assumption))))
  ·by_cases he : err = 0
   ·subst he
    cases hit <;> simp only [Int.reduceEq, if_true, if_false, Bool.false_eq_true] at hK <;> simp (maxSteps:=4000000)(disch:=first|assumption|(simp only[dz];first|done|assumption|omega)|omega|apply_rules[Fr.refl,Fr.alloc,Fr.drew]|rfl) only [↓gd,gp,Nat.reduceAdd,Nat.reduceEqDiff, ↓hk78, Int.reduceEq, Int.reduceLE] <;> exact hK _ (by (repeat (first | exact Fr.refl _ _ | assumption | with_reducible apply Fr.alloc | with_reducible apply Fr.drew | with_reducible refine Fr.setB ?_ _ _ (.inr (by first | omega | (simp only [gz]; omega))) | with_reducible refine Fr.setB ?_ _ _ (.inl (by first | assumption | simp)) | with_reducible refine Fr.trans' ?_ (by assumption))))
   ·have de : decide (err = 0) = false := decide_eq_false he
    cases hit <;> simp only [Int.reduceEq, he, if_true, if_false, Bool.false_eq_true] at hK <;> simp (maxSteps:=4000000)(disch:=first|assumption|(simp only[dz];first|done|assumption|omega)|omega|apply_rules[Fr.refl,Fr.alloc,Fr.drew]|rfl) only [↓gd,gp,Nat.reduceAdd,Nat.reduceEqDiff, ↓hk78, Int.reduceEq, Int.reduceLE, de] <;> exact hK _ (by (repeat (first | exact Fr.refl _ _ | assumption | with_reducible apply Fr.alloc | with_reducible apply Fr.drew | with_reducible refine Fr.setB ?_ _ _ (.inr (by first | omega | (simp only [gz]; omega))) | with_reducible refine Fr.setB ?_ _ _ (.inl (by first | assumption | simp)) | with_reducible refine Fr.trans' ?_ (by assumption))))
 ·rcases hc with rfl | rfl | rfl | rfl | rfl | rfl | rfl | rfl | rfl | rfl | rfl <;> first
   | exact absurd (.inl rfl) h46
   | exact absurd (.inr rfl) h46
   | (simp only [Int.reduceEq, if_true, if_false] at hK
      simp (maxSteps:=4000000)(disch:=first|assumption|(simp only[dz];first|done|assumption|omega)|omega|apply_rules[Fr.refl,Fr.alloc,Fr.drew]|rfl) only [↓gd,gp,Nat.reduceAdd,Nat.reduceEqDiff, ↓hk78, Int.reduceEq, Int.reduceLE]
      exact hK _ (by (repeat (first | exact Fr.refl _ _ | assumption | with_reducible apply Fr.alloc | with_reducible apply Fr.drew | with_reducible refine Fr.setB ?_ _ _ (.inr (by first | omega | (simp only [gz]; omega))) | with_reducible refine Fr.setB ?_ _ _ (.inl (by first | assumption | simp)) | with_reducible refine Fr.trans' ?_ (by assumption)))))
end Go.Proofs.YtgloomahpjpiiaaGreat.Or
namespace Go.Proofs.YtgloomahpjpiiaaGreat.Or
open Go.VW
def btw (x lo hi : Int) : Bool := decide (lo ≤ x) && decide (x ≤ hi)
theorem between_spec {x lo hi : Int} {w : World} {K : Value → World → Prop} (hK : K (.bool (btw x lo hi)) w) : CallsN Tryz.prog 79 [.int .i64 x, .int .i64 lo, .int .i64 hi] w K := by
 have cw := cur w
 unfold btw at hK
 refine call79 ?_
 cases q0 : decide (lo ≤ x) with
 | false =>
   simp only [q0, bOO] at hK
   simp (maxSteps:=4000000)(disch:=first|assumption|(simp only[dz];first|done|assumption|omega)|omega|apply_rules[Fr.refl,Fr.alloc,Fr.drew]|rfl) only [↓gd,gp,Nat.reduceAdd,Nat.reduceEqDiff, ↓hk79, q0]
   exact hK
 | true =>
 cases q1 : decide (x ≤ hi) with
 | false =>
   simp only [q0, q1, bOO] at hK
   simp (maxSteps:=4000000)(disch:=first|assumption|(simp only[dz];first|done|assumption|omega)|omega|apply_rules[Fr.refl,Fr.alloc,Fr.drew]|rfl) only [↓gd,gp,Nat.reduceAdd,Nat.reduceEqDiff, ↓hk79, q0, q1]
   exact hK
 | true =>
 simp only [q0, q1, bOO] at hK
 simp (maxSteps:=4000000)(disch:=first|assumption|(simp only[dz];first|done|assumption|omega)|omega|apply_rules[Fr.refl,Fr.alloc,Fr.drew]|rfl) only [↓gd,gp,Nat.reduceAdd,Nat.reduceEqDiff, ↓hk79, q0, q1]
 exact hK
theorem known_spec {x : Int} {w : World} {K : Value → World → Prop} (hK : K (.bool (btw x 1 11)) w) : CallsN Tryz.prog 51 [.int .i64 x] w K := by
 have cw := cur w
 unfold btw at hK
 refine call51 ?_
 cases q0 : decide ((1 : Int) ≤ x) with
 | false =>
   simp only [q0, bOO] at hK
   simp (maxSteps:=4000000)(disch:=first|assumption|(simp only[dz];first|done|assumption|omega)|omega|apply_rules[Fr.refl,Fr.alloc,Fr.drew]|rfl) only [↓gd,gp,Nat.reduceAdd,Nat.reduceEqDiff, ↓hk51, q0]
   exact hK
 | true =>
 cases q1 : decide (x ≤ (11 : Int)) with
 | false =>
   simp only [q0, q1, bOO] at hK
   simp (maxSteps:=4000000)(disch:=first|assumption|(simp only[dz];first|done|assumption|omega)|omega|apply_rules[Fr.refl,Fr.alloc,Fr.drew]|rfl) only [↓gd,gp,Nat.reduceAdd,Nat.reduceEqDiff, ↓hk51, q0, q1]
   exact hK
 | true =>
 simp only [q0, q1, bOO] at hK
 simp (maxSteps:=4000000)(disch:=first|assumption|(simp only[dz];first|done|assumption|omega)|omega|apply_rules[Fr.refl,Fr.alloc,Fr.drew]|rfl) only [↓gd,gp,Nat.reduceAdd,Nat.reduceEqDiff, ↓hk51, q0, q1]
 exact hK
def zB (u : Msg) : Bool := decide (u.node = 0) && (decide (u.inc = 0) && (decide (u.ses = 0) && (decide (u.tx = 0) && (decide (u.seq = 0) && (decide (u.key = ⟨#[]⟩) && (decide (u.plo = 0) && (decide (u.phi = 0) && (decide (u.vh = false) && (decide (u.vd = ⟨#[]⟩) && ((!u.hit) && (decide (u.err = 0) && (decide (u.n = 0) && (decide ((u.wl : Int) = 0) && (decide ((u.kl : Int) = 0)))))))))))))))
set_option maxHeartbeats 32000000 in
theorem unused_spec {m : Msg} {w : World} {K : Value → World → Prop} (hk : 1 ≤ m.kind ∧ m.kind ≤ 11) (hK : ∀ w', Fr [] w w' → K (.bool (zB (blankM m))) w') : CallsN Tryz.prog 52 [.agg (encMsg m).toArray] w K := by
 have cw := cur w
 refine call52 ?_
 unfold encMsg
 simp (maxSteps:=4000000)(disch:=first|assumption|(simp only[dz];first|done|assumption|omega)|omega|apply_rules[Fr.refl,Fr.alloc,Fr.drew]|rfl) only [↓gd,gp,Nat.reduceAdd,Nat.reduceEqDiff, ↓hk52]
 generalize hW : World.alloc w _ = w1
 have hf1 : Fr [] w w1 := by rw [← hW]; (repeat (first | exact Fr.refl _ _ | assumption | with_reducible apply Fr.alloc | with_reducible apply Fr.drew | with_reducible refine Fr.setB ?_ _ _ (.inr (by first | omega | (simp only [gz]; omega))) | with_reducible refine Fr.setB ?_ _ _ (.inl (by first | assumption | simp)) | with_reducible refine Fr.trans' ?_ (by assumption)))
 clear hW
 have cw1 := cur w1
 refine blank_spec (m := m) hk fun w2 hf2 => ?_
 have cw2 := cur w2
 generalize blankM m = u at hK
 have hF2 := hf1.trans' hf2
 have hK' := fun o => hK _ (hF2.alloc o)
 unfold encMsg
 unfold zB at hK'
 cases q0 : decide (u.node = 0) with
 | false =>
   simp only [q0, bOO] at hK'
   simp (maxSteps:=4000000)(disch:=first|assumption|(simp only[dz];first|done|assumption|omega)|omega|apply_rules[Fr.refl,Fr.alloc,Fr.drew]|rfl) only [↓gd,gp,Nat.reduceAdd,Nat.reduceEqDiff, ↓hk52, q0]
   exact hK' _
 | true =>
 cases q1 : decide (u.inc = 0) with
 | false =>
   simp only [q0, q1, bOO] at hK'
   simp (maxSteps:=4000000)(disch:=first|assumption|(simp only[dz];first|done|assumption|omega)|omega|apply_rules[Fr.refl,Fr.alloc,Fr.drew]|rfl) only [↓gd,gp,Nat.reduceAdd,Nat.reduceEqDiff, ↓hk52, q0, q1]
   exact hK' _
 | true =>
 cases q2 : decide (u.ses = 0) with
 | false =>
   simp only [q0, q1, q2, bOO] at hK'
   simp (maxSteps:=4000000)(disch:=first|assumption|(simp only[dz];first|done|assumption|omega)|omega|apply_rules[Fr.refl,Fr.alloc,Fr.drew]|rfl) only [↓gd,gp,Nat.reduceAdd,Nat.reduceEqDiff, ↓hk52, q0, q1, q2]
   exact hK' _
 | true =>
 cases q3 : decide (u.tx = 0) with
 | false =>
   simp only [q0, q1, q2, q3, bOO] at hK'
   simp (maxSteps:=4000000)(disch:=first|assumption|(simp only[dz];first|done|assumption|omega)|omega|apply_rules[Fr.refl,Fr.alloc,Fr.drew]|rfl) only [↓gd,gp,Nat.reduceAdd,Nat.reduceEqDiff, ↓hk52, q0, q1, q2, q3]
   exact hK' _
 | true =>
 cases q4 : decide (u.seq = 0) with
 | false =>
   simp only [q0, q1, q2, q3, q4, bOO] at hK'
   simp (maxSteps:=4000000)(disch:=first|assumption|(simp only[dz];first|done|assumption|omega)|omega|apply_rules[Fr.refl,Fr.alloc,Fr.drew]|rfl) only [↓gd,gp,Nat.reduceAdd,Nat.reduceEqDiff, ↓hk52, q0, q1, q2, q3, q4]
   exact hK' _
 | true =>
 cases q5 : decide (u.key = ⟨#[]⟩) with
 | false =>
   simp only [q0, q1, q2, q3, q4, q5, bOO] at hK'
   simp (maxSteps:=4000000)(disch:=first|assumption|(simp only[dz];first|done|assumption|omega)|omega|apply_rules[Fr.refl,Fr.alloc,Fr.drew]|rfl) only [↓gd,gp,Nat.reduceAdd,Nat.reduceEqDiff, ↓hk52, q0, q1, q2, q3, q4, q5]
   exact hK' _
 | true =>
 cases q6 : decide (u.plo = 0) with
 | false =>
   simp only [q0, q1, q2, q3, q4, q5, q6, bOO] at hK'
   simp (maxSteps:=4000000)(disch:=first|assumption|(simp only[dz];first|done|assumption|omega)|omega|apply_rules[Fr.refl,Fr.alloc,Fr.drew]|rfl) only [↓gd,gp,Nat.reduceAdd,Nat.reduceEqDiff, ↓hk52, q0, q1, q2, q3, q4, q5, q6]
   exact hK' _
 | true =>
 cases q7 : decide (u.phi = 0) with
 | false =>
   simp only [q0, q1, q2, q3, q4, q5, q6, q7, bOO] at hK'
   simp (maxSteps:=4000000)(disch:=first|assumption|(simp only[dz];first|done|assumption|omega)|omega|apply_rules[Fr.refl,Fr.alloc,Fr.drew]|rfl) only [↓gd,gp,Nat.reduceAdd,Nat.reduceEqDiff, ↓hk52, q0, q1, q2, q3, q4, q5, q6, q7]
   exact hK' _
 | true =>
 cases q8 : decide (u.vh = false) with
 | false =>
   simp only [q0, q1, q2, q3, q4, q5, q6, q7, q8, bOO] at hK'
   simp (maxSteps:=4000000)(disch:=first|assumption|(simp only[dz];first|done|assumption|omega)|omega|apply_rules[Fr.refl,Fr.alloc,Fr.drew]|rfl) only [↓gd,gp,Nat.reduceAdd,Nat.reduceEqDiff, ↓hk52, q0, q1, q2, q3, q4, q5, q6, q7, q8]
   exact hK' _
 | true =>
 cases q9 : decide (u.vd = ⟨#[]⟩) with
 | false =>
   simp only [q0, q1, q2, q3, q4, q5, q6, q7, q8, q9, bOO] at hK'
   simp (maxSteps:=4000000)(disch:=first|assumption|(simp only[dz];first|done|assumption|omega)|omega|apply_rules[Fr.refl,Fr.alloc,Fr.drew]|rfl) only [↓gd,gp,Nat.reduceAdd,Nat.reduceEqDiff, ↓hk52, q0, q1, q2, q3, q4, q5, q6, q7, q8, q9]
   exact hK' _
 | true =>
 cases q10 : (!u.hit) with
 | false =>
   simp only [q0, q1, q2, q3, q4, q5, q6, q7, q8, q9, q10, bOO] at hK'
   simp (maxSteps:=4000000)(disch:=first|assumption|(simp only[dz];first|done|assumption|omega)|omega|apply_rules[Fr.refl,Fr.alloc,Fr.drew]|rfl) only [↓gd,gp,Nat.reduceAdd,Nat.reduceEqDiff, ↓hk52, q0, q1, q2, q3, q4, q5, q6, q7, q8, q9, q10]
   exact hK' _
 | true =>
 cases q11 : decide (u.err = 0) with
 | false =>
   simp only [q0, q1, q2, q3, q4, q5, q6, q7, q8, q9, q10, q11, bOO] at hK'
   simp (maxSteps:=4000000)(disch:=first|assumption|(simp only[dz];first|done|assumption|omega)|omega|apply_rules[Fr.refl,Fr.alloc,Fr.drew]|rfl) only [↓gd,gp,Nat.reduceAdd,Nat.reduceEqDiff, ↓hk52, q0, q1, q2, q3, q4, q5, q6, q7, q8, q9, q10, q11]
   exact hK' _
 | true =>
 cases q12 : decide (u.n = 0) with
 | false =>
   simp only [q0, q1, q2, q3, q4, q5, q6, q7, q8, q9, q10, q11, q12, bOO] at hK'
   simp (maxSteps:=4000000)(disch:=first|assumption|(simp only[dz];first|done|assumption|omega)|omega|apply_rules[Fr.refl,Fr.alloc,Fr.drew]|rfl) only [↓gd,gp,Nat.reduceAdd,Nat.reduceEqDiff, ↓hk52, q0, q1, q2, q3, q4, q5, q6, q7, q8, q9, q10, q11, q12]
   exact hK' _
 | true =>
 cases q13 : decide ((u.wl : Int) = 0) with
 | false =>
   simp only [q0, q1, q2, q3, q4, q5, q6, q7, q8, q9, q10, q11, q12, q13, bOO] at hK'
   simp (maxSteps:=4000000)(disch:=first|assumption|(simp only[dz];first|done|assumption|omega)|omega|apply_rules[Fr.refl,Fr.alloc,Fr.drew]|rfl) only [↓gd,gp,Nat.reduceAdd,Nat.reduceEqDiff, ↓hk52, q0, q1, q2, q3, q4, q5, q6, q7, q8, q9, q10, q11, q12, q13]
   exact hK' _
 | true =>
 cases q14 : decide ((u.kl : Int) = 0) with
 | false =>
   simp only [q0, q1, q2, q3, q4, q5, q6, q7, q8, q9, q10, q11, q12, q13, q14, bOO] at hK'
   simp (maxSteps:=4000000)(disch:=first|assumption|(simp only[dz];first|done|assumption|omega)|omega|apply_rules[Fr.refl,Fr.alloc,Fr.drew]|rfl) only [↓gd,gp,Nat.reduceAdd,Nat.reduceEqDiff, ↓hk52, q0, q1, q2, q3, q4, q5, q6, q7, q8, q9, q10, q11, q12, q13, q14]
   exact hK' _
 | true =>
 simp only [q0, q1, q2, q3, q4, q5, q6, q7, q8, q9, q10, q11, q12, q13, q14, bOO] at hK'
 simp (maxSteps:=4000000)(disch:=first|assumption|(simp only[dz];first|done|assumption|omega)|omega|apply_rules[Fr.refl,Fr.alloc,Fr.drew]|rfl) only [↓gd,gp,Nat.reduceAdd,Nat.reduceEqDiff, ↓hk52, q0, q1, q2, q3, q4, q5, q6, q7, q8, q9, q10, q11, q12, q13, q14]
 exact hK' _
end Go.Proofs.YtgloomahpjpiiaaGreat.Or
namespace Go.Proofs.YtgloomahpjpiiaaGreat.Or
open Go.VW
structure Fa where
 key : ByteArray
 has : Bool
 data : ByteArray
 lo : Int
 hi : Int
def encFct (e : Fa) : List Value := [.string e.key, .bool e.has, .string e.data, .int .i64 e.lo, .int .i64 e.hi]
def goodF (e : Fa) : Bool := if (decide (e.key = (⟨#[]⟩ : ByteArray)) || decide ((32 : Int) < (e.key.size : Int))) = true then false else if (decide ((256 : Int) < (e.data.size : Int)) || (!e.has && !decide (e.data = (⟨#[]⟩ : ByteArray)))) = true then false else decide ((0 : Int) ≤ e.lo) && decide (e.lo ≤ (1099511627776 : Int)) && decide (e.lo < e.hi) && (decide (e.hi = (4611686018427387904 : Int)) || decide (e.hi ≤ (1099511627777 : Int)))
set_option maxHeartbeats 16000000 in
theorem goodF_spec {e : Fa} {w : World} {K : Value → World → Prop} (hK : ∀ w', Fr [] w w' → K (.bool (goodF e)) w') : CallsN Tryz.prog 96 [.agg (encFct e).toArray] w K := by
 have cw := cur w
 have hK' := hK _ ((Fr.refl [] w).alloc (.cells (encFct e).toArray 57))
 unfold goodF at hK'
 unfold encFct at hK' ⊢
 refine call96 ?_
 rcases Bool.eq_false_or_eq_true (decide (e.key = (⟨#[]⟩ : ByteArray))) with q0 | q0
 ·simp only [q0, Bool.true_or, Bool.false_or, Bool.or_true, Bool.or_false, Bool.true_and, Bool.false_and, Bool.and_true, Bool.and_false, Bool.not_true, Bool.not_false, if_true, if_false, reduceCtorEq, ite_true, ite_false] at hK'
  simp (maxSteps:=4000000)(disch:=first|assumption|(simp only[dz];first|done|assumption|omega)|omega|apply_rules[Fr.refl,Fr.alloc,Fr.drew]|rfl) only [↓gd,gp,Nat.reduceAdd,Nat.reduceEqDiff, ↓hk96, q0]
  exact hK'
 ·rcases Bool.eq_false_or_eq_true (decide ((32 : Int) < (e.key.size : Int))) with q1 | q1
  ·simp only [q0, q1, Bool.true_or, Bool.false_or, Bool.or_true, Bool.or_false, Bool.true_and, Bool.false_and, Bool.and_true, Bool.and_false, Bool.not_true, Bool.not_false, if_true, if_false, reduceCtorEq, ite_true, ite_false] at hK'
   simp (maxSteps:=4000000)(disch:=first|assumption|(simp only[dz];first|done|assumption|omega)|omega|apply_rules[Fr.refl,Fr.alloc,Fr.drew]|rfl) only [↓gd,gp,Nat.reduceAdd,Nat.reduceEqDiff, ↓hk96, q0, q1]
   exact hK'
  ·rcases Bool.eq_false_or_eq_true (decide ((256 : Int) < (e.data.size : Int))) with q2 | q2
   ·simp only [q0, q1, q2, Bool.true_or, Bool.false_or, Bool.or_true, Bool.or_false, Bool.true_and, Bool.false_and, Bool.and_true, Bool.and_false, Bool.not_true, Bool.not_false, if_true, if_false, reduceCtorEq, ite_true, ite_false] at hK'
    simp (maxSteps:=4000000)(disch:=first|assumption|(simp only[dz];first|done|assumption|omega)|omega|apply_rules[Fr.refl,Fr.alloc,Fr.drew]|rfl) only [↓gd,gp,Nat.reduceAdd,Nat.reduceEqDiff, ↓hk96, q0, q1, q2]
    exact hK'
   ·rcases Bool.eq_false_or_eq_true (e.has) with q3 | q3
    ·rcases Bool.eq_false_or_eq_true (decide ((0 : Int) ≤ e.lo)) with q5 | q5
     ·rcases Bool.eq_false_or_eq_true (decide (e.lo ≤ (1099511627776 : Int))) with q6 | q6
      ·rcases Bool.eq_false_or_eq_true (decide (e.lo < e.hi)) with q7 | q7
       ·rcases Bool.eq_false_or_eq_true (decide (e.hi = (4611686018427387904 : Int))) with q8 | q8
        ·simp only [q0, q1, q2, q3, q5, q6, q7, q8, Bool.true_or, Bool.false_or, Bool.or_true, Bool.or_false, Bool.true_and, Bool.false_and, Bool.and_true, Bool.and_false, Bool.not_true, Bool.not_false, if_true, if_false, reduceCtorEq, ite_true, ite_false] at hK'
         simp (maxSteps:=4000000)(disch:=first|assumption|(simp only[dz];first|done|assumption|omega)|omega|apply_rules[Fr.refl,Fr.alloc,Fr.drew]|rfl) only [↓gd,gp,Nat.reduceAdd,Nat.reduceEqDiff, ↓hk96, q0, q1, q2, q3, q5, q6, q7, q8]
         exact hK'
        ·rcases Bool.eq_false_or_eq_true (decide (e.hi ≤ (1099511627777 : Int))) with q9 | q9
         ·simp only [q0, q1, q2, q3, q5, q6, q7, q8, q9, Bool.true_or, Bool.false_or, Bool.or_true, Bool.or_false, Bool.true_and, Bool.false_and, Bool.and_true, Bool.and_false, Bool.not_true, Bool.not_false, if_true, if_false, reduceCtorEq, ite_true, ite_false] at hK'
          simp (maxSteps:=4000000)(disch:=first|assumption|(simp only[dz];first|done|assumption|omega)|omega|apply_rules[Fr.refl,Fr.alloc,Fr.drew]|rfl) only [↓gd,gp,Nat.reduceAdd,Nat.reduceEqDiff, ↓hk96, q0, q1, q2, q3, q5, q6, q7, q8, q9]
          exact hK'
         ·simp only [q0, q1, q2, q3, q5, q6, q7, q8, q9, Bool.true_or, Bool.false_or, Bool.or_true, Bool.or_false, Bool.true_and, Bool.false_and, Bool.and_true, Bool.and_false, Bool.not_true, Bool.not_false, if_true, if_false, reduceCtorEq, ite_true, ite_false] at hK'
          simp (maxSteps:=4000000)(disch:=first|assumption|(simp only[dz];first|done|assumption|omega)|omega|apply_rules[Fr.refl,Fr.alloc,Fr.drew]|rfl) only [↓gd,gp,Nat.reduceAdd,Nat.reduceEqDiff, ↓hk96, q0, q1, q2, q3, q5, q6, q7, q8, q9]
          exact hK'
       ·simp only [q0, q1, q2, q3, q5, q6, q7, Bool.true_or, Bool.false_or, Bool.or_true, Bool.or_false, Bool.true_and, Bool.false_and, Bool.and_true, Bool.and_false, Bool.not_true, Bool.not_false, if_true, if_false, reduceCtorEq, ite_true, ite_false] at hK'
        simp (maxSteps:=4000000)(disch:=first|assumption|(simp only[dz];first|done|assumption|omega)|omega|apply_rules[Fr.refl,Fr.alloc,Fr.drew]|rfl) only [↓gd,gp,Nat.reduceAdd,Nat.reduceEqDiff, ↓hk96, q0, q1, q2, q3, q5, q6, q7]
        exact hK'
      ·simp only [q0, q1, q2, q3, q5, q6, Bool.true_or, Bool.false_or, Bool.or_true, Bool.or_false, Bool.true_and, Bool.false_and, Bool.and_true, Bool.and_false, Bool.not_true, Bool.not_false, if_true, if_false, reduceCtorEq, ite_true, ite_false] at hK'
       simp (maxSteps:=4000000)(disch:=first|assumption|(simp only[dz];first|done|assumption|omega)|omega|apply_rules[Fr.refl,Fr.alloc,Fr.drew]|rfl) only [↓gd,gp,Nat.reduceAdd,Nat.reduceEqDiff, ↓hk96, q0, q1, q2, q3, q5, q6]
       exact hK'
     ·simp only [q0, q1, q2, q3, q5, Bool.true_or, Bool.false_or, Bool.or_true, Bool.or_false, Bool.true_and, Bool.false_and, Bool.and_true, Bool.and_false, Bool.not_true, Bool.not_false, if_true, if_false, reduceCtorEq, ite_true, ite_false] at hK'
      simp (maxSteps:=4000000)(disch:=first|assumption|(simp only[dz];first|done|assumption|omega)|omega|apply_rules[Fr.refl,Fr.alloc,Fr.drew]|rfl) only [↓gd,gp,Nat.reduceAdd,Nat.reduceEqDiff, ↓hk96, q0, q1, q2, q3, q5]
      exact hK'
    ·rcases Bool.eq_false_or_eq_true (decide (e.data = (⟨#[]⟩ : ByteArray))) with q4 | q4
     ·rcases Bool.eq_false_or_eq_true (decide ((0 : Int) ≤ e.lo)) with q5 | q5
      ·rcases Bool.eq_false_or_eq_true (decide (e.lo ≤ (1099511627776 : Int))) with q6 | q6
       ·rcases Bool.eq_false_or_eq_true (decide (e.lo < e.hi)) with q7 | q7
        ·rcases Bool.eq_false_or_eq_true (decide (e.hi = (4611686018427387904 : Int))) with q8 | q8
         ·simp only [q0, q1, q2, q3, q4, q5, q6, q7, q8, Bool.true_or, Bool.false_or, Bool.or_true, Bool.or_false, Bool.true_and, Bool.false_and, Bool.and_true, Bool.and_false, Bool.not_true, Bool.not_false, if_true, if_false, reduceCtorEq, ite_true, ite_false] at hK'
          simp (maxSteps:=4000000)(disch:=first|assumption|(simp only[dz];first|done|assumption|omega)|omega|apply_rules[Fr.refl,Fr.alloc,Fr.drew]|rfl) only [↓gd,gp,Nat.reduceAdd,Nat.reduceEqDiff, ↓hk96, q0, q1, q2, q3, q4, q5, q6, q7, q8]
          exact hK'
         ·rcases Bool.eq_false_or_eq_true (decide (e.hi ≤ (1099511627777 : Int))) with q9 | q9
          ·simp only [q0, q1, q2, q3, q4, q5, q6, q7, q8, q9, Bool.true_or, Bool.false_or, Bool.or_true, Bool.or_false, Bool.true_and, Bool.false_and, Bool.and_true, Bool.and_false, Bool.not_true, Bool.not_false, if_true, if_false, reduceCtorEq, ite_true, ite_false] at hK'
           simp (maxSteps:=4000000)(disch:=first|assumption|(simp only[dz];first|done|assumption|omega)|omega|apply_rules[Fr.refl,Fr.alloc,Fr.drew]|rfl) only [↓gd,gp,Nat.reduceAdd,Nat.reduceEqDiff, ↓hk96, q0, q1, q2, q3, q4, q5, q6, q7, q8, q9]
           exact hK'
          ·simp only [q0, q1, q2, q3, q4, q5, q6, q7, q8, q9, Bool.true_or, Bool.false_or, Bool.or_true, Bool.or_false, Bool.true_and, Bool.false_and, Bool.and_true, Bool.and_false, Bool.not_true, Bool.not_false, if_true, if_false, reduceCtorEq, ite_true, ite_false] at hK'
           simp (maxSteps:=4000000)(disch:=first|assumption|(simp only[dz];first|done|assumption|omega)|omega|apply_rules[Fr.refl,Fr.alloc,Fr.drew]|rfl) only [↓gd,gp,Nat.reduceAdd,Nat.reduceEqDiff, ↓hk96, q0, q1, q2, q3, q4, q5, q6, q7, q8, q9]
           exact hK'
        ·simp only [q0, q1, q2, q3, q4, q5, q6, q7, Bool.true_or, Bool.false_or, Bool.or_true, Bool.or_false, Bool.true_and, Bool.false_and, Bool.and_true, Bool.and_false, Bool.not_true, Bool.not_false, if_true, if_false, reduceCtorEq, ite_true, ite_false] at hK'
         simp (maxSteps:=4000000)(disch:=first|assumption|(simp only[dz];first|done|assumption|omega)|omega|apply_rules[Fr.refl,Fr.alloc,Fr.drew]|rfl) only [↓gd,gp,Nat.reduceAdd,Nat.reduceEqDiff, ↓hk96, q0, q1, q2, q3, q4, q5, q6, q7]
         exact hK'
       ·simp only [q0, q1, q2, q3, q4, q5, q6, Bool.true_or, Bool.false_or, Bool.or_true, Bool.or_false, Bool.true_and, Bool.false_and, Bool.and_true, Bool.and_false, Bool.not_true, Bool.not_false, if_true, if_false, reduceCtorEq, ite_true, ite_false] at hK'
        simp (maxSteps:=4000000)(disch:=first|assumption|(simp only[dz];first|done|assumption|omega)|omega|apply_rules[Fr.refl,Fr.alloc,Fr.drew]|rfl) only [↓gd,gp,Nat.reduceAdd,Nat.reduceEqDiff, ↓hk96, q0, q1, q2, q3, q4, q5, q6]
        exact hK'
      ·simp only [q0, q1, q2, q3, q4, q5, Bool.true_or, Bool.false_or, Bool.or_true, Bool.or_false, Bool.true_and, Bool.false_and, Bool.and_true, Bool.and_false, Bool.not_true, Bool.not_false, if_true, if_false, reduceCtorEq, ite_true, ite_false] at hK'
       simp (maxSteps:=4000000)(disch:=first|assumption|(simp only[dz];first|done|assumption|omega)|omega|apply_rules[Fr.refl,Fr.alloc,Fr.drew]|rfl) only [↓gd,gp,Nat.reduceAdd,Nat.reduceEqDiff, ↓hk96, q0, q1, q2, q3, q4, q5]
       exact hK'
     ·simp only [q0, q1, q2, q3, q4, Bool.true_or, Bool.false_or, Bool.or_true, Bool.or_false, Bool.true_and, Bool.false_and, Bool.and_true, Bool.and_false, Bool.not_true, Bool.not_false, if_true, if_false, reduceCtorEq, ite_true, ite_false] at hK'
      simp (maxSteps:=4000000)(disch:=first|assumption|(simp only[dz];first|done|assumption|omega)|omega|apply_rules[Fr.refl,Fr.alloc,Fr.drew]|rfl) only [↓gd,gp,Nat.reduceAdd,Nat.reduceEqDiff, ↓hk96, q0, q1, q2, q3, q4]
      exact hK'
def gKey (k : ByteArray) : Bool := !(decide (k = (⟨#[]⟩ : ByteArray)) || decide ((32 : Int) < (k.size : Int)))
def gVal (b : Bool) (d : ByteArray) : Bool := !(decide ((256 : Int) < (d.size : Int)) || (!b && !decide (d = (⟨#[]⟩ : ByteArray))))
def gPin (lo hi : Int) : Bool := decide ((0 : Int) ≤ lo) && decide (lo ≤ (1099511627776 : Int)) && decide (lo < hi) && (decide (hi = (4611686018427387904 : Int)) || decide (hi ≤ (1099511627777 : Int)))
theorem goodF_key (k : ByteArray) : goodF ⟨k, false, ⟨#[]⟩, 0, 1⟩ = gKey k := by
 unfold goodF gKey
 cases (decide (k = (⟨#[]⟩ : ByteArray)) || decide ((32 : Int) < (k.size : Int))) <;> rfl
theorem goodF_val (b : Bool) (d : ByteArray) : goodF ⟨⟨#[107]⟩, b, d, 0, 1⟩ = gVal b d := by
 unfold goodF gVal
 have e : (decide ((⟨#[107]⟩ : ByteArray) = (⟨#[]⟩ : ByteArray)) || decide ((32 : Int) < ((⟨#[107]⟩ : ByteArray).size : Int))) = false := by decide
 simp only [e, Bool.false_eq_true, if_false]
 cases (decide ((256 : Int) < (d.size : Int)) || (!b && !decide (d = (⟨#[]⟩ : ByteArray)))) <;> rfl
theorem goodF_pin (lo hi : Int) : goodF ⟨⟨#[107]⟩, false, ⟨#[]⟩, lo, hi⟩ = gPin lo hi := by
 unfold goodF gPin
 have e : (decide ((⟨#[107]⟩ : ByteArray) = (⟨#[]⟩ : ByteArray)) || decide ((32 : Int) < ((⟨#[107]⟩ : ByteArray).size : Int))) = false := by decide
 have e2 : (decide ((256 : Int) < ((⟨#[]⟩ : ByteArray).size : Int)) || (!false && !decide ((⟨#[]⟩ : ByteArray) = (⟨#[]⟩ : ByteArray)))) = false := by decide
 rw [if_neg (by rw [e]; simp), if_neg (by rw [e2]; simp)]
theorem gkey_spec {k : ByteArray} {w : World} {K : Value → World → Prop} (hK : ∀ w', Fr [] w w' → K (.bool (gKey k)) w') : CallsN Tryz.prog 81 [.string k] w K := by
 have cw := cur w
 refine call81 ?_
 simp (maxSteps:=4000000)(disch:=first|assumption|(simp only[dz];first|done|assumption|omega)|omega|apply_rules[Fr.refl,Fr.alloc,Fr.drew]|rfl) only [↓gd,gp,Nat.reduceAdd,Nat.reduceEqDiff, ↓hk81]
 refine goodF_spec (e := ⟨k, false, ⟨#[]⟩, 0, 1⟩) fun w2 hf2 => ?_
 have cw2 := cur w2
 rw [goodF_key]
 try simp (maxSteps:=4000000)(disch:=first|assumption|(simp only[dz];first|done|assumption|omega)|omega|apply_rules[Fr.refl,Fr.alloc,Fr.drew]|rfl) only [↓gd,gp,Nat.reduceAdd,Nat.reduceEqDiff, ↓hk81]
 exact hK _ hf2
theorem gval_spec {b : Bool} {d : ByteArray} {w : World} {K : Value → World → Prop} (hK : ∀ w', Fr [] w w' → K (.bool (gVal b d)) w') : CallsN Tryz.prog 82 [.agg ([.bool b, .string d] : List Value).toArray] w K := by
 have cw := cur w
 refine call82 ?_
 simp (maxSteps:=4000000)(disch:=first|assumption|(simp only[dz];first|done|assumption|omega)|omega|apply_rules[Fr.refl,Fr.alloc,Fr.drew]|rfl) only [↓gd,gp,Nat.reduceAdd,Nat.reduceEqDiff, ↓hk82]
 generalize hW : World.alloc w _ = w1
 have hf1 : Fr [] w w1 := by rw [← hW]; (repeat (first | exact Fr.refl _ _ | assumption | with_reducible apply Fr.alloc | with_reducible apply Fr.drew | with_reducible refine Fr.setB ?_ _ _ (.inr (by first | omega | (simp only [gz]; omega))) | with_reducible refine Fr.setB ?_ _ _ (.inl (by first | assumption | simp)) | with_reducible refine Fr.trans' ?_ (by assumption)))
 have cw1 := cur w1
 refine goodF_spec (e := ⟨⟨#[107]⟩, b, d, 0, 1⟩) fun w2 hf2 => ?_
 have cw2 := cur w2
 rw [goodF_val]
 try simp (maxSteps:=4000000)(disch:=first|assumption|(simp only[dz];first|done|assumption|omega)|omega|apply_rules[Fr.refl,Fr.alloc,Fr.drew]|rfl) only [↓gd,gp,Nat.reduceAdd,Nat.reduceEqDiff, ↓hk82]
 exact hK _ (hf1.trans' hf2)
theorem gpin_spec {lo hi : Int} {w : World} {K : Value → World → Prop} (hK : ∀ w', Fr [] w w' → K (.bool (gPin lo hi)) w') : CallsN Tryz.prog 84 [.agg ([.int .i64 lo, .int .i64 hi] : List Value).toArray] w K := by
 have cw := cur w
 refine call84 ?_
 simp (maxSteps:=4000000)(disch:=first|assumption|(simp only[dz];first|done|assumption|omega)|omega|apply_rules[Fr.refl,Fr.alloc,Fr.drew]|rfl) only [↓gd,gp,Nat.reduceAdd,Nat.reduceEqDiff, ↓hk84]
 generalize hW : World.alloc w _ = w1
 have hf1 : Fr [] w w1 := by rw [← hW]; (repeat (first | exact Fr.refl _ _ | assumption | with_reducible apply Fr.alloc | with_reducible apply Fr.drew | with_reducible refine Fr.setB ?_ _ _ (.inr (by first | omega | (simp only [gz]; omega))) | with_reducible refine Fr.setB ?_ _ _ (.inl (by first | assumption | simp)) | with_reducible refine Fr.trans' ?_ (by assumption)))
 have cw1 := cur w1
 refine goodF_spec (e := ⟨⟨#[107]⟩, false, ⟨#[]⟩, lo, hi⟩) fun w2 hf2 => ?_
 have cw2 := cur w2
 rw [goodF_pin]
 try simp (maxSteps:=4000000)(disch:=first|assumption|(simp only[dz];first|done|assumption|omega)|omega|apply_rules[Fr.refl,Fr.alloc,Fr.drew]|rfl) only [↓gd,gp,Nat.reduceAdd,Nat.reduceEqDiff, ↓hk84]
 exact hK _ (hf1.trans' hf2)
def badW (x : St.Wr) : Bool := !gKey x.key || !gVal x.has x.data
theorem badW_spec {x : St.Wr} {w : World} {K : Value → World → Prop} (hK : ∀ w', Fr [] w w' → K (.bool (badW x)) w') : CallsN Tryz.prog 80 [.agg (St.encWr x).toArray] w K := by
 have cw := cur w
 unfold badW at hK
 refine call80 ?_
 unfold St.encWr
 simp (maxSteps:=4000000)(disch:=first|assumption|(simp only[dz];first|done|assumption|omega)|omega|apply_rules[Fr.refl,Fr.alloc,Fr.drew]|rfl) only [↓gd,gp,Nat.reduceAdd,Nat.reduceEqDiff, ↓hk80]
 generalize hW : World.alloc w _ = w1
 have hf1 : Fr [] w w1 := by rw [← hW]; (repeat (first | exact Fr.refl _ _ | assumption | with_reducible apply Fr.alloc | with_reducible apply Fr.drew | with_reducible refine Fr.setB ?_ _ _ (.inr (by first | omega | (simp only [gz]; omega))) | with_reducible refine Fr.setB ?_ _ _ (.inl (by first | assumption | simp)) | with_reducible refine Fr.trans' ?_ (by assumption)))
 have ga : w1.heap[w.heap.size]? = some (.cells ([.string x.key, .bool x.has, .string x.data] : List Value).toArray 66 (0, 0)) := by rw [← hW]; exact get_alloc_new _ _
 clear hW
 have cw1 := cur w1
 refine gkey_spec fun w2 hf2 => ?_
 have cw2 := cur w2
 have ga2 := hf2.getN ga
 have la2 := lt_of_get _ _ ga2
 have hF2 := hf1.trans' hf2
 cases q : gKey x.key with
 | false =>
   simp only [q, Bool.not_false, Bool.true_or] at hK
   simp (maxSteps:=4000000)(disch:=first|assumption|(simp only[dz];first|done|assumption|omega)|omega|apply_rules[Fr.refl,Fr.alloc,Fr.drew]|rfl) only [↓gd,gp,Nat.reduceAdd,Nat.reduceEqDiff, ↓hk80, q]
   exact hK _ hF2
 | true =>
   simp only [q, Bool.not_true, Bool.false_or] at hK
   simp (maxSteps:=4000000)(disch:=first|assumption|(simp only[dz];first|done|assumption|omega)|omega|apply_rules[Fr.refl,Fr.alloc,Fr.drew]|rfl) only [↓gd,gp,Nat.reduceAdd,Nat.reduceEqDiff, ↓hk80, q, ga2]
   refine gval_spec fun w3 hf3 => ?_
   have cw3 := cur w3
   try simp (maxSteps:=4000000)(disch:=first|assumption|(simp only[dz];first|done|assumption|omega)|omega|apply_rules[Fr.refl,Fr.alloc,Fr.drew]|rfl) only [↓gd,gp,Nat.reduceAdd,Nat.reduceEqDiff, ↓hk80]
   exact hK _ (hF2.trans' hf3)
theorem badS_spec {k : ByteArray} {w : World} {K : Value → World → Prop} (hK : ∀ w', Fr [] w w' → K (.bool (!gKey k)) w') : CallsN Tryz.prog 85 [.string k] w K := by
 have cw := cur w
 refine call85 ?_
 simp (maxSteps:=4000000)(disch:=first|assumption|(simp only[dz];first|done|assumption|omega)|omega|apply_rules[Fr.refl,Fr.alloc,Fr.drew]|rfl) only [↓gd,gp,Nat.reduceAdd,Nat.reduceEqDiff, ↓hk85]
 refine gkey_spec fun w2 hf2 => ?_
 have cw2 := cur w2
 try simp (maxSteps:=4000000)(disch:=first|assumption|(simp only[dz];first|done|assumption|omega)|omega|apply_rules[Fr.refl,Fr.alloc,Fr.drew]|rfl) only [↓gd,gp,Nat.reduceAdd,Nat.reduceEqDiff, ↓hk85]
 exact hK _ hf2
end Go.Proofs.YtgloomahpjpiiaaGreat.Or
