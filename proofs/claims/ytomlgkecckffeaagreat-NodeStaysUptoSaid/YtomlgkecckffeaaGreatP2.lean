/- The plain law of the policy's order (layer 11): the code's rank and the document's Before. The policy: rank, compare, Before, Victim. The policy: Before, Victim. -/
import Derived.Test.YtomlgkecckffeaaGreatCB
import Derived.Test.YtomlgkecckffeaaGreatVE
import Derived.Test.YtomlgkecckffeaaGreatKS
set_option linter.unusedVariables false
set_option linter.unusedSimpArgs false
namespace Go.Proofs.YtomlgkecckffeaaGreat
open Go.VW
structure Pol where
 hi : Int
 hot : Bool
 stamp : Int
 ins : Int
abbrev openI : Int := 4611686018427387904
def rankL (e : Pol) : List Int := if e.hi ≠ openI then [0, 0, e.hi, e.ins] else [1, if e.hot then 1 else 0, e.stamp, e.ins]
def lexI : List Int → List Int → Int
 | x :: a, y :: b => if x < y then -1 else if y < x then 1 else lexI a b
 | [], [] => 0
 | [], _ => -1
 | _, [] => 1
def befB (a b : Pol) : Bool :=
 if decide (a.hi ≠ openI) ≠ decide (b.hi ≠ openI) then decide (a.hi ≠ openI)
 else if a.hi ≠ openI ∧ a.hi ≠ b.hi then decide (a.hi < b.hi)
 else if a.hi = openI ∧ a.hot ≠ b.hot then b.hot
 else if a.hi = openI ∧ a.stamp ≠ b.stamp then decide (a.stamp < b.stamp)
 else decide (a.ins < b.ins)
theorem lex1 {a b : List Int} {x y : Int} : lexI (x :: a) (y :: b) < 0 ↔ x < y ∨ x = y ∧ lexI a b < 0 := by
 rw [lexI]
 split
 ·rename_i h; exact ⟨fun _ => .inl h, fun _ => by decide⟩
 ·split
  ·exact ⟨fun h => absurd h (by decide), fun h => by omega⟩
  ·exact ⟨fun h => .inr ⟨by omega, h⟩, fun h => by omega⟩
theorem lex0 : ¬ lexI [] [] < 0 := by decide
theorem before_eq (a b : Pol) : decide (lexI (rankL a) (rankL b) < 0) = befB a b := by
 obtain ⟨h1, t1, s1, i1⟩ := a
 obtain ⟨h2, t2, s2, i2⟩ := b
 unfold rankL befB
 simp only
 by_cases q1 : h1 = openI <;> by_cases q2 : h2 = openI
 ·subst q1; subst q2
  simp only [ne_eq, not_true_eq_false, decide_false, if_false, false_and, true_and, lex1, lex0, and_false, or_false]
  cases t1 <;> cases t2
  all_goals
   by_cases q3 : s1 = s2
   ·subst q3; simp
   ·simp [q3]
 ·subst q1
  simp [q2, lex1]
 ·subst q2
  simp [q1, lex1]
 ·by_cases q3 : h1 = h2
  ·subst q3; simp [q1, lex1, lex0]
  ·simp [q1, q2, q3, lex1, lex0]
end Go.Proofs.YtomlgkecckffeaaGreat

set_option maxRecDepth 10000
namespace Go.Proofs.YtomlgkecckffeaaGreat
open Go.VW
def polOf (e : Ent) : Pol := ⟨e.hi, e.hot, e.stamp, e.ins⟩
abbrev encI1 (v : Int) : List Value := [.int .i64 v]
theorem encI1_len (v : Int) : (encI1 v).length = 1 := rfl
def intsV (l : List Int) : List Value := l.map (Value.int .i64)
set_option linter.defProp false in
def ldA (b i : Nat) (w : World) (K : Value → World → Prop) := run_loadAtN (P := Tryz.prog) Tryz.isAgg202 Tryz.sizeOf202 b i w K
theorem bdA (a b c d : Int) (w : World) : (Instr.build 202 #[(0, .int .i64 a), (1, .int .i64 b), (2, .int .i64 c), (3, .int .i64 d)]).run Tryz.prog w = .ok (.agg ([.int .i64 a, .int .i64 b, .int .i64 c, .int .i64 d] : List Value).toArray) w := by
 simp only [Instr.build, Sem.run_bind, Tryz.zeroValue202, Tryz.runUnderlying202, Result.andThen_ok, Tryz.sizeOf2]
 rfl
theorem slA (b : Nat) (w : World) : (Instr.sliceAt 202 (.pointer (some ⟨b, 0, none⟩)) none none none).run Tryz.prog w = .ok (.slice (some ⟨b, 0, none⟩) 4 4) w := by
 simp only [Instr.sliceAt, Sem.run_bind, Tryz.runUnderlying202, Result.andThen_ok, Instr.sureAddr, sem_pure_bind, Tryz.sizeOf2]
 rfl
theorem tslA {M : Option (List Nat)} {w0 : World} (b : Nat) (K : Value → Prop) : takeP Tryz.prog (FrX M w0) (xv (Instr.sliceAt 202 (.pointer (some ⟨b, 0, none⟩)) none none none)) K = K (.slice (some ⟨b, 0, none⟩) 4 4) := takeP_xv (slA b) K
def rankW (e : Ent) (w : World) : World := (w.alloc (.cells (encEnt e).toArray 52)).alloc (.cells (intsV (rankL (polOf e))).toArray 202)
set_option maxHeartbeats 1000000 in
theorem rank_spec {e : Ent} {w : World} {K : Value → World → Prop} (hK : K (.agg (intsV (rankL (polOf e))).toArray) (rankW e w)) : CallsN Tryz.prog 147 [.agg (encEnt e).toArray] w K := by
 have cw := cur w
 unfold rankW rankL polOf intsV at hK
 refine call147 ?_
 unfold encEnt at hK ⊢
 by_cases h : e.hi = 4611686018427387904
 ·have d : decide (e.hi = 4611686018427387904) = true := decide_eq_true h
  simp only [h, ne_eq, not_true_eq_false, if_false] at hK
  cases ht : e.hot with
  | true =>
    rw [ht] at hK
    simp (maxSteps:=9^7)(disch:=first|assumption|(simp only[dz];first|done|assumption|omega)|omega|apply_rules[Fr.refl,Fr.alloc,Fr.drew]|rfl) only [↓gd,gp,Nat.reduceAdd,Nat.reduceEqDiff, ↓hk147, bdA, ldA, d, ht, h]
    exact hK
  | false =>
    rw [ht] at hK
    simp (maxSteps:=9^7)(disch:=first|assumption|(simp only[dz];first|done|assumption|omega)|omega|apply_rules[Fr.refl,Fr.alloc,Fr.drew]|rfl) only [↓gd,gp,Nat.reduceAdd,Nat.reduceEqDiff, ↓hk147, bdA, ldA, d, ht, h]
    exact hK
 ·have d : decide (e.hi = 4611686018427387904) = false := decide_eq_false h
  simp only [h, ne_eq, not_false_eq_true, if_true] at hK
  simp (maxSteps:=9^7)(disch:=first|assumption|(simp only[dz];first|done|assumption|omega)|omega|apply_rules[Fr.refl,Fr.alloc,Fr.drew]|rfl) only [↓gd,gp,Nat.reduceAdd,Nat.reduceEqDiff, ↓hk147, bdA, ldA, d]
  exact hK
theorem cmpI_lt {x y : Int} (h : x < y) : cmpI x y = -1 := if_pos h
theorem cmpI_gt {x y : Int} (h : y < x) : cmpI x y = 1 := by unfold cmpI; rw [if_neg (by omega), if_pos h]
theorem cmpI_eq (x : Int) : cmpI x x = 0 := by unfold cmpI; rw [if_neg (by omega), if_neg (by omega)]
set_option maxHeartbeats 4000000 in
theorem cmpSl_spec {w : World} {va vb : Value} {X Y : List Int} {K : Value → World → Prop} (hX : SlOf 1 encI1 w va X) (hY : SlOf 1 encI1 w vb Y) (hl : X.length = Y.length) (hb : X.length ≤ 1000)
  (hK : ∀ w', Fr [] w w' → K (.int .i64 (lexI X Y)) w') : CallsN Tryz.prog 148 [va, vb] w K := by
 have cw := cur w
 obtain ⟨aa, ca, hva⟩ := hX.form
 obtain ⟨ab, cb, hvb⟩ := hY.form
 refine call148 ?_
 simp (maxSteps:=9^7)(disch:=first|assumption|(simp only[dz];first|done|assumption|omega)|omega|apply_rules[Fr.refl,Fr.alloc,Fr.drew]|rfl) only [↓gd,gp,Nat.reduceAdd,Nat.reduceEqDiff, ↓hk148, hva, hvb]
 rw [← hva, ← hvb]
 refine for_intro X.length 11 0 (fun i e w' => e 1 = vb ∧ e 0 = va ∧ e 9 = va ∧ e 10 = .int .i64 X.length ∧ lexI X Y = lexI (X.drop i) (Y.drop i) ∧ Fr [] w w') ?_ (Nat.zero_le _) ?_ ?_
 ·simp (maxSteps:=9^7)(disch:=first|assumption|(simp only[dz];first|done|assumption|omega)|omega|apply_rules[Fr.refl,Fr.alloc,Fr.drew]|rfl) only [↓gsd,gs,gv,Nat.reduceAdd,Nat.reduceEqDiff, Int.natCast_zero]
 ·simp (maxSteps:=9^7)(disch:=first|assumption|(simp only[dz];first|done|assumption|omega)|omega|apply_rules[Fr.refl,Fr.alloc,Fr.drew]|rfl) only [↓gsd,gs,gv,Nat.reduceAdd,Nat.reduceEqDiff, hva, hvb]
  exact Fr.refl _ _
 rintro i e w1 kk hi eS ⟨e1, e0, e9, e10, hlex, hf⟩ hkk
 have cw1 := cur w1
 by_cases hil : i < X.length
 ·have d1 : decide ((i : Int) < (X.length : Int)) = true := decide_eq_true (by omega)
  have d2 : decide ((Y.length : Int) ≤ (i : Int)) = false := decide_eq_false (by omega)
  obtain ⟨x, hx⟩ : ∃ x, X[i]? = some x := ⟨X[i], List.getElem?_eq_getElem hil⟩
  obtain ⟨y, hy⟩ : ∃ y, Y[i]? = some y := ⟨Y[i]'(by omega), List.getElem?_eq_getElem _⟩
  obtain ⟨b1, o1, p1, ob1, hv1, hb1, _, _, hc1⟩ := (hX.frN hf).read encI1_len i x hx
  obtain ⟨b2, o2, p2, ob2, hv2, hb2, _, _, hc2⟩ := (hY.frN hf).read encI1_len i y hy
  have q1 := fun orig K => hc1 0 (.int .i64 x) orig K rfl
  have q2 := fun orig K => hc2 0 (.int .i64 y) orig K rfl
  simp only [Nat.add_zero, Nat.mul_one] at q1 q2
  have i0 : (0 : Int) ≤ (i : Int) := by omega
  have i1 : (i : Int) < (X.length : Int) := by omega
  have i2 : (i : Int) < (Y.length : Int) := by omega
  have dX : X.drop i = x :: X.drop (i + 1) := by
   obtain ⟨g1, g2⟩ := List.getElem?_eq_some_iff.1 hx
   rw [List.drop_eq_getElem_cons g1, g2]
  have dY : Y.drop i = y :: Y.drop (i + 1) := by
   obtain ⟨g1, g2⟩ := List.getElem?_eq_some_iff.1 hy
   rw [List.drop_eq_getElem_cons g1, g2]
  simp (maxSteps:=9^7)(disch:=first|assumption|(simp only[dz];first|done|assumption|omega)|omega|apply_rules[Fr.refl,Fr.alloc,Fr.drew]|rfl) only [↓gd,gp,Nat.reduceAdd,Nat.reduceEqDiff, ↓hk148, e0, e1, e9, e10, eS, hv1, hv2, d1, d2, i0, i1, i2, Int.toNat_natCast, Nat.mul_one, hb1, hb2, q1, q2]
  refine cmp_spec ?_
  rw [dX, dY, lexI] at hlex
  rcases Int.lt_trichotomy x y with h | h | h
  ·rw [if_pos h] at hlex
   rw [hlex] at hK
   have d3 : decide ((-1 : Int) = 0) = false := rfl
   simp (maxSteps:=9^7)(disch:=first|assumption|(simp only[dz];first|done|assumption|omega)|omega|apply_rules[Fr.refl,Fr.alloc,Fr.drew]|rfl) only [↓gd,gp,Nat.reduceAdd,Nat.reduceEqDiff, ↓hk148, e0, e1, e9, e10, eS, cmpI_lt h, d3]
   exact hK _ hf
  ·subst h
   rw [if_neg (by omega), if_neg (by omega)] at hlex
   have d3 : decide ((0 : Int) = 0) = true := rfl
   have wi : IntKind.i64.wrap ((i : Int) + 1) = (i : Int) + 1 := wrap64 (by omega) (by omega)
   simp (maxSteps:=9^7)(disch:=first|assumption|(simp only[dz];first|done|assumption|omega)|omega|apply_rules[Fr.refl,Fr.alloc,Fr.drew]|rfl) only [↓gd,gp,Nat.reduceAdd,Nat.reduceEqDiff, ↓hk148, e0, e1, e9, e10, eS, cmpI_eq, d3, wi]
   refine hkk _ _ hil rfl ?_
   simp (maxSteps:=9^7)(disch:=first|assumption|(simp only[dz];first|done|assumption|omega)|omega|apply_rules[Fr.refl,Fr.alloc,Fr.drew]|rfl) only [↓gsd,gs,gv,Nat.reduceAdd,Nat.reduceEqDiff, e0, e1, e9, e10, hv1, hv2]
   exact ⟨hlex, hf⟩
  ·rw [if_neg (by omega), if_pos h] at hlex
   rw [hlex] at hK
   have d3 : decide ((1 : Int) = 0) = false := rfl
   simp (maxSteps:=9^7)(disch:=first|assumption|(simp only[dz];first|done|assumption|omega)|omega|apply_rules[Fr.refl,Fr.alloc,Fr.drew]|rfl) only [↓gd,gp,Nat.reduceAdd,Nat.reduceEqDiff, ↓hk148, e0, e1, e9, e10, eS, cmpI_gt h, d3]
   exact hK _ hf
 ·have d1 : decide ((i : Int) < (X.length : Int)) = false := decide_eq_false (by omega)
  have d2 : decide ((X.length : Int) < (Y.length : Int)) = false := decide_eq_false (by omega)
  rw [List.drop_of_length_le (by omega), List.drop_of_length_le (by omega)] at hlex
  have hlex' : lexI X Y = 0 := hlex
  rw [hlex'] at hK
  simp (maxSteps:=9^7)(disch:=first|assumption|(simp only[dz];first|done|assumption|omega)|omega|apply_rules[Fr.refl,Fr.alloc,Fr.drew]|rfl) only [↓gd,gp,Nat.reduceAdd,Nat.reduceEqDiff, ↓hk148, e0, e1, e9, e10, eS, d1, hva, hvb, d2]
  exact hK _ hf
theorem rankL_len (p : Pol) : (rankL p).length = 4 := by unfold rankL; split <;> rfl
theorem intsV_cells (l : List Int) : cellsOf encI1 l = intsV l := by
 induction l with
 | nil => rfl
 | cons a l ih => simp only [cellsOf, List.flatMap_cons, intsV, List.map_cons] at *; rw [ih]; rfl
theorem rankV (p : Pol) : ∃ a b c d : Int, intsV (rankL p) = [.int .i64 a, .int .i64 b, .int .i64 c, .int .i64 d] := by
 unfold rankL
 split
 ·exact ⟨_, _, _, _, rfl⟩
 ·exact ⟨_, _, _, _, rfl⟩
set_option maxHeartbeats 4000000 in
theorem compare_spec {a b : Ent} {w : World} {K : Value → World → Prop} (hK : ∀ w', Fr [] w w' → K (.int .i64 (lexI (rankL (polOf a)) (rankL (polOf b)))) w') : CallsN Tryz.prog 87 [.agg (encEnt a).toArray, .agg (encEnt b).toArray] w K := by
 have cw := cur w
 obtain ⟨a0, a1, a2, a3, hra⟩ := rankV (polOf a)
 obtain ⟨b0, b1, b2, b3, hrb⟩ := rankV (polOf b)
 have ra := fun (w : World) (K : Value → World → Prop) => rank_spec (e := a) (w := w) (K := K)
 have rb := fun (w : World) (K : Value → World → Prop) => rank_spec (e := b) (w := w) (K := K)
 unfold rankW at ra rb
 rw [hra] at ra
 rw [hrb] at rb
 unfold encEnt at ra rb ⊢
 have fin : ∀ (e' : Env) (w' : World), Fr [] w w' → (∃ g5 g6 : Nat, e' 5 = .pointer (some ⟨g5, 0, none⟩) ∧ e' 6 = .pointer (some ⟨g6, 0, none⟩) ∧ w'.heap[g5]? = some (.cells ([.int .i64 a0, .int .i64 a1, .int .i64 a2, .int .i64 a3] : List Value).toArray 202 (0, 0)) ∧
   w'.heap[g6]? = some (.cells ([.int .i64 b0, .int .i64 b1, .int .i64 b2, .int .i64 b3] : List Value).toArray 202 (0, 0))) → W3 Tryz.prog 14 V87 c87_2 (retQ Tryz.prog [.tmp 4] K) e' w' := by
  rintro e' w' hf ⟨g5, g6, q5, q6, h5, h6⟩
  have cw' := cur w'
  simp (maxSteps:=9^7)(disch:=first|assumption|(simp only[dz];first|done|assumption|omega)|omega|apply_rules[Fr.refl,Fr.alloc,Fr.drew]|rfl) only [↓gd,gp,Nat.reduceAdd,Nat.reduceEqDiff, ↓hk87, q5, q6, slA, tslA]
  have lX := rankL_len (polOf a)
  have lY := rankL_len (polOf b)
  refine cmpSl_spec (X := rankL (polOf a)) (Y := rankL (polOf b)) ?_ ?_ (by rw [lX, lY]) (by omega) fun w2 hf2 => ?_
  ·unfold SlOf
   rw [intsV_cells, hra, lX]
   exact ⟨rfl, .inr ⟨g5, 0, 4, _, 202, (0, 0), rfl, h5, rfl⟩⟩
  ·unfold SlOf
   rw [intsV_cells, hrb, lY]
   exact ⟨rfl, .inr ⟨g6, 0, 4, _, 202, (0, 0), rfl, h6, rfl⟩⟩
  ·exact hK _ (hf.trans' ((Fr.refl _ _).drew.trans' hf2))
 refine call87 ?_
 simp (maxSteps:=9^7)(disch:=first|assumption|(simp only[dz];first|done|assumption|omega)|omega|apply_rules[Fr.refl,Fr.alloc,Fr.drew]|rfl) only [↓gd,gp,Nat.reduceAdd,Nat.reduceEqDiff, ↓c87_1_s, ↓c87_s, ↓w3t_87]
 generalize hW : World.alloc (World.alloc w _) _ = w1
 have hf1 : Fr [] w w1 := by rw [← hW]; exact fr_
 have hsz : w1.heap.size = w.heap.size + 1 + 1 := by rw [← hW]; simp only [gz]
 clear hW
 have cw1 := cur w1
 have hz1 := hf1.size
 repeat' (first | with_reducible refine And.intro ?_ ?_ | (with_reducible refine Or.inl ?_; (repeat first|exact Fr.refl _ _|assumption|with_reducible first|apply Fr.alloc|apply Fr.drew|refine Fr.setB ?_ _ _ (.inr (by first|omega|(simp only[gz];omega)))|refine Fr.setB ?_ _ _ (.inl (by first|assumption|simp))|refine Fr.trans' ?_ (by assumption)); done) | with_reducible refine ra _ _ ?_ | with_reducible refine rb _ _ ?_ | simp (maxSteps:=9^7)(disch:=first|assumption|(simp only[dz];first|done|assumption|omega)|omega|apply_rules[Fr.refl,Fr.alloc,Fr.drew]|rfl) only [↓gd,gp,Nat.reduceAdd,Nat.reduceEqDiff, hsz])
 all_goals
  refine fin _ _ ?_ ?_
  ·repeat (first | with_reducible apply Fr.alloc | with_reducible apply Fr.drew | with_reducible refine Fr.setB ?_ _ _ (.inr (by first | omega | (simp only [gz]; omega))))
   exact hf1
  ·simp (maxSteps:=9^7)(disch:=first|assumption|(simp only[dz];first|done|assumption|omega)|omega|apply_rules[Fr.refl,Fr.alloc,Fr.drew]|rfl) only [↓gsd,gs,gv,Nat.reduceAdd,Nat.reduceEqDiff, hsz]
   exact ⟨_, _, rfl, rfl, by simp (maxSteps:=9^7)(disch:=first|assumption|(simp only[dz];first|done|assumption|omega)|omega|apply_rules[Fr.refl,Fr.alloc,Fr.drew]|rfl) only [↓gsd,gs,gv,Nat.reduceAdd,Nat.reduceEqDiff, hsz], by simp (maxSteps:=9^7)(disch:=first|assumption|(simp only[dz];first|done|assumption|omega)|omega|apply_rules[Fr.refl,Fr.alloc,Fr.drew]|rfl) only [↓gsd,gs,gv,Nat.reduceAdd,Nat.reduceEqDiff, hsz]⟩
def befE (a b : Ent) : Bool := befB (polOf a) (polOf b)
theorem before_spec {a b : Ent} {w : World} {K : Value → World → Prop} (hK : ∀ w', Fr [] w w' → K (.bool (befE a b)) w') : CallsN Tryz.prog 149 [.agg (encEnt a).toArray, .agg (encEnt b).toArray] w K := by
 have cw := cur w
 refine call149 ?_
 unfold encEnt
 simp (maxSteps:=9^7)(disch:=first|assumption|(simp only[dz];first|done|assumption|omega)|omega|apply_rules[Fr.refl,Fr.alloc,Fr.drew]|rfl) only [↓gd,gp,Nat.reduceAdd,Nat.reduceEqDiff, ↓hk149]
 generalize hW : World.alloc (World.alloc w _) _ = w1
 have hf1 : Fr [] w w1 := by rw [← hW]; exact fr_
 clear hW
 have cw1 := cur w1
 refine compare_spec (a := a) (b := b) fun w2 hf2 => ?_
 have cw2 := cur w2
 have hb := before_eq (polOf a) (polOf b)
 simp (maxSteps:=9^7)(disch:=first|assumption|(simp only[dz];first|done|assumption|omega)|omega|apply_rules[Fr.refl,Fr.alloc,Fr.drew]|rfl) only [↓gd,gp,Nat.reduceAdd,Nat.reduceEqDiff, ↓hk149, hb]
 exact hK _ (hf1.trans' hf2)
def vicStep (l : Ents) (i : Nat) (best : Option Nat) : Option Nat := match l[i]? with
 | none => best
 | some e => match best with
   | none => some i
   | some b => if (l[b]?).any (befE e) = true then some i else some b
def vicTo (l : Ents) : Nat → Option Nat
 | 0 => none
 | i + 1 => vicStep l i (vicTo l i)
def vicE (l : Ents) : Option Nat := vicTo l l.length
def vicV : Option Nat → Int
 | none => -1
 | some b => b
theorem vicTo_lt {l : Ents} : ∀ {i b : Nat}, i ≤ l.length → vicTo l i = some b → b < i
 | 0, b, _, h => by cases h
 | i + 1, b, hi, h => by
   unfold vicTo vicStep at h
   have hg : l[i]? = some (l[i]'(by omega)) := List.getElem?_eq_getElem _
   rw [hg] at h
   simp only at h
   cases hq : vicTo l i with
   | none => rw [hq] at h; simp at h; omega
   | some c =>
     rw [hq] at h
     simp only at h
     have := vicTo_lt (by omega) hq
     split at h
     ·simp at h; omega
     ·simp at h; omega
set_option maxHeartbeats 4000000 in
theorem victim_spec {w : World} {v : Value} {l : Ents} {K : Value → World → Prop} (h : SlOf 8 encEnt w v l) (hb : l.length ≤ 1000000000000)
  (hK : ∀ w', Fr [] w w' → K (.int .i64 (vicV (vicE l))) w') : CallsN Tryz.prog 88 [v] w K := by
 have cw := cur w
 obtain ⟨va, vc, hv⟩ := h.form
 refine call88 ?_
 simp (maxSteps:=9^7)(disch:=first|assumption|(simp only[dz];first|done|assumption|omega)|omega|apply_rules[Fr.refl,Fr.alloc,Fr.drew]|rfl) only [↓gd,gp,Nat.reduceAdd,Nat.reduceEqDiff, ↓hk88, hv]
 rw [← hv]
 refine for_intro l.length 8 0 (fun i e w' => e 0 = v ∧ e 6 = v ∧ e 7 = .int .i64 l.length ∧ e 3 = .int .i64 (vicV (vicTo l i)) ∧ Fr [] w w') ?_ (Nat.zero_le _) ?_ ?_
 ·simp (maxSteps:=9^7)(disch:=first|assumption|(simp only[dz];first|done|assumption|omega)|omega|apply_rules[Fr.refl,Fr.alloc,Fr.drew]|rfl) only [↓gsd,gs,gv,Nat.reduceAdd,Nat.reduceEqDiff, Int.natCast_zero]
 ·simp (maxSteps:=9^7)(disch:=first|assumption|(simp only[dz];first|done|assumption|omega)|omega|apply_rules[Fr.refl,Fr.alloc,Fr.drew]|rfl) only [↓gsd,gs,gv,Nat.reduceAdd,Nat.reduceEqDiff, hv]
  exact ⟨rfl, Fr.refl _ _⟩
 rintro i e w1 kk hi eS ⟨e0, e6, e7, e3, hf⟩ hkk
 have cw1 := cur w1
 by_cases hil : i < l.length
 ·have d1 : decide ((i : Int) < (l.length : Int)) = true := decide_eq_true (by omega)
  obtain ⟨x, hx⟩ : ∃ x, l[i]? = some x := ⟨l[i], List.getElem?_eq_getElem hil⟩
  obtain ⟨b1, o1, p1, ob1, hv1, hb1, hbl1, hr1, _⟩ := (h.frN hf).read encEnt_len i x hx
  have i0 : (0 : Int) ≤ (i : Int) := by omega
  have i1 : (i : Int) < (l.length : Int) := by omega
  have wi : IntKind.i64.wrap ((i : Int) + 1) = (i : Int) + 1 := wrap64 (by omega) (by omega)
  unfold encEnt at hr1
  cases hq : vicTo l i with
  | none =>
    rw [hq] at e3
    have e3' : e 3 = .int .i64 (-1) := e3
    have d2 : decide ((-1 : Int) < 0) = true := rfl
    have hn : vicTo l (i + 1) = some i := by rw [vicTo, vicStep, hx, hq]
    simp (maxSteps:=9^7)(disch:=first|assumption|(simp only[dz];first|done|assumption|omega)|omega|apply_rules[Fr.refl,Fr.alloc,Fr.drew]|rfl) only [↓gd,gp,Nat.reduceAdd,Nat.reduceEqDiff, ↓hk88, e0, e3', e6, e7, eS, hv1, d1, d2, i0, i1, Int.toNat_natCast, hb1, hr1, wi]
    refine hkk _ _ hil rfl ?_
    simp (maxSteps:=9^7)(disch:=first|assumption|(simp only[dz];first|done|assumption|omega)|omega|apply_rules[Fr.refl,Fr.alloc,Fr.drew]|rfl) only [↓gsd,gs,gv,Nat.reduceAdd,Nat.reduceEqDiff, e0, e3', e6, e7, hv1, hn]
    exact ⟨rfl, fr_⟩
  | some c =>
    rw [hq] at e3
    have e3' : e 3 = .int .i64 (c : Int) := e3
    have hc := vicTo_lt hi hq
    have d2 : decide ((c : Int) < 0) = false := decide_eq_false (by omega)
    obtain ⟨y, hy⟩ : ∃ y, l[c]? = some y := ⟨l[c]'(by omega), List.getElem?_eq_getElem _⟩
    obtain ⟨b2, o2, p2, ob2, hv2, hb2, hbl2, hr2, _⟩ := (h.frN hf).read encEnt_len c y hy
    rw [hv1] at hv2
    simp only [Value.slice.injEq, Option.some.injEq, Addr.mk.injEq] at hv2
    obtain ⟨⟨rfl, rfl, _⟩, _, rfl⟩ := hv2
    rw [hb1] at hb2
    cases hb2
    have c0 : (0 : Int) ≤ (c : Int) := by omega
    have c1 : (c : Int) < (l.length : Int) := by omega
    have hn : vicTo l (i + 1) = if befE x y = true then some i else some c := by
     rw [vicTo, vicStep, hx, hq]
     simp only [hy, Option.any_some]
    unfold encEnt at hr2
    simp (maxSteps:=9^7)(disch:=first|assumption|(simp only[dz];first|done|assumption|omega)|omega|apply_rules[Fr.refl,Fr.alloc,Fr.drew]|rfl) only [↓gd,gp,Nat.reduceAdd,Nat.reduceEqDiff, ↓hk88, e0, e3', e6, e7, eS, hv1, d1, d2, i0, i1, c0, c1, Int.toNat_natCast, hb1, hr1, hr2, wi]
    refine before_spec (a := x) (b := y) fun w2 hf2 => ?_
    have cw2 := cur w2
    have hF2 : Fr [] w w2 := (hf.trans' (Fr.trans' fr_ hf2))
    cases hbf : befE x y with
    | true =>
      rw [hbf] at hn
      simp (maxSteps:=9^7)(disch:=first|assumption|(simp only[dz];first|done|assumption|omega)|omega|apply_rules[Fr.refl,Fr.alloc,Fr.drew]|rfl) only [↓gd,gp,Nat.reduceAdd,Nat.reduceEqDiff, ↓hk88, e0, e3', e6, e7, eS, wi]
      refine hkk _ _ hil rfl ?_
      simp (maxSteps:=9^7)(disch:=first|assumption|(simp only[dz];first|done|assumption|omega)|omega|apply_rules[Fr.refl,Fr.alloc,Fr.drew]|rfl) only [↓gsd,gs,gv,Nat.reduceAdd,Nat.reduceEqDiff, e0, e3', e6, e7, hv1, hn]
      exact ⟨rfl, hF2⟩
    | false =>
      rw [hbf] at hn
      simp (maxSteps:=9^7)(disch:=first|assumption|(simp only[dz];first|done|assumption|omega)|omega|apply_rules[Fr.refl,Fr.alloc,Fr.drew]|rfl) only [↓gd,gp,Nat.reduceAdd,Nat.reduceEqDiff, ↓hk88, e0, e3', e6, e7, eS, wi]
      refine hkk _ _ hil rfl ?_
      simp (maxSteps:=9^7)(disch:=first|assumption|(simp only[dz];first|done|assumption|omega)|omega|apply_rules[Fr.refl,Fr.alloc,Fr.drew]|rfl) only [↓gsd,gs,gv,Nat.reduceAdd,Nat.reduceEqDiff, e0, e3', e6, e7, hv1, hn]
      exact ⟨rfl, hF2⟩
 ·have d1 : decide ((i : Int) < (l.length : Int)) = false := decide_eq_false (by omega)
  obtain rfl : i = l.length := by omega
  simp (maxSteps:=9^7)(disch:=first|assumption|(simp only[dz];first|done|assumption|omega)|omega|apply_rules[Fr.refl,Fr.alloc,Fr.drew]|rfl) only [↓gd,gp,Nat.reduceAdd,Nat.reduceEqDiff, ↓hk88, e0, e3, e6, e7, eS, d1]
  exact hK _ hf
end Go.Proofs.YtomlgkecckffeaaGreat
