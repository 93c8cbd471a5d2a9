/- Table: Of; spans; Meets; Find; Get. -/
import Derived.Test.YtomlgkecckffeaaGreatAA
set_option linter.unusedVariables false
set_option linter.unusedSimpArgs false
set_option maxRecDepth 10000
namespace Go.Proofs.YtomlgkecckffeaaGreat
open Go.VW
theorem cloneE_spec {v : Value} {xs : Ents} {w : World} {K : Value → World → Prop} (h : SlOf 8 encEnt w v xs) (hlen : xs.length ≤ 1000000000000)
  (hK : ∀ v' w', Own 8 52 w' v' xs.length (cellsOf encEnt xs) → Fr [] w w' → (∀ b, v'.ownBlock = some b → w.heap.size ≤ b) → K v' w') : CallsN Tryz.prog 135 [v] w K := by
 obtain ⟨a, c, hv⟩ := h.form
 have cw := cur w
 refine call135 ?_
 cases a with
 | none =>
   have hx : xs = [] := List.eq_nil_of_length_eq_zero (Sl.none (hv ▸ h))
   simp (maxSteps:=9^7)(disch:=first|assumption|(simp only[dz];first|done|assumption|omega)|omega|apply_rules[Fr.refl,Fr.alloc,Fr.drew]|rfl) only [↓gd,gp,Nat.reduceAdd,Nat.reduceEqDiff, ↓hk135, hv]
   subst hx
   exact hK _ _ Own.nil (Fr.refl _ _) (by simp [Value.ownBlock])
 | some a =>
   obtain ⟨v', w', hr, ho, hf, hb⟩ := ap41 (ty := 41) (Own.new0 w) (h.frN ((Fr.refl [] w).alloc _)) (cellsE_one xs) (by omega)
   rw [hv] at hr
   simp (maxSteps:=9^7)(disch:=first|assumption|(simp only[dz];first|done|assumption|omega)|omega|apply_rules[Fr.refl,Fr.alloc,Fr.drew]|rfl) only [↓gd,gp,Nat.reduceAdd,Nat.reduceEqDiff, ↓hk135, hv, hr]
   refine hK v' w' (by simpa using ho) (((Fr.refl [] w).alloc _).trans hf fun x hx => ?_) fun b hb' => ?_
   ·simp only [blkL, Value.ownBlock, List.mem_singleton] at hx
    exact .inr (by omega)
   ·rcases hb with hb | ⟨b', hb1, hb2⟩
    ·rw [hb] at hb'
     simp only [Value.ownBlock, Option.some.injEq] at hb'
     omega
    ·rw [hb1] at hb'
     simp only [Option.some.injEq] at hb'
     rw [size_alloc] at hb2
     omega
theorem of_spec {w : World} {tb : Nat} {S : List Nat} {T : Tab} {N : Nat} {k : ByteArray} {K : Value → World → Prop} (h : TabAt w tb S T) (hwf : T.WF N) (hN : N ≤ 1000000000000)
  (hK : ∀ v' w', Own 8 52 w' v' (T.row k).length (cellsOf encEnt (T.row k)) → Fr [] w w' → (∀ b, v'.ownBlock = some b → w.heap.size ≤ b) → K v' w') : CallsN Tryz.prog 65 [.pointer (some ⟨tb, 0, none⟩), .string k] w K := by
 have cw := cur w
 refine call65 ?_
 simp (maxSteps:=9^7)(disch:=first|assumption|(simp only[dz];first|done|assumption|omega)|omega|apply_rules[Fr.refl,Fr.alloc,Fr.drew]|rfl) only [↓gd,gp,Nat.reduceAdd,Nat.reduceEqDiff, ↓hk65]
 refine row_spec h fun v hv _ => ?_
 try simp (maxSteps:=9^7)(disch:=first|assumption|(simp only[dz];first|done|assumption|omega)|omega|apply_rules[Fr.refl,Fr.alloc,Fr.drew]|rfl) only [↓gd,gp,Nat.reduceAdd,Nat.reduceEqDiff, ↓hk65]
 refine cloneE_spec (xs := T.row k) hv.sl (by have := hwf.len k; omega) fun v' w' hown hf hb => ?_
 have cw' := cur w'
 try simp (maxSteps:=9^7)(disch:=first|assumption|(simp only[dz];first|done|assumption|omega)|omega|apply_rules[Fr.refl,Fr.alloc,Fr.drew]|rfl) only [↓gd,gp,Nat.reduceAdd,Nat.reduceEqDiff, ↓hk65]
 exact hK _ _ hown hf hb
def encSp (s : Int × Int) : List Value := [.int .i64 s.1, .int .i64 s.2]
def spOf (lo hi : Int) : Int × Int := if hi ≤ lo then (0, 0) else (lo, hi)
theorem spOf_spec {lo hi : Int} {w : World} {K : Value → World → Prop} (hK : ∀ w', Fr [] w w' → K (.agg (encSp (spOf lo hi)).toArray) w') : CallsN Tryz.prog 143 [.int .i64 lo, .int .i64 hi] w K := by
 have cw := cur w
 unfold encSp spOf at hK
 refine call143 ?_
 by_cases h : hi ≤ lo
 ·have d : decide (hi ≤ lo) = true := decide_eq_true h
  rw [if_pos h] at hK
  simp (maxSteps:=9^7)(disch:=first|assumption|(simp only[dz];first|done|assumption|omega)|omega|apply_rules[Fr.refl,Fr.alloc,Fr.drew]|rfl) only [↓gd,gp,Nat.reduceAdd,Nat.reduceEqDiff, ↓hk143, d]
  exact hK _ (by (repeat first|exact Fr.refl _ _|assumption|with_reducible first|apply Fr.alloc|apply Fr.drew|refine Fr.setB ?_ _ _ (.inr (by first|omega|(simp only[gz];omega)))|refine Fr.setB ?_ _ _ (.inl (by first|assumption|simp))|refine Fr.trans' ?_ (by assumption)))
 ·have d : decide (hi ≤ lo) = false := decide_eq_false h
  rw [if_neg h] at hK
  simp (maxSteps:=9^7)(disch:=first|assumption|(simp only[dz];first|done|assumption|omega)|omega|apply_rules[Fr.refl,Fr.alloc,Fr.drew]|rfl) only [↓gd,gp,Nat.reduceAdd,Nat.reduceEqDiff, ↓hk143, d]
  exact hK _ (by (repeat first|exact Fr.refl _ _|assumption|with_reducible first|apply Fr.alloc|apply Fr.drew|refine Fr.setB ?_ _ _ (.inr (by first|omega|(simp only[gz];omega)))|refine Fr.setB ?_ _ _ (.inl (by first|assumption|simp))|refine Fr.trans' ?_ (by assumption)))
def spEmp (s : Int × Int) : Bool := decide (s.2 ≤ s.1)
theorem spEmpty_spec {s : Int × Int} {w : World} {K : Value → World → Prop} (hK : ∀ w', Fr [] w w' → K (.bool (spEmp s)) w') : CallsN Tryz.prog 159 [.agg (encSp s).toArray] w K := by
 have cw := cur w
 refine call159 ?_
 unfold encSp
 simp (maxSteps:=9^7)(disch:=first|assumption|(simp only[dz];first|done|assumption|omega)|omega|apply_rules[Fr.refl,Fr.alloc,Fr.drew]|rfl) only [↓gd,gp,Nat.reduceAdd,Nat.reduceEqDiff, ↓hk159]
 exact hK _ (by (repeat first|exact Fr.refl _ _|assumption|with_reducible first|apply Fr.alloc|apply Fr.drew|refine Fr.setB ?_ _ _ (.inr (by first|omega|(simp only[gz];omega)))|refine Fr.setB ?_ _ _ (.inl (by first|assumption|simp))|refine Fr.trans' ?_ (by assumption)))
def spMeet (a b : Int × Int) : Int × Int := spOf (max a.1 b.1) (min a.2 b.2)
theorem spMeet_spec {a b : Int × Int} {w : World} {K : Value → World → Prop} (hK : ∀ w', Fr [] w w' → K (.agg (encSp (spMeet a b)).toArray) w') : CallsN Tryz.prog 205 [.agg (encSp a).toArray, .agg (encSp b).toArray] w K := by
 have cw := cur w
 refine call205 ?_
 unfold encSp at *
 simp (maxSteps:=9^7)(disch:=first|assumption|(simp only[dz];first|done|assumption|omega)|omega|apply_rules[Fr.refl,Fr.alloc,Fr.drew]|rfl) only [↓gd,gp,Nat.reduceAdd,Nat.reduceEqDiff, ↓hk205]
 generalize hW : World.alloc _ _ = w1
 have hf1 : Fr [] w w1 := by rw [← hW]; (repeat first|exact Fr.refl _ _|assumption|with_reducible first|apply Fr.alloc|apply Fr.drew|refine Fr.setB ?_ _ _ (.inr (by first|omega|(simp only[gz];omega)))|refine Fr.setB ?_ _ _ (.inl (by first|assumption|simp))|refine Fr.trans' ?_ (by assumption))
 have hz1 : w1.heap.size = w.heap.size + 3 := by rw [← hW]; simp only [gz]
 have g1 : w1.heap[w.heap.size + 1 + 1]? = some (.cells ([.int .i64 0, .int .i64 0] : List Value).toArray 135 (0, 0)) := by rw [← hW]; simp (maxSteps:=9^7)(disch:=first|assumption|(simp only[dz];first|done|assumption|omega)|omega|apply_rules[Fr.refl,Fr.alloc,Fr.drew]|rfl) only [↓gsd,gs,gv,Nat.reduceAdd,Nat.reduceEqDiff]
 clear hW
 have cw1 := cur w1
 refine spOf_spec fun w2 hf2 => ?_
 have cw2 := cur w2
 have g2 := hf2.getN g1
 have hl2 := lt_of_get _ _ g2
 unfold encSp
 simp (maxSteps:=9^7)(disch:=first|assumption|(simp only[dz];first|done|assumption|omega)|omega|apply_rules[Fr.refl,Fr.alloc,Fr.drew]|rfl) only [↓gd,gp,Nat.reduceAdd,Nat.reduceEqDiff, ↓hk205, g2]
 exact hK _ ((hf1.trans' hf2).setB _ _ (.inr (by omega)))
def spMts (a b : Int × Int) : Bool := !(spEmp a) && !(spEmp b) && !(spEmp (spMeet a b))
theorem spMeets_spec {a b : Int × Int} {w : World} {K : Value → World → Prop} (hK : ∀ w', Fr [] w w' → K (.bool (spMts a b)) w') : CallsN Tryz.prog 178 [.agg (encSp a).toArray, .agg (encSp b).toArray] w K := by
 have cw := cur w
 unfold spMts at hK
 refine call178 ?_
 unfold encSp
 simp (maxSteps:=9^7)(disch:=first|assumption|(simp only[dz];first|done|assumption|omega)|omega|apply_rules[Fr.refl,Fr.alloc,Fr.drew]|rfl) only [↓gd,gp,Nat.reduceAdd,Nat.reduceEqDiff, ↓hk178]
 generalize hW : World.alloc _ _ = w1
 have hf1 : Fr [] w w1 := by rw [← hW]; (repeat first|exact Fr.refl _ _|assumption|with_reducible first|apply Fr.alloc|apply Fr.drew|refine Fr.setB ?_ _ _ (.inr (by first|omega|(simp only[gz];omega)))|refine Fr.setB ?_ _ _ (.inl (by first|assumption|simp))|refine Fr.trans' ?_ (by assumption))
 have ga : w1.heap[w.heap.size]? = some (.cells ([.int .i64 a.1, .int .i64 a.2] : List Value).toArray 135 (0, 0)) := by rw [← hW]; simp (maxSteps:=9^7)(disch:=first|assumption|(simp only[dz];first|done|assumption|omega)|omega|apply_rules[Fr.refl,Fr.alloc,Fr.drew]|rfl) only [↓gsd,gs,gv,Nat.reduceAdd,Nat.reduceEqDiff]
 have gb : w1.heap[w.heap.size + 1]? = some (.cells ([.int .i64 b.1, .int .i64 b.2] : List Value).toArray 135 (0, 0)) := by rw [← hW]; simp (maxSteps:=9^7)(disch:=first|assumption|(simp only[dz];first|done|assumption|omega)|omega|apply_rules[Fr.refl,Fr.alloc,Fr.drew]|rfl) only [↓gsd,gs,gv,Nat.reduceAdd,Nat.reduceEqDiff]
 clear hW
 have cw1 := cur w1
 have hla := lt_of_get _ _ ga
 have hlb := lt_of_get _ _ gb
 refine spEmpty_spec (s := a) fun w2 hf2 => ?_
 have cw2 := cur w2
 have ga2 := hf2.getN ga
 have gb2 := hf2.getN gb
 have hla2 := lt_of_get _ _ ga2
 have hlb2 := lt_of_get _ _ gb2
 cases q1 : spEmp a with
 | true =>
   rw [q1] at hK
   simp (maxSteps:=9^7)(disch:=first|assumption|(simp only[dz];first|done|assumption|omega)|omega|apply_rules[Fr.refl,Fr.alloc,Fr.drew]|rfl) only [↓gd,gp,Nat.reduceAdd,Nat.reduceEqDiff, ↓hk178, q1]
   exact hK _ (hf1.trans' hf2)
 | false =>
   rw [q1] at hK
   simp (maxSteps:=9^7)(disch:=first|assumption|(simp only[dz];first|done|assumption|omega)|omega|apply_rules[Fr.refl,Fr.alloc,Fr.drew]|rfl) only [↓gd,gp,Nat.reduceAdd,Nat.reduceEqDiff, ↓hk178, q1, gb2]
   refine spEmpty_spec (s := b) fun w3 hf3 => ?_
   have cw3 := cur w3
   have ga3 := hf3.getN ga2
   have gb3 := hf3.getN gb2
   have hla3 := lt_of_get _ _ ga3
   have hlb3 := lt_of_get _ _ gb3
   cases q2 : spEmp b with
   | true =>
     rw [q2] at hK
     simp (maxSteps:=9^7)(disch:=first|assumption|(simp only[dz];first|done|assumption|omega)|omega|apply_rules[Fr.refl,Fr.alloc,Fr.drew]|rfl) only [↓gd,gp,Nat.reduceAdd,Nat.reduceEqDiff, ↓hk178, q2]
     exact hK _ ((hf1.trans' hf2).trans' hf3)
   | false =>
     rw [q2] at hK
     simp (maxSteps:=9^7)(disch:=first|assumption|(simp only[dz];first|done|assumption|omega)|omega|apply_rules[Fr.refl,Fr.alloc,Fr.drew]|rfl) only [↓gd,gp,Nat.reduceAdd,Nat.reduceEqDiff, ↓hk178, q2, ga3, gb3]
     refine spMeet_spec (a := a) (b := b) fun w4 hf4 => ?_
     have cw4 := cur w4
     try simp (maxSteps:=9^7)(disch:=first|assumption|(simp only[dz];first|done|assumption|omega)|omega|apply_rules[Fr.refl,Fr.alloc,Fr.drew]|rfl) only [↓gd,gp,Nat.reduceAdd,Nat.reduceEqDiff, ↓hk178]
     refine spEmpty_spec fun w5 hf5 => ?_
     have cw5 := cur w5
     try simp (maxSteps:=9^7)(disch:=first|assumption|(simp only[dz];first|done|assumption|omega)|omega|apply_rules[Fr.refl,Fr.alloc,Fr.drew]|rfl) only [↓gd,gp,Nat.reduceAdd,Nat.reduceEqDiff, ↓hk178]
     exact hK _ ((((hf1.trans' hf2).trans' hf3).trans' hf4).trans' hf5)
def behindI (x : Int) : Int := min (max x 0) 1099511627776 + 1
theorem behind_spec {x : Int} {w : World} {K : Value → World → Prop} (hK : K (.int .i64 (behindI x)) w) : CallsN Tryz.prog 144 [.int .i64 x] w K := by
 have cw := cur w
 unfold behindI at hK
 have wr : IntKind.i64.wrap (min (max x 0) 1099511627776 + 1) = min (max x 0) 1099511627776 + 1 := wrap64 (by omega) (by omega)
 refine call144 ?_
 simp (maxSteps:=9^7)(disch:=first|assumption|(simp only[dz];first|done|assumption|omega)|omega|apply_rules[Fr.refl,Fr.alloc,Fr.drew]|rfl) only [↓gd,gp,Nat.reduceAdd,Nat.reduceEqDiff, ↓hk144, wr]
 exact hK
def knownE (e : Ent) (x : Int) : Int × Int := if e.hi = 4611686018427387904 then spOf e.lo (behindI x) else spOf e.lo e.hi
theorem known_spec {e : Ent} {x : Int} {w : World} {K : Value → World → Prop} (hK : ∀ w', Fr [] w w' → K (.agg (encSp (knownE e x)).toArray) w') : CallsN Tryz.prog 82 [.agg (encFct e).toArray, .int .i64 x] w K := by
 have cw := cur w
 unfold knownE at hK
 refine call82 ?_
 unfold encFct
 simp (maxSteps:=9^7)(disch:=first|assumption|(simp only[dz];first|done|assumption|omega)|omega|apply_rules[Fr.refl,Fr.alloc,Fr.drew]|rfl) only [↓gd,gp,Nat.reduceAdd,Nat.reduceEqDiff, ↓hk82]
 generalize hW : World.alloc _ _ = w1
 have hf1 : Fr [] w w1 := by rw [← hW]; (repeat first|exact Fr.refl _ _|assumption|with_reducible first|apply Fr.alloc|apply Fr.drew|refine Fr.setB ?_ _ _ (.inr (by first|omega|(simp only[gz];omega)))|refine Fr.setB ?_ _ _ (.inl (by first|assumption|simp))|refine Fr.trans' ?_ (by assumption))
 have ga : w1.heap[w.heap.size]? = some (.cells ([.string e.key, .bool e.has, .string e.data, .int .i64 e.lo, .int .i64 e.hi] : List Value).toArray 34 (0, 0)) := by rw [← hW]; simp (maxSteps:=9^7)(disch:=first|assumption|(simp only[dz];first|done|assumption|omega)|omega|apply_rules[Fr.refl,Fr.alloc,Fr.drew]|rfl) only [↓gsd,gs,gv,Nat.reduceAdd,Nat.reduceEqDiff]
 have gb : w1.heap[w.heap.size + 1]? = some (.cells ([.int .i64 0, .int .i64 0] : List Value).toArray 135 (0, 0)) := by rw [← hW]; simp (maxSteps:=9^7)(disch:=first|assumption|(simp only[dz];first|done|assumption|omega)|omega|apply_rules[Fr.refl,Fr.alloc,Fr.drew]|rfl) only [↓gsd,gs,gv,Nat.reduceAdd,Nat.reduceEqDiff]
 clear hW
 have cw1 := cur w1
 have hla := lt_of_get _ _ ga
 have hlb := lt_of_get _ _ gb
 by_cases h : e.hi = 4611686018427387904
 ·have d : decide (e.hi = 4611686018427387904) = true := decide_eq_true h
  rw [if_pos h] at hK
  simp (maxSteps:=9^7)(disch:=first|assumption|(simp only[dz];first|done|assumption|omega)|omega|apply_rules[Fr.refl,Fr.alloc,Fr.drew]|rfl) only [↓gd,gp,Nat.reduceAdd,Nat.reduceEqDiff, ↓hk82, d, ga]
  refine behind_spec ?_
  try simp (maxSteps:=9^7)(disch:=first|assumption|(simp only[dz];first|done|assumption|omega)|omega|apply_rules[Fr.refl,Fr.alloc,Fr.drew]|rfl) only [↓gd,gp,Nat.reduceAdd,Nat.reduceEqDiff, ↓hk82]
  refine spOf_spec fun w2 hf2 => ?_
  have cw2 := cur w2
  have hfd : Fr [] w1 w2 := (Fr.refl _ _).drew.trans' hf2
  have gb2 := hfd.getN gb
  have hlb2 := lt_of_get _ _ gb2
  unfold encSp at hK ⊢
  simp (maxSteps:=9^7)(disch:=first|assumption|(simp only[dz];first|done|assumption|omega)|omega|apply_rules[Fr.refl,Fr.alloc,Fr.drew]|rfl) only [↓gd,gp,Nat.reduceAdd,Nat.reduceEqDiff, ↓hk82, gb2, eq_true hf2, eq_true hfd]
  exact hK _ ((hf1.trans' hfd).setB _ _ (.inr (by omega)))
 ·have d : decide (e.hi = 4611686018427387904) = false := decide_eq_false h
  rw [if_neg h] at hK
  simp (maxSteps:=9^7)(disch:=first|assumption|(simp only[dz];first|done|assumption|omega)|omega|apply_rules[Fr.refl,Fr.alloc,Fr.drew]|rfl) only [↓gd,gp,Nat.reduceAdd,Nat.reduceEqDiff, ↓hk82, d, ga]
  refine spOf_spec fun w2 hf2 => ?_
  have cw2 := cur w2
  have gb2 := hf2.getN gb
  have hlb2 := lt_of_get _ _ gb2
  unfold encSp at hK ⊢
  simp (maxSteps:=9^7)(disch:=first|assumption|(simp only[dz];first|done|assumption|omega)|omega|apply_rules[Fr.refl,Fr.alloc,Fr.drew]|rfl) only [↓gd,gp,Nat.reduceAdd,Nat.reduceEqDiff, ↓hk82, gb2]
  exact hK _ ((hf1.trans' hf2).setB _ _ (.inr (by omega)))
theorem pinned_spec {lo hi : Int} {w : World} {K : Value → World → Prop} (hK : ∀ w', Fr [] w w' → K (.agg (encSp (spOf lo hi)).toArray) w') : CallsN Tryz.prog 179 [.agg ([.int .i64 lo, .int .i64 hi] : List Value).toArray] w K := by
 have cw := cur w
 refine call179 ?_
 simp (maxSteps:=9^7)(disch:=first|assumption|(simp only[dz];first|done|assumption|omega)|omega|apply_rules[Fr.refl,Fr.alloc,Fr.drew]|rfl) only [↓gd,gp,Nat.reduceAdd,Nat.reduceEqDiff, ↓hk179]
 generalize hW : World.alloc _ _ = w1
 have hf1 : Fr [] w w1 := by rw [← hW]; (repeat first|exact Fr.refl _ _|assumption|with_reducible first|apply Fr.alloc|apply Fr.drew|refine Fr.setB ?_ _ _ (.inr (by first|omega|(simp only[gz];omega)))|refine Fr.setB ?_ _ _ (.inl (by first|assumption|simp))|refine Fr.trans' ?_ (by assumption))
 have gb : w1.heap[w.heap.size + 1]? = some (.cells ([.int .i64 0, .int .i64 0] : List Value).toArray 135 (0, 0)) := by rw [← hW]; simp (maxSteps:=9^7)(disch:=first|assumption|(simp only[dz];first|done|assumption|omega)|omega|apply_rules[Fr.refl,Fr.alloc,Fr.drew]|rfl) only [↓gsd,gs,gv,Nat.reduceAdd,Nat.reduceEqDiff]
 clear hW
 have cw1 := cur w1
 refine spOf_spec fun w2 hf2 => ?_
 have cw2 := cur w2
 have gb2 := hf2.getN gb
 have hlb2 := lt_of_get _ _ gb2
 unfold encSp at hK ⊢
 simp (maxSteps:=9^7)(disch:=first|assumption|(simp only[dz];first|done|assumption|omega)|omega|apply_rules[Fr.refl,Fr.alloc,Fr.drew]|rfl) only [↓gd,gp,Nat.reduceAdd,Nat.reduceEqDiff, ↓hk179, gb2]
 exact hK _ ((hf1.trans' hf2).setB _ _ (.inr (by omega)))
def meetsE (e : Ent) (x lo hi : Int) : Bool := spMts (knownE e x) (spOf lo hi)
theorem meets_spec {e : Ent} {x lo hi : Int} {w : World} {K : Value → World → Prop} (hK : ∀ w', Fr [] w w' → K (.bool (meetsE e x lo hi)) w') : CallsN Tryz.prog 141 [.agg (encFct e).toArray, .int .i64 x, .agg ([.int .i64 lo, .int .i64 hi] : List Value).toArray] w K := by
 have cw := cur w
 refine call141 ?_
 unfold encFct
 simp (maxSteps:=9^7)(disch:=first|assumption|(simp only[dz];first|done|assumption|omega)|omega|apply_rules[Fr.refl,Fr.alloc,Fr.drew]|rfl) only [↓gd,gp,Nat.reduceAdd,Nat.reduceEqDiff, ↓hk141]
 generalize hW : World.alloc _ _ = w1
 have hf1 : Fr [] w w1 := by rw [← hW]; (repeat first|exact Fr.refl _ _|assumption|with_reducible first|apply Fr.alloc|apply Fr.drew|refine Fr.setB ?_ _ _ (.inr (by first|omega|(simp only[gz];omega)))|refine Fr.setB ?_ _ _ (.inl (by first|assumption|simp))|refine Fr.trans' ?_ (by assumption))
 clear hW
 have cw1 := cur w1
 refine known_spec (e := e) fun w2 hf2 => ?_
 have cw2 := cur w2
 have hfd : Fr [] w1 w2 := (Fr.refl _ _).drew.trans' hf2
 refine ⟨.inl hfd, ?_⟩
 refine pinned_spec fun w3 hf3 => ?_
 have cw3 := cur w3
 refine spMeets_spec fun w4 hf4 => ?_
 exact hK _ (((hf1.trans' hfd).trans' hf3).trans' hf4)
end Go.Proofs.YtomlgkecckffeaaGreat
