/- Table: Of; spans; Meets; Find; Get. DERIVED: THE SHELF's CONTRACTS AT THIS DUMP, IN PLAIN WORDS (tools/lay-plain.mjs out of 'YtomlgkecckffeaaGreatKM.lean', which tools/lay-shelf.mjs wrote): THE SAME DECLARATIONS UNDER THE SAME NAMES: 'import', 'namespace', 'open', 'def', 'theorem' AND NOTHING ELSE: no command of the shelf's: FOR A HAND-IN. Each laying: the table of numbers ('.._ren') and one theorem, a field a fact of the dump's own or the kernel's comparison; each contract: ONE APPLICATION. The generic engine, part 10: a map's keys, collected and sorted, told of an entry list. slices.Sorted(maps.Keys(m)) at string keys: the kit's contracts, told of an entry list. -/
import Derived.Test.YtomlgkecckffeaaGreatAA
import Derived.Shelf.SlIter.Nil
import Derived.Shelf.SortM.Plain
import Derived.Shelf.SortM.SortNone
import Derived.Ground.GgzProg
import Derived.Ground.SlgmProg
import Derived.Test.YtomlgkecckffeaaGreatProg
import Derived.Test.YtomlgkecckffeaaGreatCB
import Derived.Maps.Range
import Derived.Lib.SlKeysI
import Derived.Test.YtomlgkecckffeaaGreatCI
import Derived.Sort.KeysCollected
import Derived.StringKeys
set_option linter.unusedVariables false
set_option linter.unusedSimpArgs false
set_option maxRecDepth 10000
namespace Go.Proofs.YtomlgkecckffeaaGreat
open Go.VW
theorem cloneE_spec {v : Value} {xs : Ents} {w : World} {K : Value → World → Prop} (h : SlOf 8 encEnt w v xs) (hlen : xs.length ≤ 1000000000000)
  (hK : ∀ v' w', Own 8 52 w' v' xs.length (cellsOf encEnt xs) → Fr [] w w' → (∀ b, v'.ownBlock = some b → w.heap.size ≤ b) → K v' w') : CallsN Tryz.prog 135 [v] w K := by
 obtain ⟨a, c, hv⟩ := h.form
 have cw := cur w
 refine call135 ?_
 cases a with
 | none =>
   have hx : xs = [] := List.eq_nil_of_length_eq_zero (Sl.none (hv ▸ h))
   simp (maxSteps:=9^7)(disch:=first|assumption|(simp only[dz];first|done|assumption|omega)|omega|apply_rules[Fr.refl,Fr.alloc,Fr.drew]|rfl) only [↓gd,gp,Nat.reduceAdd,Nat.reduceEqDiff, ↓hk135, hv]
   subst hx
   exact hK _ _ Own.nil (Fr.refl _ _) (by simp [Value.ownBlock])
 | some a =>
   obtain ⟨v', w', hr, ho, hf, hb⟩ := ap41 (ty := 41) (Own.new0 w) (h.frN ((Fr.refl [] w).alloc _)) (cellsE_one xs) (by omega)
   rw [hv] at hr
   simp (maxSteps:=9^7)(disch:=first|assumption|(simp only[dz];first|done|assumption|omega)|omega|apply_rules[Fr.refl,Fr.alloc,Fr.drew]|rfl) only [↓gd,gp,Nat.reduceAdd,Nat.reduceEqDiff, ↓hk135, hv, hr]
   refine hK v' w' (by simpa using ho) (((Fr.refl [] w).alloc _).trans hf fun x hx => ?_) fun b hb' => ?_
   ·simp only [blkL, Value.ownBlock, List.mem_singleton] at hx
    exact .inr (by omega)
   ·rcases hb with hb | ⟨b', hb1, hb2⟩
    ·rw [hb] at hb'
     simp only [Value.ownBlock, Option.some.injEq] at hb'
     omega
    ·rw [hb1] at hb'
     simp only [Option.some.injEq] at hb'
     rw [size_alloc] at hb2
     omega
theorem of_spec {w : World} {tb : Nat} {S : List Nat} {T : Tab} {N : Nat} {k : ByteArray} {K : Value → World → Prop} (h : TabAt w tb S T) (hwf : T.WF N) (hN : N ≤ 1000000000000)
  (hK : ∀ v' w', Own 8 52 w' v' (T.row k).length (cellsOf encEnt (T.row k)) → Fr [] w w' → (∀ b, v'.ownBlock = some b → w.heap.size ≤ b) → K v' w') : CallsN Tryz.prog 65 [.pointer (some ⟨tb, 0, none⟩), .string k] w K := by
 have cw := cur w
 refine call65 ?_
 simp (maxSteps:=9^7)(disch:=first|assumption|(simp only[dz];first|done|assumption|omega)|omega|apply_rules[Fr.refl,Fr.alloc,Fr.drew]|rfl) only [↓gd,gp,Nat.reduceAdd,Nat.reduceEqDiff, ↓hk65]
 refine row_spec h fun v hv _ => ?_
 try simp (maxSteps:=9^7)(disch:=first|assumption|(simp only[dz];first|done|assumption|omega)|omega|apply_rules[Fr.refl,Fr.alloc,Fr.drew]|rfl) only [↓gd,gp,Nat.reduceAdd,Nat.reduceEqDiff, ↓hk65]
 refine cloneE_spec (xs := T.row k) hv.sl (by have := hwf.len k; omega) fun v' w' hown hf hb => ?_
 have cw' := cur w'
 try simp (maxSteps:=9^7)(disch:=first|assumption|(simp only[dz];first|done|assumption|omega)|omega|apply_rules[Fr.refl,Fr.alloc,Fr.drew]|rfl) only [↓gd,gp,Nat.reduceAdd,Nat.reduceEqDiff, ↓hk65]
 exact hK _ _ hown hf hb
def encSp (s : Int × Int) : List Value := [.int .i64 s.1, .int .i64 s.2]
def spOf (lo hi : Int) : Int × Int := if hi ≤ lo then (0, 0) else (lo, hi)
theorem spOf_spec {lo hi : Int} {w : World} {K : Value → World → Prop} (hK : ∀ w', Fr [] w w' → K (.agg (encSp (spOf lo hi)).toArray) w') : CallsN Tryz.prog 143 [.int .i64 lo, .int .i64 hi] w K := by
 have cw := cur w
 unfold encSp spOf at hK
 refine call143 ?_
 by_cases h : hi ≤ lo
 ·have d : decide (hi ≤ lo) = true := decide_eq_true h
  rw [if_pos h] at hK
  simp (maxSteps:=9^7)(disch:=first|assumption|(simp only[dz];first|done|assumption|omega)|omega|apply_rules[Fr.refl,Fr.alloc,Fr.drew]|rfl) only [↓gd,gp,Nat.reduceAdd,Nat.reduceEqDiff, ↓hk143, d]
  exact hK _ fr_
 ·have d : decide (hi ≤ lo) = false := decide_eq_false h
  rw [if_neg h] at hK
  simp (maxSteps:=9^7)(disch:=first|assumption|(simp only[dz];first|done|assumption|omega)|omega|apply_rules[Fr.refl,Fr.alloc,Fr.drew]|rfl) only [↓gd,gp,Nat.reduceAdd,Nat.reduceEqDiff, ↓hk143, d]
  exact hK _ fr_
def spEmp (s : Int × Int) : Bool := decide (s.2 ≤ s.1)
theorem spEmpty_spec {s : Int × Int} {w : World} {K : Value → World → Prop} (hK : ∀ w', Fr [] w w' → K (.bool (spEmp s)) w') : CallsN Tryz.prog 159 [.agg (encSp s).toArray] w K := by
 have cw := cur w
 refine call159 ?_
 unfold encSp
 simp (maxSteps:=9^7)(disch:=first|assumption|(simp only[dz];first|done|assumption|omega)|omega|apply_rules[Fr.refl,Fr.alloc,Fr.drew]|rfl) only [↓gd,gp,Nat.reduceAdd,Nat.reduceEqDiff, ↓hk159]
 exact hK _ fr_
def spMeet (a b : Int × Int) : Int × Int := spOf (max a.1 b.1) (min a.2 b.2)
theorem spMeet_spec {a b : Int × Int} {w : World} {K : Value → World → Prop} (hK : ∀ w', Fr [] w w' → K (.agg (encSp (spMeet a b)).toArray) w') : CallsN Tryz.prog 205 [.agg (encSp a).toArray, .agg (encSp b).toArray] w K := by
 have cw := cur w
 refine call205 ?_
 unfold encSp at *
 simp (maxSteps:=9^7)(disch:=first|assumption|(simp only[dz];first|done|assumption|omega)|omega|apply_rules[Fr.refl,Fr.alloc,Fr.drew]|rfl) only [↓gd,gp,Nat.reduceAdd,Nat.reduceEqDiff, ↓hk205]
 generalize hW : World.alloc _ _ = w1
 have hf1 : Fr [] w w1 := by rw [← hW]; exact fr_
 have hz1 : w1.heap.size = w.heap.size + 3 := by rw [← hW]; simp only [gz]
 have g1 : w1.heap[w.heap.size + 1 + 1]? = some (.cells ([.int .i64 0, .int .i64 0] : List Value).toArray 135 (0, 0)) := by rw [← hW]; simp (maxSteps:=9^7)(disch:=first|assumption|(simp only[dz];first|done|assumption|omega)|omega|apply_rules[Fr.refl,Fr.alloc,Fr.drew]|rfl) only [↓gsd,gs,gv,Nat.reduceAdd,Nat.reduceEqDiff]
 clear hW
 have cw1 := cur w1
 refine spOf_spec fun w2 hf2 => ?_
 have cw2 := cur w2
 have g2 := hf2.getN g1
 have hl2 := lt_of_get _ _ g2
 unfold encSp
 simp (maxSteps:=9^7)(disch:=first|assumption|(simp only[dz];first|done|assumption|omega)|omega|apply_rules[Fr.refl,Fr.alloc,Fr.drew]|rfl) only [↓gd,gp,Nat.reduceAdd,Nat.reduceEqDiff, ↓hk205, g2]
 exact hK _ ((hf1.trans' hf2).setB _ _ (.inr (by omega)))
def spMts (a b : Int × Int) : Bool := !(spEmp a) && !(spEmp b) && !(spEmp (spMeet a b))
theorem spMeets_spec {a b : Int × Int} {w : World} {K : Value → World → Prop} (hK : ∀ w', Fr [] w w' → K (.bool (spMts a b)) w') : CallsN Tryz.prog 178 [.agg (encSp a).toArray, .agg (encSp b).toArray] w K := by
 have cw := cur w
 unfold spMts at hK
 refine call178 ?_
 unfold encSp
 simp (maxSteps:=9^7)(disch:=first|assumption|(simp only[dz];first|done|assumption|omega)|omega|apply_rules[Fr.refl,Fr.alloc,Fr.drew]|rfl) only [↓gd,gp,Nat.reduceAdd,Nat.reduceEqDiff, ↓hk178]
 generalize hW : World.alloc _ _ = w1
 have hf1 : Fr [] w w1 := by rw [← hW]; exact fr_
 have ga : w1.heap[w.heap.size]? = some (.cells ([.int .i64 a.1, .int .i64 a.2] : List Value).toArray 135 (0, 0)) := by rw [← hW]; simp (maxSteps:=9^7)(disch:=first|assumption|(simp only[dz];first|done|assumption|omega)|omega|apply_rules[Fr.refl,Fr.alloc,Fr.drew]|rfl) only [↓gsd,gs,gv,Nat.reduceAdd,Nat.reduceEqDiff]
 have gb : w1.heap[w.heap.size + 1]? = some (.cells ([.int .i64 b.1, .int .i64 b.2] : List Value).toArray 135 (0, 0)) := by rw [← hW]; simp (maxSteps:=9^7)(disch:=first|assumption|(simp only[dz];first|done|assumption|omega)|omega|apply_rules[Fr.refl,Fr.alloc,Fr.drew]|rfl) only [↓gsd,gs,gv,Nat.reduceAdd,Nat.reduceEqDiff]
 clear hW
 have cw1 := cur w1
 have hla := lt_of_get _ _ ga
 have hlb := lt_of_get _ _ gb
 refine spEmpty_spec (s := a) fun w2 hf2 => ?_
 have cw2 := cur w2
 have ga2 := hf2.getN ga
 have gb2 := hf2.getN gb
 have hla2 := lt_of_get _ _ ga2
 have hlb2 := lt_of_get _ _ gb2
 cases q1 : spEmp a with
 | true =>
   rw [q1] at hK
   simp (maxSteps:=9^7)(disch:=first|assumption|(simp only[dz];first|done|assumption|omega)|omega|apply_rules[Fr.refl,Fr.alloc,Fr.drew]|rfl) only [↓gd,gp,Nat.reduceAdd,Nat.reduceEqDiff, ↓hk178, q1]
   exact hK _ (hf1.trans' hf2)
 | false =>
   rw [q1] at hK
   simp (maxSteps:=9^7)(disch:=first|assumption|(simp only[dz];first|done|assumption|omega)|omega|apply_rules[Fr.refl,Fr.alloc,Fr.drew]|rfl) only [↓gd,gp,Nat.reduceAdd,Nat.reduceEqDiff, ↓hk178, q1, gb2]
   refine spEmpty_spec (s := b) fun w3 hf3 => ?_
   have cw3 := cur w3
   have ga3 := hf3.getN ga2
   have gb3 := hf3.getN gb2
   have hla3 := lt_of_get _ _ ga3
   have hlb3 := lt_of_get _ _ gb3
   cases q2 : spEmp b with
   | true =>
     rw [q2] at hK
     simp (maxSteps:=9^7)(disch:=first|assumption|(simp only[dz];first|done|assumption|omega)|omega|apply_rules[Fr.refl,Fr.alloc,Fr.drew]|rfl) only [↓gd,gp,Nat.reduceAdd,Nat.reduceEqDiff, ↓hk178, q2]
     exact hK _ ((hf1.trans' hf2).trans' hf3)
   | false =>
     rw [q2] at hK
     simp (maxSteps:=9^7)(disch:=first|assumption|(simp only[dz];first|done|assumption|omega)|omega|apply_rules[Fr.refl,Fr.alloc,Fr.drew]|rfl) only [↓gd,gp,Nat.reduceAdd,Nat.reduceEqDiff, ↓hk178, q2, ga3, gb3]
     refine spMeet_spec (a := a) (b := b) fun w4 hf4 => ?_
     have cw4 := cur w4
     try simp (maxSteps:=9^7)(disch:=first|assumption|(simp only[dz];first|done|assumption|omega)|omega|apply_rules[Fr.refl,Fr.alloc,Fr.drew]|rfl) only [↓gd,gp,Nat.reduceAdd,Nat.reduceEqDiff, ↓hk178]
     refine spEmpty_spec fun w5 hf5 => ?_
     have cw5 := cur w5
     try simp (maxSteps:=9^7)(disch:=first|assumption|(simp only[dz];first|done|assumption|omega)|omega|apply_rules[Fr.refl,Fr.alloc,Fr.drew]|rfl) only [↓gd,gp,Nat.reduceAdd,Nat.reduceEqDiff, ↓hk178]
     exact hK _ ((((hf1.trans' hf2).trans' hf3).trans' hf4).trans' hf5)
def behindI (x : Int) : Int := min (max x 0) 1099511627776 + 1
theorem behind_spec {x : Int} {w : World} {K : Value → World → Prop} (hK : K (.int .i64 (behindI x)) w) : CallsN Tryz.prog 144 [.int .i64 x] w K := by
 have cw := cur w
 unfold behindI at hK
 have wr : IntKind.i64.wrap (min (max x 0) 1099511627776 + 1) = min (max x 0) 1099511627776 + 1 := wrap64 (by omega) (by omega)
 refine call144 ?_
 simp (maxSteps:=9^7)(disch:=first|assumption|(simp only[dz];first|done|assumption|omega)|omega|apply_rules[Fr.refl,Fr.alloc,Fr.drew]|rfl) only [↓gd,gp,Nat.reduceAdd,Nat.reduceEqDiff, ↓hk144, wr]
 exact hK
def knownE (e : Ent) (x : Int) : Int × Int := if e.hi = 4611686018427387904 then spOf e.lo (behindI x) else spOf e.lo e.hi
theorem known_spec {e : Ent} {x : Int} {w : World} {K : Value → World → Prop} (hK : ∀ w', Fr [] w w' → K (.agg (encSp (knownE e x)).toArray) w') : CallsN Tryz.prog 82 [.agg (encFct e).toArray, .int .i64 x] w K := by
 have cw := cur w
 unfold knownE at hK
 refine call82 ?_
 unfold encFct
 simp (maxSteps:=9^7)(disch:=first|assumption|(simp only[dz];first|done|assumption|omega)|omega|apply_rules[Fr.refl,Fr.alloc,Fr.drew]|rfl) only [↓gd,gp,Nat.reduceAdd,Nat.reduceEqDiff, ↓hk82]
 generalize hW : World.alloc _ _ = w1
 have hf1 : Fr [] w w1 := by rw [← hW]; exact fr_
 have ga : w1.heap[w.heap.size]? = some (.cells ([.string e.key, .bool e.has, .string e.data, .int .i64 e.lo, .int .i64 e.hi] : List Value).toArray 34 (0, 0)) := by rw [← hW]; simp (maxSteps:=9^7)(disch:=first|assumption|(simp only[dz];first|done|assumption|omega)|omega|apply_rules[Fr.refl,Fr.alloc,Fr.drew]|rfl) only [↓gsd,gs,gv,Nat.reduceAdd,Nat.reduceEqDiff]
 have gb : w1.heap[w.heap.size + 1]? = some (.cells ([.int .i64 0, .int .i64 0] : List Value).toArray 135 (0, 0)) := by rw [← hW]; simp (maxSteps:=9^7)(disch:=first|assumption|(simp only[dz];first|done|assumption|omega)|omega|apply_rules[Fr.refl,Fr.alloc,Fr.drew]|rfl) only [↓gsd,gs,gv,Nat.reduceAdd,Nat.reduceEqDiff]
 clear hW
 have cw1 := cur w1
 have hla := lt_of_get _ _ ga
 have hlb := lt_of_get _ _ gb
 by_cases h : e.hi = 4611686018427387904
 ·have d : decide (e.hi = 4611686018427387904) = true := decide_eq_true h
  rw [if_pos h] at hK
  simp (maxSteps:=9^7)(disch:=first|assumption|(simp only[dz];first|done|assumption|omega)|omega|apply_rules[Fr.refl,Fr.alloc,Fr.drew]|rfl) only [↓gd,gp,Nat.reduceAdd,Nat.reduceEqDiff, ↓hk82, d, ga]
  refine behind_spec ?_
  try simp (maxSteps:=9^7)(disch:=first|assumption|(simp only[dz];first|done|assumption|omega)|omega|apply_rules[Fr.refl,Fr.alloc,Fr.drew]|rfl) only [↓gd,gp,Nat.reduceAdd,Nat.reduceEqDiff, ↓hk82]
  refine spOf_spec fun w2 hf2 => ?_
  have cw2 := cur w2
  have hfd : Fr [] w1 w2 := (Fr.refl _ _).drew.trans' hf2
  have gb2 := hfd.getN gb
  have hlb2 := lt_of_get _ _ gb2
  unfold encSp at hK ⊢
  simp (maxSteps:=9^7)(disch:=first|assumption|(simp only[dz];first|done|assumption|omega)|omega|apply_rules[Fr.refl,Fr.alloc,Fr.drew]|rfl) only [↓gd,gp,Nat.reduceAdd,Nat.reduceEqDiff, ↓hk82, gb2, eq_true hf2, eq_true hfd]
  exact hK _ ((hf1.trans' hfd).setB _ _ (.inr (by omega)))
 ·have d : decide (e.hi = 4611686018427387904) = false := decide_eq_false h
  rw [if_neg h] at hK
  simp (maxSteps:=9^7)(disch:=first|assumption|(simp only[dz];first|done|assumption|omega)|omega|apply_rules[Fr.refl,Fr.alloc,Fr.drew]|rfl) only [↓gd,gp,Nat.reduceAdd,Nat.reduceEqDiff, ↓hk82, d, ga]
  refine spOf_spec fun w2 hf2 => ?_
  have cw2 := cur w2
  have gb2 := hf2.getN gb
  have hlb2 := lt_of_get _ _ gb2
  unfold encSp at hK ⊢
  simp (maxSteps:=9^7)(disch:=first|assumption|(simp only[dz];first|done|assumption|omega)|omega|apply_rules[Fr.refl,Fr.alloc,Fr.drew]|rfl) only [↓gd,gp,Nat.reduceAdd,Nat.reduceEqDiff, ↓hk82, gb2]
  exact hK _ ((hf1.trans' hf2).setB _ _ (.inr (by omega)))
theorem pinned_spec {lo hi : Int} {w : World} {K : Value → World → Prop} (hK : ∀ w', Fr [] w w' → K (.agg (encSp (spOf lo hi)).toArray) w') : CallsN Tryz.prog 179 [.agg ([.int .i64 lo, .int .i64 hi] : List Value).toArray] w K := by
 have cw := cur w
 refine call179 ?_
 simp (maxSteps:=9^7)(disch:=first|assumption|(simp only[dz];first|done|assumption|omega)|omega|apply_rules[Fr.refl,Fr.alloc,Fr.drew]|rfl) only [↓gd,gp,Nat.reduceAdd,Nat.reduceEqDiff, ↓hk179]
 generalize hW : World.alloc _ _ = w1
 have hf1 : Fr [] w w1 := by rw [← hW]; exact fr_
 have gb : w1.heap[w.heap.size + 1]? = some (.cells ([.int .i64 0, .int .i64 0] : List Value).toArray 135 (0, 0)) := by rw [← hW]; simp (maxSteps:=9^7)(disch:=first|assumption|(simp only[dz];first|done|assumption|omega)|omega|apply_rules[Fr.refl,Fr.alloc,Fr.drew]|rfl) only [↓gsd,gs,gv,Nat.reduceAdd,Nat.reduceEqDiff]
 clear hW
 have cw1 := cur w1
 refine spOf_spec fun w2 hf2 => ?_
 have cw2 := cur w2
 have gb2 := hf2.getN gb
 have hlb2 := lt_of_get _ _ gb2
 unfold encSp at hK ⊢
 simp (maxSteps:=9^7)(disch:=first|assumption|(simp only[dz];first|done|assumption|omega)|omega|apply_rules[Fr.refl,Fr.alloc,Fr.drew]|rfl) only [↓gd,gp,Nat.reduceAdd,Nat.reduceEqDiff, ↓hk179, gb2]
 exact hK _ ((hf1.trans' hf2).setB _ _ (.inr (by omega)))
def meetsE (e : Ent) (x lo hi : Int) : Bool := spMts (knownE e x) (spOf lo hi)
theorem meets_spec {e : Ent} {x lo hi : Int} {w : World} {K : Value → World → Prop} (hK : ∀ w', Fr [] w w' → K (.bool (meetsE e x lo hi)) w') : CallsN Tryz.prog 141 [.agg (encFct e).toArray, .int .i64 x, .agg ([.int .i64 lo, .int .i64 hi] : List Value).toArray] w K := by
 have cw := cur w
 refine call141 ?_
 unfold encFct
 simp (maxSteps:=9^7)(disch:=first|assumption|(simp only[dz];first|done|assumption|omega)|omega|apply_rules[Fr.refl,Fr.alloc,Fr.drew]|rfl) only [↓gd,gp,Nat.reduceAdd,Nat.reduceEqDiff, ↓hk141]
 generalize hW : World.alloc _ _ = w1
 have hf1 : Fr [] w w1 := by rw [← hW]; exact fr_
 clear hW
 have cw1 := cur w1
 refine known_spec (e := e) fun w2 hf2 => ?_
 have cw2 := cur w2
 have hfd : Fr [] w1 w2 := (Fr.refl _ _).drew.trans' hf2
 refine ⟨.inl hfd, ?_⟩
 refine pinned_spec fun w3 hf3 => ?_
 have cw3 := cur w3
 refine spMeets_spec fun w4 hf4 => ?_
 exact hK _ (((hf1.trans' hfd).trans' hf3).trans' hf4)
end Go.Proofs.YtomlgkecckffeaaGreat

namespace Go.Proofs
open Go.Shelf
def YtomlgkecckffeaaGreat.kM_ren : Go.Shelf.Ren := ⟨fun | 7 => 139 | 10 => 177 | n => n, fun | 23 => 192 | 26 => 9 | 3 => 41 | 28 => 190 | 0 => 0 | 27 => 189 | 33 => 169 | 4 => 4 | n => n, fun | n => n⟩
theorem YtomlgkecckffeaaGreat.kM : Go.Proofs.SlLaysZ.n7 Tryz.prog YtomlgkecckffeaaGreat.kM_ren := {
  mixed := by kernel_rfl
  f7 := ⟨Tryz.f139.name, by decide, Tryz.func139.trans (congrArg some (by kernel_rfl))⟩
  f10 := ⟨Tryz.f177.name, by decide, Tryz.func177.trans (congrArg some (by kernel_rfl))⟩
  t0 := Tryz.underlying0
  a0 := Tryz.isAgg0
  z0 := Tryz.sizeOf0
  v0 := Tryz.zeroValue0
  t4 := Tryz.underlying4
  a4 := Tryz.isAgg4
  z4 := Tryz.sizeOf4
  v4 := Tryz.zeroValue4
  t23 := Tryz.underlying192
  a23 := Tryz.isAgg192
  z23 := Tryz.sizeOf192
  v23 := Tryz.zeroValue192
  t26 := Tryz.underlying9
  a26 := Tryz.isAgg9
  z26 := Tryz.sizeOf9
  v26 := Tryz.zeroValue9
  t27 := Tryz.underlying189
  a27 := Tryz.isAgg189
  z27 := Tryz.sizeOf189
  v27 := Tryz.zeroValue189
  t28 := Tryz.underlying190
  a28 := Tryz.isAgg190
  z28 := Tryz.sizeOf190
  v28 := Tryz.zeroValue190
  t33 := Tryz.underlying169
  a33 := Tryz.isAgg169
  z33 := Tryz.sizeOf169
  v33 := Tryz.zeroValue169 }
def YtomlgkecckffeaaGreat.sM_ren : Go.Shelf.Ren := ⟨fun | 6 => 138 | 8 => 175 | 9 => 176 | 11 => 203 | 13 => 202 | 12 => 204 | 23 => 222 | 24 => 223 | 14 => 224 | 15 => 225 | 16 => 226 | 17 => 227 | 18 => 228 | 19 => 229 | 20 => 230 | 21 => 231 | 22 => 232 | 25 => 241 | 26 => 237 | 27 => 238 | 28 => 242 | 29 => 243 | 30 => 244 | 31 => 247 | n => n, fun | 26 => 9 | 28 => 190 | 24 => 22 | 0 => 0 | 3 => 3 | 37 => 246 | 48 => 262 | 50 => 264 | 4 => 4 | 40 => 255 | 39 => 254 | 45 => 206 | 5 => 5 | 9 => 9 | 51 => 273 | 55 => 277 | 57 => 281 | 58 => 282 | 33 => 169 | n => n, fun | n => n⟩
theorem YtomlgkecckffeaaGreat.sM : Go.Proofs.SlLaysZ.n6 Tryz.prog YtomlgkecckffeaaGreat.sM_ren := {
  mixed := by kernel_rfl
  f6 := ⟨Tryz.f138.name, by decide, Tryz.func138.trans (congrArg some (by kernel_rfl))⟩
  f8 := ⟨Tryz.f175.name, by decide, Tryz.func175.trans (congrArg some (by kernel_rfl))⟩
  f11 := ⟨Tryz.f203.name, by decide, Tryz.func203.trans (congrArg some (by kernel_rfl))⟩
  t0 := Tryz.underlying0
  a0 := Tryz.isAgg0
  z0 := Tryz.sizeOf0
  v0 := Tryz.zeroValue0
  t24 := Tryz.underlying22
  a24 := Tryz.isAgg22
  z24 := Tryz.sizeOf22
  v24 := Tryz.zeroValue22
  t26 := Tryz.underlying9
  a26 := Tryz.isAgg9
  z26 := Tryz.sizeOf9
  v26 := Tryz.zeroValue9
  t28 := Tryz.underlying190
  a28 := Tryz.isAgg190
  z28 := Tryz.sizeOf190
  v28 := Tryz.zeroValue190
  i26 := by kernel_rfl }
def YtomlgkecckffeaaGreat.tM_ren : Go.Shelf.Ren := ⟨fun | 6 => 176 | 8 => 202 | 9 => 204 | 19 => 222 | 20 => 223 | 21 => 224 | 22 => 225 | 23 => 226 | 24 => 227 | 25 => 228 | 26 => 229 | 27 => 230 | 28 => 231 | 29 => 232 | 36 => 241 | 31 => 237 | 32 => 238 | 37 => 242 | 38 => 243 | 39 => 244 | 41 => 247 | n => n, fun | 27 => 22 | 29 => 9 | 3 => 3 | 32 => 246 | 26 => 22 | 0 => 0 | 44 => 262 | 46 => 264 | 4 => 4 | 36 => 255 | 35 => 254 | 41 => 206 | 5 => 5 | 9 => 9 | 53 => 273 | 57 => 277 | 63 => 281 | 64 => 282 | n => n, fun | n => n⟩
theorem YtomlgkecckffeaaGreat.tM : Go.Proofs.SlLaysM.n6 Tryz.prog YtomlgkecckffeaaGreat.tM_ren := {
  mixed := by kernel_rfl
  f6 := ⟨Tryz.f176.name, by decide, Tryz.func176.trans (congrArg some (by kernel_rfl))⟩
  f8 := Tryz.func202.trans (congrArg some (by kernel_rfl))
  f9 := ⟨Tryz.f204.name, by decide, Tryz.func204.trans (congrArg some (by kernel_rfl))⟩
  f19 := Tryz.func222.trans (congrArg some (by kernel_rfl))
  f20 := Tryz.func223.trans (congrArg some (by kernel_rfl))
  f21 := ⟨Tryz.f224.name, by decide, Tryz.func224.trans (congrArg some (by kernel_rfl))⟩
  f22 := ⟨Tryz.f225.name, by decide, Tryz.func225.trans (congrArg some (by kernel_rfl))⟩
  f23 := ⟨Tryz.f226.name, by decide, Tryz.func226.trans (congrArg some (by kernel_rfl))⟩
  f24 := ⟨Tryz.f227.name, by decide, Tryz.func227.trans (congrArg some (by kernel_rfl))⟩
  f25 := ⟨Tryz.f228.name, by decide, Tryz.func228.trans (congrArg some (by kernel_rfl))⟩
  f26 := ⟨Tryz.f229.name, by decide, Tryz.func229.trans (congrArg some (by kernel_rfl))⟩
  f27 := ⟨Tryz.f230.name, by decide, Tryz.func230.trans (congrArg some (by kernel_rfl))⟩
  f28 := ⟨Tryz.f231.name, by decide, Tryz.func231.trans (congrArg some (by kernel_rfl))⟩
  f29 := ⟨Tryz.f232.name, by decide, Tryz.func232.trans (congrArg some (by kernel_rfl))⟩
  f31 := Tryz.func237.trans (congrArg some (by kernel_rfl))
  f32 := Tryz.func238.trans (congrArg some (by kernel_rfl))
  f36 := ⟨Tryz.f241.name, by decide, Tryz.func241.trans (congrArg some (by kernel_rfl))⟩
  f37 := ⟨Tryz.f242.name, by decide, Tryz.func242.trans (congrArg some (by kernel_rfl))⟩
  f38 := ⟨Tryz.f243.name, by decide, Tryz.func243.trans (congrArg some (by kernel_rfl))⟩
  f39 := ⟨Tryz.f244.name, by decide, Tryz.func244.trans (congrArg some (by kernel_rfl))⟩
  f41 := ⟨Tryz.f247.name, by decide, Tryz.func247.trans (congrArg some (by kernel_rfl))⟩
  t0 := Tryz.underlying0
  a0 := Tryz.isAgg0
  z0 := Tryz.sizeOf0
  v0 := Tryz.zeroValue0
  t3 := Tryz.underlying3
  a3 := Tryz.isAgg3
  z3 := Tryz.sizeOf3
  v3 := Tryz.zeroValue3
  t4 := Tryz.underlying4
  a4 := Tryz.isAgg4
  z4 := Tryz.sizeOf4
  v4 := Tryz.zeroValue4
  t5 := Tryz.underlying5
  a5 := Tryz.isAgg5
  z5 := Tryz.sizeOf5
  v5 := Tryz.zeroValue5
  t9 := Tryz.underlying9
  a9 := Tryz.isAgg9
  z9 := Tryz.sizeOf9
  v9 := Tryz.zeroValue9
  t26 := Tryz.underlying22
  a26 := Tryz.isAgg22
  z26 := Tryz.sizeOf22
  v26 := Tryz.zeroValue22
  t27 := Tryz.underlying22
  a27 := Tryz.isAgg22
  z27 := Tryz.sizeOf22
  v27 := Tryz.zeroValue22
  t29 := Tryz.underlying9
  a29 := Tryz.isAgg9
  z29 := Tryz.sizeOf9
  v29 := Tryz.zeroValue9
  t32 := Tryz.underlying246
  a32 := Tryz.isAgg246
  z32 := Tryz.sizeOf246
  v32 := Tryz.zeroValue246
  t35 := Tryz.underlying254
  a35 := Tryz.isAgg254
  z35 := Tryz.sizeOf254
  v35 := Tryz.zeroValue254
  t36 := Tryz.underlying255
  a36 := Tryz.isAgg255
  z36 := Tryz.sizeOf255
  v36 := Tryz.zeroValue255
  t41 := Tryz.underlying206
  a41 := Tryz.isAgg206
  z41 := Tryz.sizeOf206
  v41 := Tryz.zeroValue206
  t44 := Tryz.underlying262
  a44 := Tryz.isAgg262
  z44 := Tryz.sizeOf262
  v44 := Tryz.zeroValue262
  t46 := Tryz.underlying264
  a46 := Tryz.isAgg264
  z46 := Tryz.sizeOf264
  v46 := Tryz.zeroValue264
  t53 := Tryz.underlying273
  a53 := Tryz.isAgg273
  z53 := Tryz.sizeOf273
  v53 := Tryz.zeroValue273
  t57 := Tryz.underlying277
  a57 := Tryz.isAgg277
  z57 := Tryz.sizeOf277
  v57 := Tryz.zeroValue277
  t63 := Tryz.underlying281
  a63 := Tryz.isAgg281
  z63 := Tryz.sizeOf281
  v63 := Tryz.zeroValue281
  t64 := Tryz.underlying282
  a64 := Tryz.isAgg282
  z64 := Tryz.sizeOf282
  v64 := Tryz.zeroValue282 }
end Go.Proofs

set_option linter.unusedSectionVars false
namespace Go.VW
open Go.Maps Go.ChangeMaps Go.MapKept
noncomputable section
def anyR {H : Type} (v : Value) : Option (DataW H × List MemPlace) := some (.lit (.bool true), [])
def keysD {H : Type} (ks : List Lit) : DataW H := .map ((ks.map fun l => (l, DataW.lit (.bool true))).foldr DataW.insert [])
section
variable {κ : Type} [DecidableEq κ] {P : Program} {kt : TypeId} {kv : κ → Value} {kl : κ → Lit}
theorem own_of_mapAt {H : Type} {w : World} {b : Nat} {es : List (κ × Value)} (h : MapAt kv w.heap[b]? es) (hinj : ∀ x y, kv x = kv y → x = y) (hk : ∀ p ∈ es, keyOf P kt (kv p.1) = some (kl p.1)) (hn : es.length ≤ maxLen) :
    w.ownsMap (H := H) P kt anyR b es.length (keysD (es.map fun p => kl p.1)) := by
  obtain ⟨ents, clock, ho, he, hborn, hbn⟩ := h.ex
  have hlen : ents.size = es.length := by
    have := congrArg List.length he
    simpa [entL] using this
  have hread : ∀ x ∈ ents.toList, ∃ p ∈ es, x.key = kv p.1 := by
    intro x hx
    have : (x.key, x.val) ∈ entL ents := List.mem_map.2 ⟨x, hx, rfl⟩
    rw [he] at this
    obtain ⟨p, hp, e⟩ := List.mem_map.1 this
    exact ⟨p, hp, by simpa using (congrArg Prod.fst e).symm⟩
  refine ⟨ents, clock, ho, ⟨by omega, ⟨hborn, hbn, ?_⟩, ?_⟩, by omega, ?_⟩
  · have e1 : ents.toList.map (·.key) = es.map (fun p => kv p.1) := by
      have := congrArg (List.map Prod.fst) he
      simpa [entL, List.map_map, Function.comp_def] using this
    have e2 : es.map (fun p => kv p.1) = (es.map (·.1)).map kv := by simp [List.map_map, Function.comp_def]
    rw [e1, e2]
    unfold List.Nodup
    rw [List.pairwise_map]
    exact h.nd.imp fun hne e => hne (hinj _ _ e)
  · intro x hx
    obtain ⟨p, hp, hxk⟩ := hread x hx
    exact ⟨_, by unfold WideElems.rd anyR; rw [hxk, hk p hp]; rfl⟩
  · unfold keysD
    congr 2
    have e1 : ents.toList.map (fun x => WideElems.rg (H := H) P kt anyR x) = ents.toList.map (fun x => ((keyOf P kt x.key).getD (.bool false), DataW.lit (.bool true))) := by
      refine List.map_congr_left fun x hx => ?_
      obtain ⟨p, hp, hxk⟩ := hread x hx
      unfold WideElems.rg WideElems.rd anyR
      rw [hxk, hk p hp]; rfl
    rw [show (WideElems.rg (H := H) P kt anyR) = (fun x => WideElems.rg (H := H) P kt anyR x) from rfl, e1]
    have e2 : ents.toList.map (fun x => ((keyOf P kt x.key).getD (.bool false), (DataW.lit (.bool true) : DataW H))) = (entL ents).map (fun q => ((keyOf P kt q.1).getD (.bool false), DataW.lit (.bool true))) := by
      simp [entL, List.map_map, Function.comp_def]
    rw [e2, he, List.map_map, List.map_map]
    refine List.map_congr_left fun p hp => ?_
    simp [Function.comp_def, hk p hp]
end
theorem keysD_ints {H : Type} (ks : List Int) : (intKeys (keysD (H := H) (ks.map (Lit.int .i64)))).Perm ks := by
  unfold keysD intKeys
  refine ((Go.WideShapes.sorted_perm _).map _).trans (List.Perm.of_eq ?_)
  simp [List.map_map, Function.comp_def, Go.intOf]
theorem keysD_size {H : Type} (ks : List Lit) : Maps.size (keysD (H := H) ks) = ks.length := by
  unfold keysD
  show ((ks.map fun l => (l, DataW.lit (H := H) (.bool true))).foldr DataW.insert []).length = _
  rw [(Go.WideShapes.sorted_perm _).length_eq]
  simp
theorem Own.of_row {w : World} {n k m : Nat} {e : TypeId} {v : Value} {xs : List Value} (h : w.ownsRow n e k v m xs) : Own k e w v m xs ∧ ∀ b, v.ownBlock = some b → n ≤ b := by
  obtain ⟨h1, h2⟩ := h
  rcases h2 with ⟨rfl, rfl⟩ | ⟨g, cap, cur, rfl, hb, hg⟩
  · exact ⟨⟨h1, .inl ⟨rfl, rfl⟩⟩, fun b hb => by simp [Value.ownBlock] at hb⟩
  · exact ⟨⟨h1, .inr ⟨g, cap, cur, rfl, Nat.zero_le _, hg⟩⟩, fun b hb' => by simp [Value.ownBlock] at hb'; omega⟩
theorem wf_i64 {n : Int} (h0 : -9223372036854775808 ≤ n) (h1 : n ≤ 9223372036854775807) : (Lit.int .i64 n).wf = true := by
  have e1 : IntKind.i64.min = -9223372036854775808 := by decide
  have e2 : IntKind.i64.max = 9223372036854775807 := by decide
  simp only [Lit.wf, e1, e2, Bool.and_eq_true, decide_eq_true_eq]
  omega
theorem keyOf_i64_mk {P : Program} {kt : TypeId} (hk : P.underlying kt = some (.int .i64)) {n : Int} (h0 : -9223372036854775808 ≤ n) (h1 : n ≤ 9223372036854775807) : keyOf P kt (.int .i64 n) = some (.int .i64 n) := by
  simp [keyOf, hk, mapKey, wf_i64 h0 h1]
end
end Go.VW

namespace Go.Proofs.YtomlgkecckffeaaGreat
open Go.RowKit Go.Maps Go.Sort Go.Shelf Go.VW
def bl (s : ByteArray) : List UInt8 := s.data.toList
theorem encStr_bl (s : ByteArray) : encStr (bl s) = .string s := by
 cases s; rfl
theorem sortsM (m : Nat) : AnyZ.SortsIn Tryz.prog YtomlgkecckffeaaGreat.sM_ren Fence.wide m :=
 ⟨fun blk off cap ss W hH hblk hsz => callsIn_wide.2 (AnyM.slices_Sort_string YtomlgkecckffeaaGreat.tM blk off cap ss W hH hblk hsz),
  fun p cap W => callsIn_wide.2 (AnyM.slices_Sort_string_none YtomlgkecckffeaaGreat.tM p cap W)⟩
theorem un9s : Tryz.prog.underlying 9 = some .string := by kernel_rfl
def sortB (l : List (List UInt8)) : List (List UInt8) := l.mergeSort leB
theorem keysD_strs {H : Type} (ks : List (List UInt8)) : (strKeys (keysD (H := H) (ks.map Lit.string))).Perm ks := by
 unfold keysD strKeys
 refine ((Go.WideShapes.sorted_perm _).map _).trans (List.Perm.of_eq ?_)
 simp [List.map_map, Function.comp_def, Go.strOf]

theorem keysEnt {mb : Option Nat} {w : World} {K : Value → World → Prop} (hK : K (.func (.func 177) #[] #[.pointer (some ⟨w.heap.size, 0, none⟩)]) (w.alloc (.cells #[.map mb] 192))) : CallsN Tryz.prog 139 [.map mb] w K :=
 CallsN.of ((callsIn_wide.1 (AnyZ.keys_in YtomlgkecckffeaaGreat.kM Fence.wide 5 trivial rfl mb w)).mono fun e w' h => by
  obtain ⟨rfl, rfl⟩ := h
  exact ⟨_, rfl, hK⟩)
theorem sortedEnt {w : World} {b : Nat} {es : List (ByteArray × Value)} {K : Value → World → Prop} (h : MapAt Value.string w.heap[b]? es) (hb : ∀ p ∈ es, p.1.size ≤ maxLen) (hn : es.length ≤ 1000000000)
  (hK : ∀ v w', Own 1 9 w' v es.length ((sortB (es.map fun p => bl p.1)).map encStr) → Fr [] w w' → (∀ g, v.ownBlock = some g → w.heap.size ≤ g) → K v w') :
  CallsN Tryz.prog 138 [.func (.func 177) #[] #[.pointer (some ⟨w.heap.size, 0, none⟩)]] (w.alloc (.cells #[.map (some b)] 192)) K := by
 have hown := own_of_mapAt (H := Unit) (P := Tryz.prog) (kt := 9) (kl := fun s => Lit.string (bl s)) h (fun x y e => by simpa using e) (fun p hp => Go.WideMaps.keyOf_string_mk un9s (hb p hp)) (by unfold maxLen; omega)
 have hsz := keysD_size (H := Unit) (es.map fun p => Lit.string (bl p.1))
 have hpk := keysD_strs (H := Unit) (es.map fun p => bl p.1)
 rw [List.map_map] at hpk
 generalize hD : keysD (H := Unit) (es.map fun p => Lit.string (bl p.1)) = D0 at hown hsz
 have hpk' : (strKeys D0).Perm (es.map fun p => bl p.1) := by rw [← hD]; exact hpk
 have hbl := hown.lt
 have hmax : Maps.size D0 ≤ maxLen := by rw [hsz]; unfold maxLen; simp; omega
 have hseq : SeqGives Fence.wide 2 Tryz.prog 177 #[.pointer (some ⟨w.heap.size, 0, none⟩)] encStr (fun ss => ss.Perm (strKeys D0)) (Maps.size D0) (w.alloc (.cells #[.map (some b)] 192)) :=
  AnyZ.keys_gives (ρ := YtomlgkecckffeaaGreat.kM_ren) { YtomlgkecckffeaaGreat.kM with } Fence.wide _ trivial rfl (by omega) w.heap.size b es.length D0 _ (by simp) (by simp) (by
   obtain ⟨es', clock, hb', Ft, hs, hD'⟩ := hown
   exact ⟨es', clock, (Below.heap_alloc _ _ b hbl).trans hb', Ft, hs, hD'⟩)
 have cS := AnyZ.sorted_in YtomlgkecckffeaaGreat.sM Fence.wide 5 trivial trivial trivial trivial rfl (by omega) (sortsM _) (enters_of Tryz.func176 (by kernel_rfl) rfl) 177 #[.pointer (some ⟨w.heap.size, 0, none⟩)] trivial (enters_of Tryz.func177 (by kernel_rfl) rfl) _ _ hmax (by rw [hsz]; simp; omega) _ hseq
 change CallsIn _ _ Tryz.prog 138 _ _ _ at cS
 refine CallsN.of ((callsIn_wide.1 cS).mono fun e w' h => ?_)
 obtain ⟨v, ss, rfl, hS, hrow, hnil, hbelow⟩ := h
 have hp := hS.trans hpk'
 have hm : ss.mergeSort (fun x y => decide (x ≤ y)) = sortB (es.map fun p => bl p.1) := mergeSort_of_perm hp
 rw [hm] at hrow
 have hl : ss.length = es.length := by rw [hp.length_eq]; simp
 rw [hl] at hrow
 obtain ⟨ho, hfr⟩ := Own.of_row hrow
 refine ⟨v, rfl, hK v w' ho (((Fr.refl [] w).alloc _).trans' (Fr.of_below hbelow)) fun g hg => ?_⟩
 have := hfr g hg
 rw [size_alloc] at this
 omega
end Go.Proofs.YtomlgkecckffeaaGreat
