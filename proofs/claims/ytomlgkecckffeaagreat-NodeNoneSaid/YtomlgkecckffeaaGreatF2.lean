/- The newest invalidations: Note. Facts: Held, Close, Merge. -/
import Derived.Test.YtomlgkecckffeaaGreatF1
import Derived.Test.YtomlgkecckffeaaGreatNC
import Derived.Test.YtomlgkecckffeaaGreatN3
set_option linter.unusedVariables false
set_option linter.unusedSimpArgs false
set_option maxRecDepth 10000
namespace Go.Proofs.YtomlgkecckffeaaGreat
open Go.VW
set_option maxHeartbeats 4000000 in
theorem note_spec {w : World} {rb gb : Nat} {R : Rcn} {n : Int} {v : Value} {ks : List ByteArray} {K : Value → World → Prop} (h : RcnAt w rb gb R) (hs : SlOf 1 encS w v ks) (ho1 : offV v rb) (ho2 : offV v gb) (hl : ks.length ≤ 9223372036854775806)
  (hK : ∀ w', Fr [rb, gb] w w' → RcnAt w' rb gb (R.note n ks) → K (.bool (!(decide (n ≤ R.last) || decide (1099511627776 < n)))) w') : CallsN Tryz.prog 67 [.pointer (some ⟨rb, 0, none⟩), .int .i64 n, v] w K := by
 have cw := cur w
 have hcap := h.cap
 obtain ⟨hr1, hr2, hr3⟩ := h.lt
 have hr3' : gb ≠ rb := fun e => hr3 e.symm
 obtain ⟨va, vc, hv⟩ := hs.form
 obtain ⟨fi, c, ring, h1, h2, h3, h4, h5⟩ := h.ex
 refine call67 ?_
 by_cases hq : n ≤ R.last ∨ 1099511627776 < n
 ·have hn : R.note n ks = R := by unfold Rcn.note; rw [if_pos hq]
  rw [hn] at hK
  by_cases q1 : n ≤ R.last
  ·have d1 : decide (n ≤ R.last) = true := decide_eq_true q1
   rw [d1] at hK
   simp (maxSteps:=9^7)(disch:=first|assumption|(simp only[dz];first|done|assumption|omega)|omega|apply_rules[Fr.refl,Fr.alloc,Fr.drew]|rfl) only [↓gd,gp,Nat.reduceAdd,Nat.reduceEqDiff, ↓hk67, h1, d1]
   exact hK _ (by (repeat first|exact Fr.refl _ _|assumption|with_reducible first|apply Fr.alloc|apply Fr.drew|refine Fr.setB ?_ _ _ (.inr (by first|omega|(simp only[gz];omega)))|refine Fr.setB ?_ _ _ (.inl (by first|assumption|simp))|refine Fr.trans' ?_ (by assumption))) (h.frN (by (repeat first|exact Fr.refl _ _|assumption|with_reducible first|apply Fr.alloc|apply Fr.drew|refine Fr.setB ?_ _ _ (.inr (by first|omega|(simp only[gz];omega)))|refine Fr.setB ?_ _ _ (.inl (by first|assumption|simp))|refine Fr.trans' ?_ (by assumption))))
  ·have d1 : decide (n ≤ R.last) = false := decide_eq_false q1
   have d2 : decide (1099511627776 < n) = true := decide_eq_true (by omega)
   rw [d1, d2] at hK
   simp (maxSteps:=9^7)(disch:=first|assumption|(simp only[dz];first|done|assumption|omega)|omega|apply_rules[Fr.refl,Fr.alloc,Fr.drew]|rfl) only [↓gd,gp,Nat.reduceAdd,Nat.reduceEqDiff, ↓hk67, h1, d1, d2]
   exact hK _ (by (repeat first|exact Fr.refl _ _|assumption|with_reducible first|apply Fr.alloc|apply Fr.drew|refine Fr.setB ?_ _ _ (.inr (by first|omega|(simp only[gz];omega)))|refine Fr.setB ?_ _ _ (.inl (by first|assumption|simp))|refine Fr.trans' ?_ (by assumption))) (h.frN (by (repeat first|exact Fr.refl _ _|assumption|with_reducible first|apply Fr.alloc|apply Fr.drew|refine Fr.setB ?_ _ _ (.inr (by first|omega|(simp only[gz];omega)))|refine Fr.setB ?_ _ _ (.inl (by first|assumption|simp))|refine Fr.trans' ?_ (by assumption))))
 have d1 : decide (n ≤ R.last) = false := decide_eq_false (by omega)
 have d2 : decide (1099511627776 < n) = false := decide_eq_false (by omega)
 have hn : R.note n ks = ks.foldl (fun R k => R.put (n, k)) { R with last := n } := by unfold Rcn.note; rw [if_neg hq]
 rw [d1, d2, hn] at hK
 simp (maxSteps:=9^7)(disch:=first|assumption|(simp only[dz];first|done|assumption|omega)|omega|apply_rules[Fr.refl,Fr.alloc,Fr.drew]|rfl) only [↓gd,gp,Nat.reduceAdd,Nat.reduceEqDiff, ↓hk67, h1, d1, d2, hv]
 rw [← hv]
 generalize hW : World.setB w rb _ = w1
 have hf1 : Fr [rb, gb] w w1 := by rw [← hW]; (repeat first|exact Fr.refl _ _|assumption|with_reducible first|apply Fr.alloc|apply Fr.drew|refine Fr.setB ?_ _ _ (.inr (by first|omega|(simp only[gz];omega)))|refine Fr.setB ?_ _ _ (.inl (by first|assumption|simp))|refine Fr.trans' ?_ (by assumption))
 have g1 : RcnAt w1 rb gb { R with last := n } := by
  rw [← hW]
  refine ⟨⟨fi, c, ring, ?_, ?_, h3, h4, h5⟩, hcap⟩
  ·simp (maxSteps:=9^7)(disch:=first|assumption|(simp only[dz];first|done|assumption|omega)|omega|apply_rules[Fr.refl,Fr.alloc,Fr.drew]|rfl) only [↓gsd,gs,gv,Nat.reduceAdd,Nat.reduceEqDiff]
  ·simp (maxSteps:=9^7)(disch:=first|assumption|(simp only[dz];first|done|assumption|omega)|omega|apply_rules[Fr.refl,Fr.alloc,Fr.drew]|rfl) only [↓gsd,gs,gv,Nat.reduceAdd,Nat.reduceEqDiff, h2]
 clear hW
 have cw1 := cur w1
 refine for_intro ks.length 29 0 (fun i e w' => e 0 = .pointer (some ⟨rb, 0, none⟩) ∧ e 1 = .int .i64 n ∧ e 27 = v ∧ e 28 = .int .i64 ks.length ∧ RcnAt w' rb gb ((ks.take i).foldl (fun R k => R.put (n, k)) { R with last := n }) ∧ Fr [rb, gb] w w') ?_ (Nat.zero_le _) ?_ ?_
 ·simp (maxSteps:=9^7)(disch:=first|assumption|(simp only[dz];first|done|assumption|omega)|omega|apply_rules[Fr.refl,Fr.alloc,Fr.drew]|rfl) only [↓gsd,gs,gv,Nat.reduceAdd,Nat.reduceEqDiff, Int.natCast_zero]
 ·simp (maxSteps:=9^7)(disch:=first|assumption|(simp only[dz];first|done|assumption|omega)|omega|apply_rules[Fr.refl,Fr.alloc,Fr.drew]|rfl) only [↓gsd,gs,gv,Nat.reduceAdd,Nat.reduceEqDiff, hv]
  exact ⟨g1, hf1⟩
 rintro i e w2 kk hi eS ⟨e0, e1, e27, e28, g2, hf2⟩ hkk
 have cw2 := cur w2
 by_cases hil : i < ks.length
 ·have d3 : decide ((i : Int) < (ks.length : Int)) = true := decide_eq_true (by omega)
  obtain ⟨k, hk⟩ : ∃ k, ks[i]? = some k := ⟨ks[i], List.getElem?_eq_getElem hil⟩
  have hs2 : SlOf 1 encS w2 v ks := hs.fr hf2 (by intro b hb; simp at hb; rcases hb with rfl | rfl; exact ho1; exact ho2)
  obtain ⟨b1, o1, p1, ob1, hv1, hb1, _, _, hc1⟩ := hs2.read encS_len i k hk
  have q1 := fun orig K => hc1 0 (.string k) orig K rfl
  simp only [Nat.add_zero, Nat.mul_one] at q1
  have i0 : (0 : Int) ≤ (i : Int) := by omega
  have i1 : (i : Int) < (ks.length : Int) := by omega
  have wi : IntKind.i64.wrap ((i : Int) + 1) = (i : Int) + 1 := wrap64 (by omega) (by omega)
  have ht : ks.take (i + 1) = ks.take i ++ [k] := by rw [List.take_add_one, hk]; rfl
  simp (maxSteps:=9^7)(disch:=first|assumption|(simp only[dz];first|done|assumption|omega)|omega|apply_rules[Fr.refl,Fr.alloc,Fr.drew]|rfl) only [↓gd,gp,Nat.reduceAdd,Nat.reduceEqDiff, ↓hk67, e0, e1, e27, e28, eS, hv1, d3, i0, i1, Int.toNat_natCast, Nat.mul_one, hb1, q1]
  refine rput_spec (m := (n, k)) g2 fun w3 hf3 g3 => ?_
  have cw3 := cur w3
  simp (maxSteps:=9^7)(disch:=first|assumption|(simp only[dz];first|done|assumption|omega)|omega|apply_rules[Fr.refl,Fr.alloc,Fr.drew]|rfl) only [↓gd,gp,Nat.reduceAdd,Nat.reduceEqDiff, ↓hk67, e0, e1, e27, e28, eS, wi]
  refine hkk _ _ hil rfl ?_
  simp (maxSteps:=9^7)(disch:=first|assumption|(simp only[dz];first|done|assumption|omega)|omega|apply_rules[Fr.refl,Fr.alloc,Fr.drew]|rfl) only [↓gsd,gs,gv,Nat.reduceAdd,Nat.reduceEqDiff, e0, e1, e27, e28, hv1]
  refine ⟨?_, hf2.transM hf3⟩
  rw [ht, List.foldl_append]; exact g3
 ·have d3 : decide ((i : Int) < (ks.length : Int)) = false := decide_eq_false (by omega)
  rw [List.take_of_length_le (by omega)] at g2
  simp (maxSteps:=9^7)(disch:=first|assumption|(simp only[dz];first|done|assumption|omega)|omega|apply_rules[Fr.refl,Fr.alloc,Fr.drew]|rfl) only [↓gd,gp,Nat.reduceAdd,Nat.reduceEqDiff, ↓hk67, e0, e1, e27, e28, eS, d3]
  exact hK _ hf2 g2
/-! Facts. -/
structure Cfg where
 nodes : Int
 bytes : Int
 spans : Int
 gap : Int
 recent : Int
 vers : Int
 prot : Int
 retr : Int
def encCfg (c : Cfg) : List Value := [.int .i64 c.nodes, .int .i64 c.bytes, .int .i64 c.spans, .int .i64 c.gap, .int .i64 c.recent, .int .i64 c.vers, .int .i64 c.prot, .int .i64 c.retr]
def hld (n least most : Int) : Int := min (max n least) most
def Cfg.held (c : Cfg) : Cfg := ⟨hld c.nodes 1 8, hld c.bytes 0 1048576, hld c.spans 1 64, hld c.gap 0 256, hld c.recent 0 1024, hld c.vers 1 64, hld c.prot 0 256, hld c.retr 0 16⟩
theorem heldC_spec {n hi lo : Int} {w : World} {K : Value → World → Prop} (hK : K (.int .i64 (hld n lo hi)) w) : CallsN Tryz.prog 106 [.int .i64 n, .int .i64 hi, .int .i64 lo] w K := by
 have cw := cur w
 unfold hld at hK
 refine call106 ?_
 simp (maxSteps:=9^7)(disch:=first|assumption|(simp only[dz];first|done|assumption|omega)|omega|apply_rules[Fr.refl,Fr.alloc,Fr.drew]|rfl) only [↓gd,gp,Nat.reduceAdd,Nat.reduceEqDiff, ↓hk106]
 exact hK
theorem held_spec {c : Cfg} {w : World} {K : Value → World → Prop} (hK : ∀ w', Fr [] w w' → K (.agg (encCfg c.held).toArray) w') : CallsN Tryz.prog 43 [.agg (encCfg c).toArray] w K := by
 have cw := cur w
 unfold Cfg.held encCfg at hK
 refine call43 ?_
 unfold encCfg
 simp (maxSteps:=9^7)(disch:=first|assumption|(simp only[dz];first|done|assumption|omega)|omega|apply_rules[Fr.refl,Fr.alloc,Fr.drew]|rfl) only [↓gd,gp,Nat.reduceAdd,Nat.reduceEqDiff, ↓hk43]
 iterate 8
  refine heldC_spec ?_
  try simp (maxSteps:=9^7)(disch:=first|assumption|(simp only[dz];first|done|assumption|omega)|omega|apply_rules[Fr.refl,Fr.alloc,Fr.drew]|rfl) only [↓gd,gp,Nat.reduceAdd,Nat.reduceEqDiff, ↓hk43]
 exact hK _ (by (repeat first|exact Fr.refl _ _|assumption|with_reducible first|apply Fr.alloc|apply Fr.drew|refine Fr.setB ?_ _ _ (.inr (by first|omega|(simp only[gz];omega)))|refine Fr.setB ?_ _ _ (.inl (by first|assumption|simp))|refine Fr.trans' ?_ (by assumption)))
/-- A fact closed at n. -/
def closeE (e : Ent) (n : Int) : Option Ent := if e.hi ≠ openI then some e else if min n 1099511627777 ≤ e.lo then none else some { e with hi := min n 1099511627777 }
theorem close_spec {e : Ent} {n : Int} {w : World} {K : Value → World → Prop} (hK : ∀ w', Fr [] w w' → K (.tuple ([.agg (encFct ((closeE e n).getD entZ)).toArray, .bool (closeE e n).isSome] : List Value).toArray) w') : CallsN Tryz.prog 123 [.agg (encFct e).toArray, .int .i64 n] w K := by
 have cw := cur w
 unfold closeE at hK
 refine call123 ?_
 unfold encFct at hK ⊢
 by_cases q1 : e.hi = 4611686018427387904
 ·have d1 : decide (e.hi = 4611686018427387904) = true := decide_eq_true q1
  rw [if_neg (by simpa using q1)] at hK
  by_cases q2 : min n 1099511627777 ≤ e.lo
  ·have d2 : decide (min n 1099511627777 ≤ e.lo) = true := decide_eq_true q2
   rw [if_pos q2] at hK
   simp (maxSteps:=9^7)(disch:=first|assumption|(simp only[dz];first|done|assumption|omega)|omega|apply_rules[Fr.refl,Fr.alloc,Fr.drew]|rfl) only [↓gd,gp,Nat.reduceAdd,Nat.reduceEqDiff, ↓hk123, d1, d2]
   exact hK _ (by (repeat first|exact Fr.refl _ _|assumption|with_reducible first|apply Fr.alloc|apply Fr.drew|refine Fr.setB ?_ _ _ (.inr (by first|omega|(simp only[gz];omega)))|refine Fr.setB ?_ _ _ (.inl (by first|assumption|simp))|refine Fr.trans' ?_ (by assumption)))
  ·have d2 : decide (min n 1099511627777 ≤ e.lo) = false := decide_eq_false q2
   rw [if_neg q2] at hK
   simp (maxSteps:=9^7)(disch:=first|assumption|(simp only[dz];first|done|assumption|omega)|omega|apply_rules[Fr.refl,Fr.alloc,Fr.drew]|rfl) only [↓gd,gp,Nat.reduceAdd,Nat.reduceEqDiff, ↓hk123, d1, d2]
   exact hK _ (by (repeat first|exact Fr.refl _ _|assumption|with_reducible first|apply Fr.alloc|apply Fr.drew|refine Fr.setB ?_ _ _ (.inr (by first|omega|(simp only[gz];omega)))|refine Fr.setB ?_ _ _ (.inl (by first|assumption|simp))|refine Fr.trans' ?_ (by assumption)))
 ·have d1 : decide (e.hi = 4611686018427387904) = false := decide_eq_false q1
  rw [if_pos (by simpa using q1)] at hK
  simp (maxSteps:=9^7)(disch:=first|assumption|(simp only[dz];first|done|assumption|omega)|omega|apply_rules[Fr.refl,Fr.alloc,Fr.drew]|rfl) only [↓gd,gp,Nat.reduceAdd,Nat.reduceEqDiff, ↓hk123, d1]
  exact hK _ (by (repeat first|exact Fr.refl _ _|assumption|with_reducible first|apply Fr.alloc|apply Fr.drew|refine Fr.setB ?_ _ _ (.inr (by first|omega|(simp only[gz];omega)))|refine Fr.setB ?_ _ _ (.inl (by first|assumption|simp))|refine Fr.trans' ?_ (by assumption)))
/-- What two facts of one version say together. -/
def mergeE (a b : Ent) (at_ : Int) : Option Ent := if (decide (a.key = b.key) && (decide (a.has = b.has) && decide (a.data = b.data)) && decide (a.lo = b.lo)) = true then some { a with hi := mergeC a.hi b.hi (behindI at_) } else none
set_option maxHeartbeats 8000000 in
theorem merge_spec {a b : Ent} {x : Int} {w : World} {K : Value → World → Prop} (hK : ∀ w', Fr [] w w' → K (.tuple ([.agg (encFct ((mergeE a b x).getD entZ)).toArray, .bool (mergeE a b x).isSome] : List Value).toArray) w') : CallsN Tryz.prog 113 [.agg (encFct a).toArray, .agg (encFct b).toArray, .int .i64 x] w K := by
 have cw := cur w
 unfold mergeE at hK
 refine call113 ?_
 unfold encFct at hK ⊢
 cases q1 : decide (a.key = b.key) with
 | false =>
   rw [q1] at hK
   simp only [Bool.false_and, Bool.false_eq_true, if_false] at hK
   simp (maxSteps:=9^7)(disch:=first|assumption|(simp only[dz];first|done|assumption|omega)|omega|apply_rules[Fr.refl,Fr.alloc,Fr.drew]|rfl) only [↓gd,gp,Nat.reduceAdd,Nat.reduceEqDiff, ↓hk113, q1]
   exact hK _ (by (repeat first|exact Fr.refl _ _|assumption|with_reducible first|apply Fr.alloc|apply Fr.drew|refine Fr.setB ?_ _ _ (.inr (by first|omega|(simp only[gz];omega)))|refine Fr.setB ?_ _ _ (.inl (by first|assumption|simp))|refine Fr.trans' ?_ (by assumption)))
 | true =>
 cases q2 : (decide (a.has = b.has) && decide (a.data = b.data)) with
 | false =>
   rw [q1, q2] at hK
   simp only [Bool.true_and, Bool.false_and, Bool.and_false, Bool.false_eq_true, if_false] at hK
   simp (maxSteps:=9^7)(disch:=first|assumption|(simp only[dz];first|done|assumption|omega)|omega|apply_rules[Fr.refl,Fr.alloc,Fr.drew]|rfl) only [↓gd,gp,Nat.reduceAdd,Nat.reduceEqDiff, ↓hk113, q1, q2, Bool.and_true]
   exact hK _ (by (repeat first|exact Fr.refl _ _|assumption|with_reducible first|apply Fr.alloc|apply Fr.drew|refine Fr.setB ?_ _ _ (.inr (by first|omega|(simp only[gz];omega)))|refine Fr.setB ?_ _ _ (.inl (by first|assumption|simp))|refine Fr.trans' ?_ (by assumption)))
 | true =>
 cases q3 : decide (a.lo = b.lo) with
 | false =>
   rw [q1, q2, q3] at hK
   simp only [Bool.true_and, Bool.false_and, Bool.and_false, Bool.false_eq_true, if_false] at hK
   simp (maxSteps:=9^7)(disch:=first|assumption|(simp only[dz];first|done|assumption|omega)|omega|apply_rules[Fr.refl,Fr.alloc,Fr.drew]|rfl) only [↓gd,gp,Nat.reduceAdd,Nat.reduceEqDiff, ↓hk113, q1, q2, q3, Bool.and_true]
   exact hK _ (by (repeat first|exact Fr.refl _ _|assumption|with_reducible first|apply Fr.alloc|apply Fr.drew|refine Fr.setB ?_ _ _ (.inr (by first|omega|(simp only[gz];omega)))|refine Fr.setB ?_ _ _ (.inl (by first|assumption|simp))|refine Fr.trans' ?_ (by assumption)))
 | true =>
 rw [q1, q2, q3] at hK
 simp only [Bool.and_self, if_true, Option.getD_some, Option.isSome_some] at hK
 obtain ⟨ak, ah, ad, al, ahi, aho, ast, ain⟩ := a
 obtain ⟨bk, bh, bd, bl, bhi, bho, bst, bin⟩ := b
 simp only [decide_eq_true_eq, Bool.and_eq_true] at q1 q2 q3
 obtain ⟨q2, q2'⟩ := q2
 subst q1 q2 q2' q3
 have e1 : decide (ak = ak) = true := decide_eq_true rfl
 have e2 : decide (ah = ah) = true := decide_eq_true rfl
 have e3 : decide (ad = ad) = true := decide_eq_true rfl
 have e4 : decide (al = al) = true := decide_eq_true rfl
 unfold mergeC at hK
 simp only at hK
 by_cases h1 : ahi = 4611686018427387904
 ·have d1 : decide (ahi = 4611686018427387904) = true := decide_eq_true h1
  have d1' : decide ((4611686018427387904 : Int) = 4611686018427387904) = true := rfl
  simp only [h1, if_true, ne_eq, not_true_eq_false, if_false] at hK
  by_cases h2 : bhi ≤ behindI x
  ·have d2 : decide (bhi ≤ behindI x) = true := decide_eq_true h2
   rw [if_pos h2] at hK
   simp (maxSteps:=9^7)(disch:=first|assumption|(simp only[dz];first|done|assumption|omega)|omega|apply_rules[Fr.refl,Fr.alloc,Fr.drew]|rfl) only [↓gd,gp,Nat.reduceAdd,Nat.reduceEqDiff, ↓hk113, e1, e2, e3, e4, h1, d1']
   refine behind_spec ?_
   simp (maxSteps:=9^7)(disch:=first|assumption|(simp only[dz];first|done|assumption|omega)|omega|apply_rules[Fr.refl,Fr.alloc,Fr.drew]|rfl) only [↓gd,gp,Nat.reduceAdd,Nat.reduceEqDiff, ↓hk113, d2, h1]
   exact hK _ (by (repeat first|exact Fr.refl _ _|assumption|with_reducible first|apply Fr.alloc|apply Fr.drew|refine Fr.setB ?_ _ _ (.inr (by first|omega|(simp only[gz];omega)))|refine Fr.setB ?_ _ _ (.inl (by first|assumption|simp))|refine Fr.trans' ?_ (by assumption)))
  ·have d2 : decide (bhi ≤ behindI x) = false := decide_eq_false h2
   rw [if_neg h2] at hK
   simp (maxSteps:=9^7)(disch:=first|assumption|(simp only[dz];first|done|assumption|omega)|omega|apply_rules[Fr.refl,Fr.alloc,Fr.drew]|rfl) only [↓gd,gp,Nat.reduceAdd,Nat.reduceEqDiff, ↓hk113, e1, e2, e3, e4, h1, d1']
   refine behind_spec ?_
   simp (maxSteps:=9^7)(disch:=first|assumption|(simp only[dz];first|done|assumption|omega)|omega|apply_rules[Fr.refl,Fr.alloc,Fr.drew]|rfl) only [↓gd,gp,Nat.reduceAdd,Nat.reduceEqDiff, ↓hk113, d2, h1]
   exact hK _ (by (repeat first|exact Fr.refl _ _|assumption|with_reducible first|apply Fr.alloc|apply Fr.drew|refine Fr.setB ?_ _ _ (.inr (by first|omega|(simp only[gz];omega)))|refine Fr.setB ?_ _ _ (.inl (by first|assumption|simp))|refine Fr.trans' ?_ (by assumption)))
 ·have d1 : decide (ahi = 4611686018427387904) = false := decide_eq_false h1
  simp only [h1, if_false] at hK
  by_cases h3 : bhi = 4611686018427387904
  ·have d1' : decide ((4611686018427387904 : Int) = 4611686018427387904) = true := rfl
   simp only [h3, ne_eq, not_true_eq_false, if_false] at hK
   by_cases h2 : ahi ≤ behindI x
   ·have d2 : decide (ahi ≤ behindI x) = true := decide_eq_true h2
    rw [if_pos h2] at hK
    simp (maxSteps:=9^7)(disch:=first|assumption|(simp only[dz];first|done|assumption|omega)|omega|apply_rules[Fr.refl,Fr.alloc,Fr.drew]|rfl) only [↓gd,gp,Nat.reduceAdd,Nat.reduceEqDiff, ↓hk113, e1, e2, e3, e4, d1, h3, d1']
    refine behind_spec ?_
    simp (maxSteps:=9^7)(disch:=first|assumption|(simp only[dz];first|done|assumption|omega)|omega|apply_rules[Fr.refl,Fr.alloc,Fr.drew]|rfl) only [↓gd,gp,Nat.reduceAdd,Nat.reduceEqDiff, ↓hk113, d2]
    exact hK _ (by (repeat first|exact Fr.refl _ _|assumption|with_reducible first|apply Fr.alloc|apply Fr.drew|refine Fr.setB ?_ _ _ (.inr (by first|omega|(simp only[gz];omega)))|refine Fr.setB ?_ _ _ (.inl (by first|assumption|simp))|refine Fr.trans' ?_ (by assumption)))
   ·have d2 : decide (ahi ≤ behindI x) = false := decide_eq_false h2
    rw [if_neg h2] at hK
    simp (maxSteps:=9^7)(disch:=first|assumption|(simp only[dz];first|done|assumption|omega)|omega|apply_rules[Fr.refl,Fr.alloc,Fr.drew]|rfl) only [↓gd,gp,Nat.reduceAdd,Nat.reduceEqDiff, ↓hk113, e1, e2, e3, e4, d1, h3, d1']
    refine behind_spec ?_
    simp (maxSteps:=9^7)(disch:=first|assumption|(simp only[dz];first|done|assumption|omega)|omega|apply_rules[Fr.refl,Fr.alloc,Fr.drew]|rfl) only [↓gd,gp,Nat.reduceAdd,Nat.reduceEqDiff, ↓hk113, d2]
    exact hK _ (by (repeat first|exact Fr.refl _ _|assumption|with_reducible first|apply Fr.alloc|apply Fr.drew|refine Fr.setB ?_ _ _ (.inr (by first|omega|(simp only[gz];omega)))|refine Fr.setB ?_ _ _ (.inl (by first|assumption|simp))|refine Fr.trans' ?_ (by assumption)))
  ·have d3 : decide (bhi = 4611686018427387904) = false := decide_eq_false h3
   rw [if_pos (by simpa using h3)] at hK
   simp (maxSteps:=9^7)(disch:=first|assumption|(simp only[dz];first|done|assumption|omega)|omega|apply_rules[Fr.refl,Fr.alloc,Fr.drew]|rfl) only [↓gd,gp,Nat.reduceAdd,Nat.reduceEqDiff, ↓hk113, e1, e2, e3, e4, d1, d3]
   exact hK _ (by (repeat first|exact Fr.refl _ _|assumption|with_reducible first|apply Fr.alloc|apply Fr.drew|refine Fr.setB ?_ _ _ (.inr (by first|omega|(simp only[gz];omega)))|refine Fr.setB ?_ _ _ (.inl (by first|assumption|simp))|refine Fr.trans' ?_ (by assumption)))
end Go.Proofs.YtomlgkecckffeaaGreat
