/- The log: Get, From. The log: From. -/
import Derived.Test.YtgloomahpjpiiaaGreatD3
set_option linter.unusedVariables false
set_option linter.unusedSimpArgs false
set_option maxRecDepth 10000
namespace Go.Proofs.YtgloomahpjpiiaaGreat.Sm
open Go.VW
/-- A record as it lies: its number, its keys' slice. -/
structure Rc where
 n : Int
 a : Option Addr
 l : Nat
 c : Nat
def encRc (r : Rc) : List Value := [.int .i64 r.n, .slice r.a r.l r.c]
theorem encRc_len (r : Rc) : (encRc r).length = 2 := rfl
def Rc.v (r : Rc) : Value := .agg (encRc r).toArray
def Rc.kv (r : Rc) : Value := .slice r.a r.l r.c
/-- The record r is (n, ks); its keys lie in blocks of which R speaks. -/
def RcIs (w : World) (R : Nat → Prop) (r : Rc) (x : Int × Ks) : Prop := r.n = x.1 ∧ Own 1 9 w r.kv x.2.length (cellsOf encS x.2) ∧ ∀ b, r.kv.ownBlock = some b → R b
theorem RcIs.fr {w w' : World} {R : Nat → Prop} {r : Rc} {x : Int × Ks} (h : RcIs w R r x) {M : List Nat} (hf : Fr M w w') (hM : ∀ b ∈ M, ¬ R b) : RcIs w' R r x :=
 ⟨h.1, h.2.1.fr hf fun b hb e => hM b hb (h.2.2 b e), h.2.2⟩
theorem RcIs.frN {w w' : World} {R : Nat → Prop} {r : Rc} {x : Int × Ks} (h : RcIs w R r x) (hf : Fr [] w w') : RcIs w' R r x := h.fr hf (by simp)
theorem RcIs.mono {w : World} {R R' : Nat → Prop} {r : Rc} {x : Int × Ks} (h : RcIs w R r x) (hR : ∀ b, R b → R' b) : RcIs w R' r x := ⟨h.1, h.2.1, fun b hb => hR b (h.2.2 b hb)⟩
theorem Rc.form {v : Value} {n : Nat} {cs : List Value} {w : World} (h : Own 1 9 w v n cs) (k : Int) : ∃ r : Rc, r.n = k ∧ r.kv = v := by
 obtain ⟨a, c, hv⟩ := h.sl.form
 exact ⟨⟨k, a, n, c⟩, rfl, hv.symm⟩
def getL (L : List Ks) (n : Int) : Option Ks := if n < 1 then none else L[(n - 1).toNat]?
theorem LogAt.key {w : World} {lb : Nat} {Wr Rd : List Nat} {L : List Ks} (h : LogAt w lb Wr Rd L) : ∃ (vl : Value) (vs : List Value), w.heap[lb]? = some (.cells ([vl] : List Value).toArray 106 (0, 0)) ∧ SlOf 1 one1 w vl vs ∧ vs.length = L.length ∧ vs.all oneC = true ∧
  (∀ (i : Nat) ks, L[i]? = some ks → ∃ v, vs[i]? = some v ∧ Own 1 9 w v ks.length (cellsOf encS ks) ∧ ∀ b, v.ownBlock = some b → b ∈ Rd) := by
 obtain ⟨⟨vl, vs, hh, ho, hvl, hk, hb⟩, g1, g2, g3, g4⟩ := h
 refine ⟨vl, vs, hh, by simpa [SlOf, cellsOf_one1] using ho.sl, hvl, ?_, fun i ks hks => ?_⟩
 ·rw [List.all_eq_true]
  intro v hv
  obtain ⟨i, hi⟩ := List.getElem?_of_mem hv
  have hil := (List.getElem?_eq_some_iff.1 hi).1
  exact (hk i v (L[i]'(by omega)) hi (List.getElem?_eq_getElem (by omega))).1.oneC
 ·have hil := (List.getElem?_eq_some_iff.1 hks).1
  have hv : vs[i]? = some (vs[i]'(by omega)) := List.getElem?_eq_getElem (by omega)
  exact ⟨_, hv, hk i _ ks hv hks⟩
set_option maxHeartbeats 4000000 in
theorem get_log {w : World} {lb : Nat} {Wr Rd : List Nat} {L : List Ks} {n : Int} {K : Value → World → Prop} (h : LogAt w lb Wr Rd L)
  (hN : getL L n = none → ∀ w', Fr [] w w' → K (.tuple ([.agg ([.int .i64 0, .slice none 0 0] : List Value).toArray, .int .i64 3] : List Value).toArray) w')
  (hS : ∀ ks r w', getL L n = some ks → Fr [] w w' → RcIs w' (fun b => w.heap.size ≤ b) r (n, ks) → K (.tuple ([r.v, .int .i64 0] : List Value).toArray) w') :
  CallsN Tryz.prog 71 [.pointer (some ⟨lb, 0, none⟩), .int .i64 n] w K := by
 have cw := cur w
 refine call71 ?_
 have hf0 : ∀ o, Fr [] w (w.alloc o) := fun o => (Fr.refl _ _).alloc o
 by_cases c1 : n < 1
 ·have d1 : decide (n < 1) = true := decide_eq_true c1
  have hg : getL L n = none := by unfold getL; rw [if_pos c1]
  simp (maxSteps:=4000000)(disch:=first|assumption|(simp only[dz];first|done|assumption|omega)|omega|apply_rules[Fr.refl,Fr.alloc,Fr.drew]|rfl) only [↓gd,gp,Nat.reduceAdd,Nat.reduceEqDiff, ↓hk71, d1]
  exact hN hg _ (by (repeat (first | exact Fr.refl _ _ | assumption | with_reducible apply Fr.alloc | with_reducible apply Fr.drew | with_reducible refine Fr.setB ?_ _ _ (.inr (by first | omega | (simp only [gz]; omega))) | with_reducible refine Fr.setB ?_ _ _ (.inl (by first | assumption | simp)) | with_reducible refine Fr.trans' ?_ (by assumption))))
 have d1 : decide (n < 1) = false := decide_eq_false c1
 simp (maxSteps:=4000000)(disch:=first|assumption|(simp only[dz];first|done|assumption|omega)|omega|apply_rules[Fr.refl,Fr.alloc,Fr.drew]|rfl) only [↓gd,gp,Nat.reduceAdd,Nat.reduceEqDiff, ↓hk71, d1]
 refine last_spec (h.frN (hf0 _)) ?_
 have hgn : getL L n = L[(n - 1).toNat]? := by unfold getL; rw [if_neg c1]
 by_cases c2 : (L.length : Int) < n
 ·have d2 : decide ((L.length : Int) < n) = true := decide_eq_true c2
  have hg : getL L n = none := by rw [hgn]; exact List.getElem?_eq_none (by omega)
  simp (maxSteps:=4000000)(disch:=first|assumption|(simp only[dz];first|done|assumption|omega)|omega|apply_rules[Fr.refl,Fr.alloc,Fr.drew]|rfl) only [↓gd,gp,Nat.reduceAdd,Nat.reduceEqDiff, ↓hk71, d2]
  exact hN hg _ (by (repeat (first | exact Fr.refl _ _ | assumption | with_reducible apply Fr.alloc | with_reducible apply Fr.drew | with_reducible refine Fr.setB ?_ _ _ (.inr (by first | omega | (simp only [gz]; omega))) | with_reducible refine Fr.setB ?_ _ _ (.inl (by first | assumption | simp)) | with_reducible refine Fr.trans' ?_ (by assumption))))
 have d2 : decide ((L.length : Int) < n) = false := decide_eq_false c2
 obtain ⟨vl, vs, hh, hsl, hvl, hall, hk⟩ := (h.frN (hf0 (.cells ([.int .i64 0, .slice none 0 0] : List Value).toArray 86))).key
 have hL := h.len
 obtain ⟨ks, hks⟩ : ∃ ks, L[(n - 1).toNat]? = some ks := ⟨L[(n - 1).toNat]'(by omega), List.getElem?_eq_getElem (by omega)⟩
 obtain ⟨v, hv, hown, hrd⟩ := hk _ ks hks
 have hck := chkK_ok (h.ok ks (List.mem_of_getElem? hks))
 have hlt := lt_of_get _ _ hh
 obtain ⟨b, off, cap, o, hvb, hob, hbl, _, hcell⟩ := hsl.read one1_len _ v hv
 have hc0 := fun orig K => hcell 0 v orig K rfl
 simp only [Nat.add_zero, Nat.mul_one] at hc0
 have w1 : IntKind.i64.wrap (n - 1) = n - 1 := wrap64 (by omega) (by omega)
 have i0 : (0 : Int) ≤ n - 1 := by omega
 have i1 : n - 1 < (vs.length : Int) := by omega
 rw [hvb] at hh
 simp (maxSteps:=4000000)(disch:=first|assumption|(simp only[dz];first|done|assumption|omega)|omega|apply_rules[Fr.refl,Fr.alloc,Fr.drew]|rfl) only [↓gd,gp,Nat.reduceAdd,Nat.reduceEqDiff, ↓hk71, d2, hh, w1, i0, i1, hob, hc0, Nat.mul_one]
 refine clone_spec (ks := ks) (show SlOf 1 encS _ _ ks from hown.sl) (by omega) fun v2 w2 hown2 hf2 hfr2 => ?_
 have cw2 := cur w2
 have hz2 := hf2.size
 obtain ⟨r, hr1, hr2⟩ := Rc.form hown2 n
 have hr2' := hr2
 unfold Rc.kv at hr2'
 rw [← hr2']
 have gc := hf2.getN (get_alloc_new w (.cells ([.int .i64 0, .slice none 0 0] : List Value).toArray 86))
 have glt := lt_of_get _ _ gc
 simp (maxSteps:=4000000)(disch:=first|assumption|(simp only[dz];first|done|assumption|omega)|omega|apply_rules[Fr.refl,Fr.alloc,Fr.drew]|rfl) only [↓gd,gp,Nat.reduceAdd,Nat.reduceEqDiff, ↓hk71, gc]
 have hF := (hf0 (.cells ([.int .i64 0, .slice none 0 0] : List Value).toArray 86)).trans' hf2
 have hS2 : ∀ o, Fr [] w (w2.setB w.heap.size o) := fun o => hF.setB _ _ (.inr (Nat.le_refl _))
 have hh := hS ks r (w2.setB w.heap.size (.cells ([.int .i64 n, .slice r.a r.l r.c] : List Value).toArray 86 (0, 0))) (by rw [hgn, hks]) (hS2 _) ⟨hr1, by rw [hr2]; exact hown2.fr (M := [w.heap.size]) (Fr.setB (Fr.refl _ _) _ _ (.inl (by simp))) (by intro x hx e; simp at hx; subst hx; have := hfr2 _ e; rw [size_alloc] at this; omega), fun b hb => by rw [hr2] at hb; have := hfr2 b hb; rw [size_alloc] at this; omega⟩
 unfold Rc.v encRc at hh
 rw [hr1] at hh
 exact hh
/-- Records from number n on, at most so many. -/
def recsL (L : List Ks) : List (Int × Ks) := L.zipIdx.map fun p => ((p.2 : Int) + 1, p.1)
theorem recsL_len (L : List Ks) : (recsL L).length = L.length := by simp [recsL]
theorem recsL_get (L : List Ks) (i : Nat) : (recsL L)[i]? = (L[i]?).map fun ks => ((i : Int) + 1, ks) := by
 unfold recsL
 rw [List.getElem?_map, List.getElem?_zipIdx]
 cases L[i]? <;> simp
def fromL (L : List Ks) (n m : Int) : List (Int × Ks) := ((recsL L).drop (n - 1).toNat).take m.toNat
/-- The list v of n elements holds the records xs. -/
structure RcsAt (w : World) (R R' : Nat → Prop) (v : Value) (xs : List (Int × Ks)) : Prop where
 ex : ∃ rs : List Rc, Own 2 86 w v rs.length (cellsOf encRc rs) ∧ rs.length = xs.length ∧ (∀ (i : Nat) r x, rs[i]? = some r → xs[i]? = some x → RcIs w R r x)
 blk : ∀ b, v.ownBlock = some b → R' b
theorem RcsAt.fr {w w' : World} {R R' : Nat → Prop} {v : Value} {xs : List (Int × Ks)} (h : RcsAt w R R' v xs) {M : List Nat} (hf : Fr M w w') (hM : ∀ b ∈ M, ¬ R b ∧ ¬ R' b) : RcsAt w' R R' v xs := by
 obtain ⟨⟨rs, h1, h2, h3⟩, h4⟩ := h
 exact ⟨⟨rs, h1.fr hf fun b hb e => (hM b hb).2 (h4 b e), h2, fun i r x hr hx => (h3 i r x hr hx).fr hf fun b hb => (hM b hb).1⟩, h4⟩
theorem RcsAt.frN {w w' : World} {R R' : Nat → Prop} {v : Value} {xs : List (Int × Ks)} (h : RcsAt w R R' v xs) (hf : Fr [] w w') : RcsAt w' R R' v xs := h.fr hf (by simp)
theorem RcsAt.mono {w : World} {R R' Q Q' : Nat → Prop} {v : Value} {xs : List (Int × Ks)} (h : RcsAt w R R' v xs) (hR : ∀ b, R b → Q b) (hR' : ∀ b, R' b → Q' b) : RcsAt w Q Q' v xs := by
 obtain ⟨⟨rs, h1, h2, h3⟩, h4⟩ := h
 exact ⟨⟨rs, h1, h2, fun i r x hr hx => (h3 i r x hr hx).mono hR⟩, fun b hb => hR' b (h4 b hb)⟩
theorem RcsAt.nil {w : World} {R R' : Nat → Prop} : RcsAt w R R' (.slice none 0 0) [] := ⟨⟨[], Own.nil, rfl, fun i r x hr => by simp at hr⟩, fun b hb => by simp [Value.ownBlock] at hb⟩
theorem RcsAt.form {w : World} {R R' : Nat → Prop} {v : Value} {xs : List (Int × Ks)} (h : RcsAt w R R' v xs) : ∃ a c, v = .slice a xs.length c := by
 obtain ⟨⟨rs, h1, h2, h3⟩, h4⟩ := h
 obtain ⟨a, c, hv⟩ := h1.sl.form
 exact ⟨a, c, by rw [hv, h2]⟩
/-- One record more: the append of a list that holds it. -/
theorem RcsAt.app {w : World} {R R' : Nat → Prop} {v : Value} {xs : List (Int × Ks)} (h : RcsAt w R R' v xs) {r : Rc} {x : Int × Ks} (hr : RcIs w R r x) (hlen : xs.length + 1 ≤ 2000000000000)
  {a : Addr} (hx : Sl 2 w (.slice (some a) 1 1) 1 (encRc r)) (hnew : ∀ b, w.heap.size ≤ b → R' b) :
  ∃ v' w', (Builtin.append_ #[45, 45] 45 #[v, .slice (some a) 1 1]).run Tryz.prog w = .ok v' w' ∧ RcsAt w' R R' v' (xs ++ [x]) ∧ Fr (blkL v) w w' := by
 obtain ⟨⟨rs, h1, h2, h3⟩, h4⟩ := h
 obtain ⟨v4, w4, hr4, hown4, hf4, hbk⟩ := ap45 (ty := 45) h1 hx (by rfl) (by omega)
 refine ⟨v4, w4, hr4, ⟨⟨rs ++ [r], by rw [cellsOf_append, cellsOf_one]; simpa using hown4, by simp [h2], fun i r' x' hr' hx' => ?_⟩, fun b hb => ?_⟩, hf4⟩
 ·have hK : ∀ {r : Rc} {x : Int × Ks}, RcIs w R r x → RcIs w4 R r x := fun hq => ⟨hq.1, hq.2.1.fr hf4 fun b hb e => own_ne hq.2.1 h1 (by decide) b e (mem_blkL.1 hb), hq.2.2⟩
  by_cases hi : i < rs.length
  ·rw [List.getElem?_append_left hi] at hr'
   rw [List.getElem?_append_left (by omega)] at hx'
   exact hK (h3 i r' x' hr' hx')
  ·have hil : i < (rs ++ [r]).length := (List.getElem?_eq_some_iff.1 hr').1
   simp only [List.length_append, List.length_cons, List.length_nil] at hil
   have : i = rs.length := by omega
   subst this
   rw [List.getElem?_concat_length] at hr'
   rw [h2, List.getElem?_concat_length] at hx'
   cases hr'; cases hx'
   exact hK hr
 ·rcases hbk with e | ⟨b', e1, e2⟩
  ·exact h4 b (e ▸ hb)
  ·rw [e1] at hb; cases hb; exact hnew b e2
end Go.Proofs.YtgloomahpjpiiaaGreat.Sm
namespace Go.Proofs.YtgloomahpjpiiaaGreat.Sm
open Go.VW
theorem getL_at {L : List Ks} {i : Nat} {ks : Ks} (h : L[i]? = some ks) : getL L ((i : Int) + 1) = some ks := by
 unfold getL
 rw [if_neg (by omega)]
 have : ((i : Int) + 1 - 1).toNat = i := by omega
 rw [this, h]
theorem fresh_app {w w1 w2 : World} {v : Value} (h1 : ∀ b, v.ownBlock = some b → w.heap.size ≤ b) (hf : Fr (blkL v) w1 w2) (h : Fr [] w w1) : Fr [] w w2 := h.trans hf fun x hx => .inr (h1 x (mem_blkL.1 hx))
set_option maxHeartbeats 4000000 in
theorem from_log {w : World} {lb : Nat} {Wr Rd : List Nat} {L : List Ks} {n m : Int} {K : Value → World → Prop} (h : LogAt w lb Wr Rd L)
  (hK : ∀ v w', RcsAt w' (fun b => w.heap.size ≤ b) (fun b => w.heap.size ≤ b) v (fromL L n m) → Fr [] w w' → K v w') : CallsN Tryz.prog 39 [.pointer (some ⟨lb, 0, none⟩), .int .i64 n, .int .i64 m] w K := by
 have cw := cur w
 have hL := h.len
 obtain ⟨d, hd⟩ : ∃ d, d = (n - 1).toNat := ⟨_, rfl⟩
 have hmax : max n 1 = (d : Int) + 1 := by omega
 have hlen : ∀ j, (((recsL L).drop d).take j).length = min j (L.length - d) := fun j => by rw [List.length_take, List.length_drop, recsL_len]
 refine call39 ?_
 simp (maxSteps:=4000000)(disch:=first|assumption|(simp only[dz];first|done|assumption|omega)|omega|apply_rules[Fr.refl,Fr.alloc,Fr.drew]|rfl) only [↓gd,gp,Nat.reduceAdd,Nat.reduceEqDiff, ↓hk39, hmax]
 refine loop_intro (fun e w' => ∃ (j : Nat) (vo : Value), j ≤ m.toNat ∧ (j ≤ L.length - d) ∧ e 0 = .pointer (some ⟨lb, 0, none⟩) ∧ e 2 = .int .i64 m ∧ e 7 = vo ∧ e 1 = .int .i64 ((d : Int) + j + 1) ∧
   RcsAt w' (fun b => w.heap.size ≤ b) (fun b => w.heap.size ≤ b) vo (((recsL L).drop d).take j) ∧ Fr [] w w') (fun e _ => (L.length + 1 - (numOf (e 1)).toNat)) ?_ ?_
 ·refine ⟨0, .slice none 0 0, Nat.zero_le _, Nat.zero_le _, ?_⟩
  simp (maxSteps:=4000000)(disch:=first|assumption|(simp only[dz];first|done|assumption|omega)|omega|apply_rules[Fr.refl,Fr.alloc,Fr.drew]|rfl) only [↓gsd,gs,gv,Nat.reduceAdd,Nat.reduceEqDiff, Int.natCast_zero, Int.add_zero]
  exact ⟨RcsAt.nil, Fr.refl _ _⟩
 ·rintro e w1 k ⟨j, vo, hj, hjl, e0, e2, e7, e1, hr, hf⟩ hk
  have cw1 := cur w1
  have hz1 := hf.size
  have h1 := h.frN hf
  obtain ⟨oa, oc, hvo⟩ := hr.form
  have hol := hlen j
  rw [Nat.min_eq_left hjl] at hol
  rw [hol] at hvo
  have hdone : ¬ ((d : Int) + j + 1 ≤ (L.length : Int) ∧ (j : Int) < m) → ((recsL L).drop d).take j = fromL L n m := by
   intro hh
   unfold fromL
   rw [← hd]
   by_cases q : (d : Int) + j + 1 ≤ (L.length : Int)
   ·have : j = m.toNat := by omega
    rw [this]
   ·rw [List.take_of_length_le (by rw [List.length_drop, recsL_len]; omega), List.take_of_length_le (by rw [List.length_drop, recsL_len]; omega)]
  by_cases c1 : (d : Int) + j + 1 ≤ (L.length : Int)
  ·have d1 : decide ((d : Int) + j + 1 ≤ (L.length : Int)) = true := decide_eq_true c1
   by_cases c2 : (j : Int) < m
   ·have d2 : decide ((j : Int) < m) = true := decide_eq_true c2
    simp (maxSteps:=4000000)(disch:=first|assumption|(simp only[dz];first|done|assumption|omega)|omega|apply_rules[Fr.refl,Fr.alloc,Fr.drew]|rfl) only [↓gd,gp,Nat.reduceAdd,Nat.reduceEqDiff, ↓hk39, e0, e1, e2, e7]
    refine last_spec h1 ?_
    simp (maxSteps:=4000000)(disch:=first|assumption|(simp only[dz];first|done|assumption|omega)|omega|apply_rules[Fr.refl,Fr.alloc,Fr.drew]|rfl) only [↓gd,gp,Nat.reduceAdd,Nat.reduceEqDiff, ↓hk39, e0, e1, e2, e7, hvo, d1, d2]
    obtain ⟨ks, hks⟩ : ∃ ks, L[d + j]? = some ks := ⟨L[d + j]'(by omega), List.getElem?_eq_getElem (by omega)⟩
    have hg : getL L ((d : Int) + j + 1) = some ks := by have := getL_at hks; rwa [Int.natCast_add] at this
    refine get_log h1 (fun e => by rw [hg] at e; cases e) fun ks' r w2 hg' hf2 hrc => ?_
    rw [hg] at hg'; cases hg'
    have cw2 := cur w2
    have hz2 := hf2.size
    unfold Rc.v encRc
    have hF2 := hf.trans' hf2
    simp (maxSteps:=4000000)(disch:=first|assumption|(simp only[dz];first|done|assumption|omega)|omega|apply_rules[Fr.refl,Fr.alloc,Fr.drew]|rfl) only [↓gd,gp,Nat.reduceAdd,Nat.reduceEqDiff, ↓hk39, e0, e1, e2, e7]
    generalize hW : World.alloc (World.alloc w2 _) _ = w3
    have hf3 : Fr [] w2 w3 := by rw [← hW]; (repeat (first | exact Fr.refl _ _ | assumption | with_reducible apply Fr.alloc | with_reducible apply Fr.drew | with_reducible refine Fr.setB ?_ _ _ (.inr (by first | omega | (simp only [gz]; omega))) | with_reducible refine Fr.setB ?_ _ _ (.inl (by first | assumption | simp)) | with_reducible refine Fr.trans' ?_ (by assumption)))
    have hz3 : w3.heap.size = w2.heap.size + 2 := by rw [← hW]; simp only [gz]
    have hsl : Sl 2 w3 (.slice (some ⟨w2.heap.size + 1, 0, none⟩) 1 1) 1 (encRc r) := by
     rw [← hW]
     refine ⟨rfl, .inr ⟨w2.heap.size + 1, 0, 1, (encRc r).toArray, 86, (0, 0), rfl, ?_, rfl⟩⟩
     unfold encRc
     simp (maxSteps:=4000000)(disch:=first|assumption|(simp only[dz];first|done|assumption|omega)|omega|apply_rules[Fr.refl,Fr.alloc,Fr.drew]|rfl) only [↓gsd,gs,gv,Nat.reduceAdd,Nat.reduceEqDiff]
    clear hW
    have cw3 := cur w3
    have hrc3 : RcIs w3 (fun b => w.heap.size ≤ b) r ((d : Int) + j + 1, ks) := (hrc.mono (fun b hb => Nat.le_trans hz1 hb)).frN hf3
    obtain ⟨v4, w4, hr4, hrs4, hf4⟩ := RcsAt.app ((hr.frN hf2).frN hf3) hrc3 (by rw [hol]; omega) hsl (fun b hb => by omega)
    have cw4 := cur w4
    have hF4 : Fr [] w w4 := fresh_app hr.blk hf4 (hF2.trans' hf3)
    have wr : IntKind.i64.wrap ((d : Int) + j + 1 + 1) = (d : Int) + (j + 1 : Nat) + 1 := by rw [wrap64 (by omega) (by omega)]; omega
    simp (maxSteps:=4000000)(disch:=first|assumption|(simp only[dz];first|done|assumption|omega)|omega|apply_rules[Fr.refl,Fr.alloc,Fr.drew]|rfl) only [↓gd,gp,Nat.reduceAdd,Nat.reduceEqDiff, ↓hk39, e0, e1, e2, e7, hr4, wr]
    refine hk _ _ ⟨j + 1, v4, by omega, by omega, ?_⟩ ?_
    ·simp (maxSteps:=4000000)(disch:=first|assumption|(simp only[dz];first|done|assumption|omega)|omega|apply_rules[Fr.refl,Fr.alloc,Fr.drew]|rfl) only [↓gsd,gs,gv,Nat.reduceAdd,Nat.reduceEqDiff, e0, e1, e2, e7]
     refine ⟨?_, hF4⟩
     have : ((recsL L).drop d).take (j + 1) = ((recsL L).drop d).take j ++ [((d : Int) + j + 1, ks)] := by
      rw [List.take_add_one, List.getElem?_drop, recsL_get, hks]
      simp
     rw [this]; exact hrs4
    ·simp (maxSteps:=4000000)(disch:=first|assumption|(simp only[dz];first|done|assumption|omega)|omega|apply_rules[Fr.refl,Fr.alloc,Fr.drew]|rfl) only [↓gsd,gs,gv,Nat.reduceAdd,Nat.reduceEqDiff, e1, numOf]; omega
   ·have d2 : decide ((j : Int) < m) = false := decide_eq_false c2
    simp (maxSteps:=4000000)(disch:=first|assumption|(simp only[dz];first|done|assumption|omega)|omega|apply_rules[Fr.refl,Fr.alloc,Fr.drew]|rfl) only [↓gd,gp,Nat.reduceAdd,Nat.reduceEqDiff, ↓hk39, e0, e1, e2, e7]
    refine last_spec h1 ?_
    simp (maxSteps:=4000000)(disch:=first|assumption|(simp only[dz];first|done|assumption|omega)|omega|apply_rules[Fr.refl,Fr.alloc,Fr.drew]|rfl) only [↓gd,gp,Nat.reduceAdd,Nat.reduceEqDiff, ↓hk39, e0, e1, e2, e7, hvo, d1, d2]
    rw [hdone (by omega)] at hr
    rw [← hvo]
    exact hK _ _ hr hf
  ·have d1 : decide ((d : Int) + j + 1 ≤ (L.length : Int)) = false := decide_eq_false c1
   simp (maxSteps:=4000000)(disch:=first|assumption|(simp only[dz];first|done|assumption|omega)|omega|apply_rules[Fr.refl,Fr.alloc,Fr.drew]|rfl) only [↓gd,gp,Nat.reduceAdd,Nat.reduceEqDiff, ↓hk39, e0, e1, e2, e7]
   refine last_spec h1 ?_
   simp (maxSteps:=4000000)(disch:=first|assumption|(simp only[dz];first|done|assumption|omega)|omega|apply_rules[Fr.refl,Fr.alloc,Fr.drew]|rfl) only [↓gd,gp,Nat.reduceAdd,Nat.reduceEqDiff, ↓hk39, e0, e1, e2, e7, hvo, d1]
   rw [hdone (by omega)] at hr
   rw [← hvo]
   exact hK _ _ hr hf
end Go.Proofs.YtgloomahpjpiiaaGreat.Sm
