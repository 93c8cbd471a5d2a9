/- The plain law of a ring of marks (layer 8). The newest invalidations (layer 8): a ring of marks, walked. -/
import Derived.Test.YtomlgkecckffeaaGreatCB
import Derived.Test.YtomlgkecckffeaaGreatVD
import Derived.Test.YtomlgkecckffeaaGreatKS
import Derived.Laws.MakeOwn
set_option linter.unusedVariables false
set_option linter.unusedSimpArgs false
namespace Go.Proofs.YtomlgkecckffeaaGreat
open Go.VW
section
variable {α : Type}
structure RingIs (ring : List α) (first n : Nat) (l : List α) : Prop where
 lt : first < ring.length
 le : n ≤ ring.length
 len : l.length = n
 at_ : ∀ i, i < n → ring[(first + i) % ring.length]? = l[i]?
theorem RingIs.nil {ring : List α} {first : Nat} (h : first < ring.length) : RingIs ring first 0 [] := ⟨h, Nat.zero_le _, rfl, fun i hi => absurd hi (Nat.not_lt_zero i)⟩
theorem mod_ne {a i n N : Nat} (hin : i < n) (hn : n < N) : (a + i) % N ≠ (a + n) % N := by
 intro h
 have h1 := Nat.div_add_mod (a + i) N
 have h2 := Nat.div_add_mod (a + n) N
 rw [← h] at h2
 have h3 : N * ((a + i) / N) + (n - i) = N * ((a + n) / N) := by omega
 rcases Nat.lt_trichotomy ((a + i) / N) ((a + n) / N) with q | q | q
 ·have : N * ((a + i) / N + 1) ≤ N * ((a + n) / N) := Nat.mul_le_mul_left N q
  rw [Nat.mul_add, Nat.mul_one] at this; omega
 ·rw [q] at h3; omega
 ·have : N * ((a + n) / N + 1) ≤ N * ((a + i) / N) := Nat.mul_le_mul_left N q
  rw [Nat.mul_add, Nat.mul_one] at this; omega
theorem RingIs.push {ring : List α} {first n : Nat} {l : List α} (h : RingIs ring first n l) (hn : n < ring.length) (m : α) : RingIs (ring.set ((first + n) % ring.length) m) first (n + 1) (l ++ [m]) := by
 have hl := h.len
 refine ⟨by rw [List.length_set]; exact h.lt, by rw [List.length_set]; omega, by simp [hl], fun i hi => ?_⟩
 rw [List.length_set, List.getElem?_set]
 by_cases q : i = n
 ·subst q
  rw [if_pos rfl, if_pos (Nat.mod_lt _ (by omega)), List.getElem?_append_right (by omega), show i - l.length = 0 by omega]; rfl
 ·rw [if_neg (fun e => mod_ne (a := first) (by omega : i < n) hn e.symm), h.at_ i (by omega), List.getElem?_append_left (by omega)]
theorem RingIs.pop {ring : List α} {first n : Nat} {l : List α} (h : RingIs ring first (n + 1) l) : RingIs ring ((first + 1) % ring.length) n l.tail ∧ l.head? = ring[first]? := by
 have h0 := h.lt
 refine ⟨⟨Nat.mod_lt _ (by omega), by have := h.le; omega, by simp [h.len], fun i hi => ?_⟩, ?_⟩
 ·rw [Nat.mod_add_mod, show first + 1 + i = first + (i + 1) by omega, h.at_ (i + 1) (by omega)]
  cases l with
  | nil => simp
  | cons x r => simp
 ·have := h.at_ 0 (by omega)
  rw [Nat.add_zero, Nat.mod_eq_of_lt h0] at this
  rw [this, List.head?_eq_getElem?]
theorem RingIs.put {ring : List α} {first n : Nat} {l : List α} (h : RingIs ring first n l) (m : α) :
  (n = ring.length → RingIs (ring.set (((first + 1) % ring.length + (n - 1)) % ring.length) m) ((first + 1) % ring.length) (n - 1 + 1) (l.tail ++ [m]) ∧ l.head? = ring[first]?) ∧
  (n ≠ ring.length → RingIs (ring.set ((first + n) % ring.length) m) first (n + 1) (l ++ [m])) := by
 have h0 := h.lt
 refine ⟨fun hn => ?_, fun hn => h.push (by have := h.le; omega) m⟩
 obtain ⟨k, rfl⟩ : ∃ k, n = k + 1 := ⟨n - 1, by omega⟩
 obtain ⟨h1, h2⟩ := h.pop
 rw [Nat.add_sub_cancel]
 exact ⟨h1.push (by omega) m, h2⟩
end
end Go.Proofs.YtomlgkecckffeaaGreat

set_option maxRecDepth 10000
namespace Go.Proofs.YtomlgkecckffeaaGreat
open Go.VW
abbrev Mk := Int × ByteArray
abbrev encMk (m : Mk) : List Value := [.int .i64 m.1, .string m.2]
theorem encMk_len (m : Mk) : (encMk m).length = 2 := rfl
def ringO (L : List Mk) : Obj := .cells (cellsOf encMk L).toArray 187 (0, 0)
theorem ring_cells {L : List Mk} {i : Nat} {x : Mk} (h : L[i]? = some x) : cellsOf encMk L = cellsOf encMk (L.take i) ++ encMk x ++ cellsOf encMk (L.drop (i + 1)) ∧ (cellsOf encMk (L.take i)).length = i * 2 := by
 obtain ⟨h1, h2⟩ := List.getElem?_eq_some_iff.1 h
 refine ⟨?_, by rw [cellsOf_length encMk_len, List.length_take]; omega⟩
 have hl : L = L.take i ++ x :: L.drop (i + 1) := by
  conv => { lhs; rw [← List.take_append_drop i L, List.drop_eq_getElem_cons h1, h2] }
 conv => { lhs; rw [hl] }
 rw [cellsOf_append]
 simp [cellsOf]
theorem ringO_ld {L : List Mk} {i : Nat} {x : Mk} (h : L[i]? = some x) (orig : Prop) (K : Value → Prop) : ldnV orig 2 (some (ringO L)) (i * 2) K = K (.agg (encMk x).toArray) := by
 obtain ⟨e, hl⟩ := ring_cells h
 unfold ringO
 have e2 : ((cellsOf encMk L).drop (i * 2)).take 2 = encMk x := by
  rw [e, List.append_assoc, List.drop_append_of_le_length (by omega), List.drop_of_length_le (by omega), List.nil_append, List.take_append_of_le_length (by simp), List.take_of_length_le (by simp)]
 rw [ldnV_cells _ _ _ _ _ _ _ (by show (((cellsOf encMk L).drop (i * 2)).take 2).length = 2; rw [e2]; rfl)]
 show K (.agg (((cellsOf encMk L).drop (i * 2)).take 2).toArray) = _
 rw [e2]
theorem ringO_ld0 {L : List Mk} {i : Nat} {x : Mk} (h : L[i]? = some x) (orig : Prop) (K : Value → Prop) : ldV orig (some (ringO L)) (i * 2) K = K (.int .i64 x.1) := by
 obtain ⟨e, hl⟩ := ring_cells h
 unfold ringO
 rw [ldV_cells]
 have : (cellsOf encMk L)[i * 2]? = some (.int .i64 x.1) := by
  rw [e, List.append_assoc, List.getElem?_append_right (by omega), hl, Nat.sub_self]; rfl
 simp only [this, oV_some]
theorem ringO_st {L : List Mk} {i : Nat} (y : Mk) (h : i < L.length) (orig : Prop) (K : Obj → Prop) : stV orig 2 (some (ringO L)) (i * 2) (encMk y) K = K (ringO (L.set i y)) := by
 obtain ⟨x, hx⟩ : ∃ x, L[i]? = some x := ⟨L[i], List.getElem?_eq_getElem h⟩
 obtain ⟨e, hl⟩ := ring_cells hx
 obtain ⟨e', hl'⟩ := ring_cells (L := L.set i y) (i := i) (x := y) (by rw [List.getElem?_set, if_pos rfl, if_pos h])
 have hcl : (cellsOf encMk L).length = L.length * 2 := cellsOf_length encMk_len L
 unfold ringO
 rw [stV_cells orig 2 _ _ (i * 2) (encMk y) K rfl (by show i * 2 + 2 ≤ (cellsOf encMk L).length; omega) rfl]
 congr 3
 rw [e', List.take_set, List.drop_set_of_lt (by omega), List.set_eq_of_length_le (by rw [List.length_take]; omega)]
 show (cellsOf encMk L).take (i * 2) ++ encMk y ++ (cellsOf encMk L).drop (i * 2 + 2) = _
 congr 1
 ·congr 1
  rw [e, List.append_assoc, List.take_append_of_le_length (by omega), List.take_of_length_le (by omega)]
 ·rw [e, List.drop_append, List.drop_of_length_le (by simp; omega), List.nil_append]
  simp only [List.length_append, hl, encMk_len]
  rw [Nat.sub_self, List.drop_zero]
structure Rcn where
 cap : Nat
 marks : List Mk
 since : Int
 last : Int
def clampC (a : Int) : Int := min (max a 0) 1099511627776
def Rcn.new (most since : Int) : Rcn := ⟨(min (max most 0) 1024).toNat, [], clampC since, clampC since⟩
def Rcn.put (R : Rcn) (m : Mk) : Rcn :=
 if R.cap = 0 then { R with since := m.1 }
 else if R.marks.length = R.cap then { R with since := ((R.marks.head?).map (·.1)).getD 0, marks := R.marks.tail ++ [m] }
 else { R with marks := R.marks ++ [m] }
def Rcn.note (R : Rcn) (n : Int) (keys : List ByteArray) : Rcn :=
 if n ≤ R.last ∨ 1099511627776 < n then R else keys.foldl (fun R k => R.put (n, k)) { R with last := n }
def Rcn.covers (R : Rcn) (n : Int) : Bool := decide (R.since ≤ n) && decide (n ≤ R.last)
def Rcn.first (R : Rcn) (k : ByteArray) (after : Int) : Option Int := (R.marks.find? fun m => decide (after < m.1) && decide (m.2 = k)).map (·.1)
structure RcnAt (w : World) (rb gb : Nat) (R : Rcn) : Prop where
 ex : ∃ (first n : Nat) (ring : List Mk), w.heap[rb]? = some (.cells ([.slice (some ⟨gb, 0, none⟩) R.cap R.cap, .int .i64 first, .int .i64 n, .int .i64 R.since, .int .i64 R.last] : List Value).toArray 184 (0, 0)) ∧ w.heap[gb]? = some (ringO ring) ∧ ring.length = R.cap ∧ n = R.marks.length ∧
  (R.cap = 0 ∧ R.marks = [] ∧ first = 0 ∨ RingIs ring first n R.marks)
 cap : R.cap ≤ 1024
theorem RcnAt.lt {w : World} {rb gb : Nat} {R : Rcn} (h : RcnAt w rb gb R) : rb < w.heap.size ∧ gb < w.heap.size ∧ rb ≠ gb := by
 obtain ⟨first, n, ring, h1, h2, _⟩ := h.ex
 refine ⟨lt_of_get _ _ h1, lt_of_get _ _ h2, fun e => ?_⟩
 rw [← e, h1] at h2
 unfold ringO at h2
 simp at h2
theorem RcnAt.fr {w w' : World} {rb gb : Nat} {R : Rcn} (h : RcnAt w rb gb R) {M : List Nat} (hf : Fr M w w') (h1 : rb ∉ M) (h2 : gb ∉ M) : RcnAt w' rb gb R := by
 obtain ⟨⟨first, n, ring, g1, g2, g3⟩, hc⟩ := h
 exact ⟨⟨first, n, ring, hf.get g1 h1, hf.get g2 h2, g3⟩, hc⟩
theorem RcnAt.frN {w w' : World} {rb gb : Nat} {R : Rcn} (h : RcnAt w rb gb R) (hf : Fr [] w w') : RcnAt w' rb gb R := h.fr hf (by simp) (by simp)
theorem RcnAt.len {w : World} {rb gb : Nat} {R : Rcn} (h : RcnAt w rb gb R) : R.marks.length ≤ R.cap := by
 obtain ⟨first, n, ring, _, _, g3, g4, g5⟩ := h.ex
 rcases g5 with ⟨_, q, _⟩ | q
 ·rw [q]; simp
 ·have := q.le; omega
theorem tmodN {a b : Nat} : (a : Int).tmod (b : Int) = ((a % b : Nat) : Int) := (Int.ofNat_tmod a b).symm
theorem since_spec {w : World} {rb gb : Nat} {R : Rcn} {K : Value → World → Prop} (h : RcnAt w rb gb R) (hK : K (.int .i64 R.since) w) : CallsN Tryz.prog 77 [.pointer (some ⟨rb, 0, none⟩)] w K := by
 have cw := cur w
 obtain ⟨first, n, ring, h1, _⟩ := h.ex
 refine call77 ?_
 simp (maxSteps:=9^7)(disch:=first|assumption|(simp only[dz];first|done|assumption|omega)|omega|apply_rules[Fr.refl,Fr.alloc,Fr.drew]|rfl) only [↓gd,gp,Nat.reduceAdd,Nat.reduceEqDiff, ↓hk77, h1]
 exact hK
theorem covers_spec {w : World} {rb gb : Nat} {R : Rcn} {x : Int} {K : Value → World → Prop} (h : RcnAt w rb gb R) (hK : K (.bool (R.covers x)) w) : CallsN Tryz.prog 121 [.pointer (some ⟨rb, 0, none⟩), .int .i64 x] w K := by
 have cw := cur w
 obtain ⟨first, n, ring, h1, _⟩ := h.ex
 unfold Rcn.covers at hK
 refine call121 ?_
 cases d1 : decide (R.since ≤ x) with
 | false =>
   rw [d1] at hK
   simp (maxSteps:=9^7)(disch:=first|assumption|(simp only[dz];first|done|assumption|omega)|omega|apply_rules[Fr.refl,Fr.alloc,Fr.drew]|rfl) only [↓gd,gp,Nat.reduceAdd,Nat.reduceEqDiff, ↓hk121, h1, d1]
   exact hK
 | true =>
   rw [d1] at hK
   simp (maxSteps:=9^7)(disch:=first|assumption|(simp only[dz];first|done|assumption|omega)|omega|apply_rules[Fr.refl,Fr.alloc,Fr.drew]|rfl) only [↓gd,gp,Nat.reduceAdd,Nat.reduceEqDiff, ↓hk121, h1, d1]
   exact hK
theorem at_spec {w : World} {rb gb : Nat} {R : Rcn} {i : Nat} {x : Mk} {K : Value → World → Prop} (h : RcnAt w rb gb R) (hx : R.marks[i]? = some x) (hK : ∀ w', Fr [] w w' → K (.agg (encMk x).toArray) w') : CallsN Tryz.prog 170 [.pointer (some ⟨rb, 0, none⟩), .int .i64 i] w K := by
 have cw := cur w
 have hcap := h.cap
 have hlen := h.len
 obtain ⟨hr1, hr2, hr3⟩ := h.lt
 obtain ⟨first, n, ring, h1, h2, h3, h4, h5⟩ := h.ex
 have hil := (List.getElem?_eq_some_iff.1 hx).1
 have hR : RingIs ring first n R.marks := by
  rcases h5 with ⟨_, q, _⟩ | q
  ·rw [q] at hil; simp at hil
  ·exact q
 have hf1 := hR.lt
 have hat := hR.at_ i (by omega)
 rw [hx] at hat
 have hml : (first + i) % ring.length < ring.length := Nat.mod_lt _ (by omega)
 have wa : IntKind.i64.wrap ((first : Int) + (i : Int)) = ((first + i : Nat) : Int) := by rw [wrap64 (by omega) (by omega)]; omega
 have hm : ∀ (x y : Operand) (w : World), (xbin .rem 3 x y (.int .i64 ((first + i : Nat) : Int)) (.int .i64 R.cap)).run Tryz.prog w = .ok (.int .i64 (((first + i) % ring.length : Nat) : Int)) w := fun x y w => by
  rw [run_rem (h := by omega), tmodN, h3]
 have m0 : (0 : Int) ≤ (((first + i) % ring.length : Nat) : Int) := by omega
 have m1 : (((first + i) % ring.length : Nat) : Int) < (R.cap : Int) := by omega
 have r1 := fun orig K => ringO_ld hat orig K
 have thm := fun (x y : Operand) M (w0 : World) (K : Value → Prop) => takeP_xv (P := Tryz.prog) (M := M) (w0 := w0) (hm x y) K
 refine call170 ?_
 simp (maxSteps:=9^7)(disch:=first|assumption|(simp only[dz];first|done|assumption|omega)|omega|apply_rules[Fr.refl,Fr.alloc,Fr.drew]|rfl) only [↓gd,gp,Nat.reduceAdd,Nat.reduceEqDiff, ↓hk170, h1, wa, thm, m0, m1, Int.toNat_natCast, Nat.zero_add, h2, r1]
 exact hK _ fr_
set_option maxHeartbeats 4000000 in
theorem first_spec {w : World} {rb gb : Nat} {R : Rcn} {k : ByteArray} {after : Int} {K : Value → World → Prop} (h : RcnAt w rb gb R)
  (hK : ∀ w', Fr [] w w' → K (.tuple ([.int .i64 ((R.first k after).getD 0), .bool (R.first k after).isSome] : List Value).toArray) w') : CallsN Tryz.prog 122 [.pointer (some ⟨rb, 0, none⟩), .string k, .int .i64 after] w K := by
 have cw := cur w
 have hcap := h.cap
 have hlen := h.len
 obtain ⟨fi, n, ring, h1, h2, h3, h4, h5⟩ := h.ex
 subst h4
 refine call122 ?_
 simp (maxSteps:=9^7)(disch:=first|assumption|(simp only[dz];first|done|assumption|omega)|omega|apply_rules[Fr.refl,Fr.alloc,Fr.drew]|rfl) only [↓gd,gp,Nat.reduceAdd,Nat.reduceEqDiff, ↓hk122, h1]
 refine for_intro R.marks.length 16 0 (fun i e w' => e 0 = .pointer (some ⟨rb, 0, none⟩) ∧ e 1 = .string k ∧ e 2 = .int .i64 after ∧ e 15 = .int .i64 R.marks.length ∧ R.first k after = ((R.marks.drop i).find? fun m => decide (after < m.1) && decide (m.2 = k)).map (·.1) ∧ Fr [] w w') ?_ (Nat.zero_le _) ?_ ?_
 ·simp (maxSteps:=9^7)(disch:=first|assumption|(simp only[dz];first|done|assumption|omega)|omega|apply_rules[Fr.refl,Fr.alloc,Fr.drew]|rfl) only [↓gsd,gs,gv,Nat.reduceAdd,Nat.reduceEqDiff, Int.natCast_zero]
 ·simp (maxSteps:=9^7)(disch:=first|assumption|(simp only[dz];first|done|assumption|omega)|omega|apply_rules[Fr.refl,Fr.alloc,Fr.drew]|rfl) only [↓gsd,gs,gv,Nat.reduceAdd,Nat.reduceEqDiff, List.drop_zero]
  exact ⟨rfl, Fr.refl _ _⟩
 rintro i e w1 kk hi eS ⟨e0, e1, e2, e15, hq, hf⟩ hkk
 have cw1 := cur w1
 by_cases hil : i < R.marks.length
 ·have d1 : decide ((i : Int) < (R.marks.length : Int)) = true := decide_eq_true (by omega)
  obtain ⟨m, hm⟩ : ∃ m, R.marks[i]? = some m := ⟨R.marks[i], List.getElem?_eq_getElem hil⟩
  have wi : IntKind.i64.wrap ((i : Int) + 1) = (i : Int) + 1 := wrap64 (by omega) (by omega)
  have hd : R.marks.drop i = m :: R.marks.drop (i + 1) := by
   obtain ⟨g1, g2⟩ := List.getElem?_eq_some_iff.1 hm
   rw [List.drop_eq_getElem_cons g1, g2]
  rw [hd, List.find?_cons] at hq
  simp (maxSteps:=9^7)(disch:=first|assumption|(simp only[dz];first|done|assumption|omega)|omega|apply_rules[Fr.refl,Fr.alloc,Fr.drew]|rfl) only [↓gd,gp,Nat.reduceAdd,Nat.reduceEqDiff, ↓hk122, e0, e1, e2, e15, eS, d1]
  refine at_spec (h.frN hf) hm fun w2 hf2 => ?_
  have cw2 := cur w2
  cases d2 : decide (after < m.1) with
  | false =>
    rw [d2] at hq
    simp (maxSteps:=9^7)(disch:=first|assumption|(simp only[dz];first|done|assumption|omega)|omega|apply_rules[Fr.refl,Fr.alloc,Fr.drew]|rfl) only [↓gd,gp,Nat.reduceAdd,Nat.reduceEqDiff, ↓hk122, e0, e1, e2, e15, eS, d2, wi]
    refine hkk _ _ hil rfl ?_
    simp (maxSteps:=9^7)(disch:=first|assumption|(simp only[dz];first|done|assumption|omega)|omega|apply_rules[Fr.refl,Fr.alloc,Fr.drew]|rfl) only [↓gsd,gs,gv,Nat.reduceAdd,Nat.reduceEqDiff, e0, e1, e2, e15]
    exact ⟨hq, fr_⟩
  | true =>
    cases d3 : decide (m.2 = k) with
    | false =>
      rw [d2, d3] at hq
      simp (maxSteps:=9^7)(disch:=first|assumption|(simp only[dz];first|done|assumption|omega)|omega|apply_rules[Fr.refl,Fr.alloc,Fr.drew]|rfl) only [↓gd,gp,Nat.reduceAdd,Nat.reduceEqDiff, ↓hk122, e0, e1, e2, e15, eS, d2, d3, wi]
      refine hkk _ _ hil rfl ?_
      simp (maxSteps:=9^7)(disch:=first|assumption|(simp only[dz];first|done|assumption|omega)|omega|apply_rules[Fr.refl,Fr.alloc,Fr.drew]|rfl) only [↓gsd,gs,gv,Nat.reduceAdd,Nat.reduceEqDiff, e0, e1, e2, e15]
      exact ⟨hq, fr_⟩
    | true =>
      rw [d2, d3] at hq
      have hq' : R.first k after = some m.1 := hq
      rw [hq'] at hK
      simp (maxSteps:=9^7)(disch:=first|assumption|(simp only[dz];first|done|assumption|omega)|omega|apply_rules[Fr.refl,Fr.alloc,Fr.drew]|rfl) only [↓gd,gp,Nat.reduceAdd,Nat.reduceEqDiff, ↓hk122, e0, e1, e2, e15, eS, d2, d3, wi]
      exact hK _ fr_
 ·have d1 : decide ((i : Int) < (R.marks.length : Int)) = false := decide_eq_false (by omega)
  rw [List.drop_of_length_le (by omega)] at hq
  have hq' : R.first k after = none := hq
  rw [hq'] at hK
  simp (maxSteps:=9^7)(disch:=first|assumption|(simp only[dz];first|done|assumption|omega)|omega|apply_rules[Fr.refl,Fr.alloc,Fr.drew]|rfl) only [↓gd,gp,Nat.reduceAdd,Nat.reduceEqDiff, ↓hk122, e0, e1, e2, e15, eS, d1]
  exact hK _ hf
theorem made_marks (n : Nat) : madeCells #[.int .i64 0, .string ⟨#[]⟩] (n * 2) = (cellsOf encMk (List.replicate n (0, ⟨#[]⟩))).toArray := by
 apply Array.toList_inj.1
 show _ = cellsOf encMk (List.replicate n (0, ⟨#[]⟩))
 induction n with
 | zero => simp [madeCells, cellsOf]
 | succ n ih =>
   rw [List.replicate_succ', cellsOf_append, ← ih]
   unfold madeCells
   simp only [Array.toList_map, Array.toList_range, Nat.add_mul, Nat.one_mul]
   rw [List.range_succ, List.range_succ, List.map_append, List.map_append]
   have e1 : (n * 2) % 2 = 0 := by omega
   have e2 : (n * 2 + 1) % 2 = 1 := by omega
   simp [e1, e2, cellsOf]
set_option maxHeartbeats 4000000 in
theorem rnew_spec {w : World} {m s : Int} {K : Value → World → Prop} (hK : ∀ rb gb w', Fr [] w w' → w.heap.size ≤ rb → w.heap.size ≤ gb → RcnAt w' rb gb (Rcn.new m s) → K (.pointer (some ⟨rb, 0, none⟩)) w') : CallsN Tryz.prog 85 [.int .i64 m, .int .i64 s] w K := by
 have cw := cur w
 obtain ⟨n, hn⟩ : ∃ n : Nat, min (max m 0) 1024 = (n : Int) := ⟨(min (max m 0) 1024).toNat, by omega⟩
 have hmk : ∀ w, (Instr.makeSlice 98 (.int .i64 n) (.int .i64 n)).run Tryz.prog w = .ok (.slice (some ⟨w.heap.size, 0, none⟩) n n) (w.alloc (ringO (List.replicate n (0, ⟨#[]⟩)))) := fun w => by
  have hr := run_make (P := Tryz.prog) w 98 187 Tryz.t187 (.agg #[.int .i64 0, .string ⟨#[]⟩]) (by kernel_rfl) (by kernel_rfl) rfl .i64 .i64 n n (by omega) (Int.le_refl _) (by show (24 : Int) * n ≤ _; omega) (by omega)
  simp only [Int.toNat_natCast] at hr
  rw [hr]
  show Result.ok _ _ = _
  congr 2
  unfold ringO
  rw [← made_marks]
  rfl
 refine call85 ?_
 simp (maxSteps:=9^7)(disch:=first|assumption|(simp only[dz];first|done|assumption|omega)|omega|apply_rules[Fr.refl,Fr.alloc,Fr.drew]|rfl) only [↓gd,gp,Nat.reduceAdd,Nat.reduceEqDiff, ↓hk85, hn, hmk]
 have hcn : (Rcn.new m s).cap = n := by unfold Rcn.new; simp only; omega
 refine hK (w.heap.size + 1) w.heap.size _ fr_ (by omega) (by omega) ⟨⟨0, 0, List.replicate n (0, ⟨#[]⟩), ?_, ?_, by rw [List.length_replicate, hcn], rfl, ?_⟩, by omega⟩
 ·rw [hcn]
  simp (maxSteps:=9^7)(disch:=first|assumption|(simp only[dz];first|done|assumption|omega)|omega|apply_rules[Fr.refl,Fr.alloc,Fr.drew]|rfl) only [↓gsd,gs,gv,Nat.reduceAdd,Nat.reduceEqDiff, Int.natCast_zero]
  rfl
 ·simp (maxSteps:=9^7)(disch:=first|assumption|(simp only[dz];first|done|assumption|omega)|omega|apply_rules[Fr.refl,Fr.alloc,Fr.drew]|rfl) only [↓gsd,gs,gv,Nat.reduceAdd,Nat.reduceEqDiff]
 ·by_cases h0 : n = 0
  ·exact .inl ⟨by rw [hcn, h0], rfl, rfl⟩
  ·exact .inr (RingIs.nil (by rw [List.length_replicate]; omega))
set_option maxHeartbeats 8000000 in
theorem rput_spec {w : World} {rb gb : Nat} {R : Rcn} {m : Mk} {K : Value → World → Prop} (h : RcnAt w rb gb R) (hK : ∀ w', Fr [rb, gb] w w' → RcnAt w' rb gb (R.put m) → K (.tuple #[]) w') :
  CallsN Tryz.prog 137 [.pointer (some ⟨rb, 0, none⟩), .agg (encMk m).toArray] w K := by
 have cw := cur w
 have hcap := h.cap
 have hlen := h.len
 obtain ⟨hr1, hr2, hr3⟩ := h.lt
 have hr3' : gb ≠ rb := fun e => hr3 e.symm
 obtain ⟨fi, n, ring, h1, h2, h3, h4, h5⟩ := h.ex
 subst h4
 refine call137 ?_
 by_cases hc0 : R.cap = 0
 ·have d1 : decide ((R.cap : Int) = 0) = true := decide_eq_true (by omega)
  have hp : R.put m = { R with since := m.1 } := by unfold Rcn.put; rw [if_pos hc0]
  rw [hp] at hK
  simp (maxSteps:=9^7)(disch:=first|assumption|(simp only[dz];first|done|assumption|omega)|omega|apply_rules[Fr.refl,Fr.alloc,Fr.drew]|rfl) only [↓gd,gp,Nat.reduceAdd,Nat.reduceEqDiff, ↓hk137, h1, d1]
  refine hK _ fr_ ⟨⟨fi, R.marks.length, ring, ?_, ?_, h3, rfl, h5⟩, hcap⟩
  ·simp (maxSteps:=9^7)(disch:=first|assumption|(simp only[dz];first|done|assumption|omega)|omega|apply_rules[Fr.refl,Fr.alloc,Fr.drew]|rfl) only [↓gsd,gs,gv,Nat.reduceAdd,Nat.reduceEqDiff]
  ·simp (maxSteps:=9^7)(disch:=first|assumption|(simp only[dz];first|done|assumption|omega)|omega|apply_rules[Fr.refl,Fr.alloc,Fr.drew]|rfl) only [↓gsd,gs,gv,Nat.reduceAdd,Nat.reduceEqDiff, h2]
 have d1 : decide ((R.cap : Int) = 0) = false := decide_eq_false (by omega)
 have hR : RingIs ring fi R.marks.length R.marks := by
  rcases h5 with ⟨q, _⟩ | q
  ·exact absurd q hc0
  ·exact q
 have hfl := hR.lt
 obtain ⟨p1, p2⟩ := hR.put m
 -- the mark laid behind the others
 have tail : ∀ (f n' : Nat) (since : Int) (ms : List Mk) (e : Env) (w1 : World), Fr [rb, gb] w w1 → f < ring.length → n' < ring.length → e 0 = .pointer (some ⟨rb, 0, none⟩) → e 3 = .pointer (some ⟨w.heap.size, 0, none⟩) → w1.heap[w.heap.size]? = some (.cells (encMk m).toArray 187 (0, 0)) →
   w1.heap[rb]? = some (.cells ([.slice (some ⟨gb, 0, none⟩) R.cap R.cap, .int .i64 f, .int .i64 n', .int .i64 since, .int .i64 R.last] : List Value).toArray 184 (0, 0)) → w1.heap[gb]? = some (ringO ring) → RingIs (ring.set ((f + n') % ring.length) m) f (n' + 1) ms → R.put m = { R with since := since, marks := ms } →
   W3 Tryz.prog 88 V137 c137_3 (retQ Tryz.prog [] K) e w1 := by
  intro f n' since ms e w1 hf hfl hnl e0 e3 g0 g1 g2 hrn hput
  have cw1 := cur w1
  have hz1 := hf.size
  have hl1 := lt_of_get _ _ g1
  have hl2 := lt_of_get _ _ g2
  have wa : IntKind.i64.wrap ((f : Int) + (n' : Int)) = ((f + n' : Nat) : Int) := by rw [wrap64 (by omega) (by omega)]; omega
  have wn : IntKind.i64.wrap ((n' : Int) + 1) = ((n' + 1 : Nat) : Int) := by rw [wrap64 (by omega) (by omega)]; omega
  have hml : (f + n') % ring.length < ring.length := Nat.mod_lt _ (by omega)
  have hm : ∀ (x y : Operand) (w : World), (xbin .rem 3 x y (.int .i64 ((f + n' : Nat) : Int)) (.int .i64 R.cap)).run Tryz.prog w = .ok (.int .i64 (((f + n') % ring.length : Nat) : Int)) w := fun x y w => by
   rw [run_rem (h := by omega), tmodN, h3]
  have m0 : (0 : Int) ≤ (((f + n') % ring.length : Nat) : Int) := by omega
  have m1 : (((f + n') % ring.length : Nat) : Int) < (R.cap : Int) := by omega
  have thm := fun (x y : Operand) M (w0 : World) (K : Value → Prop) => takeP_xv (P := Tryz.prog) (M := M) (w0 := w0) (hm x y) K
  have s1 := fun orig K => ringO_st (L := ring) m hml orig K
  unfold encMk at g0 s1
  simp (maxSteps:=9^7)(disch:=first|assumption|(simp only[dz];first|done|assumption|omega)|omega|apply_rules[Fr.refl,Fr.alloc,Fr.drew]|rfl) only [↓gd,gp,Nat.reduceAdd,Nat.reduceEqDiff, ↓hk137, e0, e3, g0, g1, wa, thm, m0, m1, Int.toNat_natCast, Nat.zero_add, g2, s1, wn]
  refine hK _ fr_ ?_
  rw [hput]
  refine ⟨⟨f, n' + 1, ring.set ((f + n') % ring.length) m, ?_, ?_, by rw [List.length_set]; exact h3, by rw [← hrn.len], .inr hrn⟩, hcap⟩
  ·simp (maxSteps:=9^7)(disch:=first|assumption|(simp only[dz];first|done|assumption|omega)|omega|apply_rules[Fr.refl,Fr.alloc,Fr.drew]|rfl) only [↓gsd,gs,gv,Nat.reduceAdd,Nat.reduceEqDiff]
  ·simp (maxSteps:=9^7)(disch:=first|assumption|(simp only[dz];first|done|assumption|omega)|omega|apply_rules[Fr.refl,Fr.alloc,Fr.drew]|rfl) only [↓gsd,gs,gv,Nat.reduceAdd,Nat.reduceEqDiff]
 by_cases hfull : R.marks.length = R.cap
 ·have d2 : decide ((R.marks.length : Int) = (R.cap : Int)) = true := decide_eq_true (by omega)
  obtain ⟨p1, p1'⟩ := p1 (by omega)
  obtain ⟨x, hx⟩ : ∃ x, ring[fi]? = some x := ⟨ring[fi], List.getElem?_eq_getElem hfl⟩
  rw [hx] at p1'
  have hp : R.put m = { R with since := x.1, marks := R.marks.tail ++ [m] } := by
   unfold Rcn.put; rw [if_neg hc0, if_pos hfull, p1']; rfl
  have r0 := fun orig K => ringO_ld0 hx orig K
  have f0 : (0 : Int) ≤ (fi : Int) := by omega
  have f1 : (fi : Int) < (R.cap : Int) := by omega
  have wa : IntKind.i64.wrap ((fi : Int) + 1) = ((fi + 1 : Nat) : Int) := by rw [wrap64 (by omega) (by omega)]; omega
  have wn : IntKind.i64.wrap ((R.marks.length : Int) - 1) = ((R.marks.length - 1 : Nat) : Int) := by rw [wrap64 (by omega) (by omega)]; omega
  have hm : ∀ (x y : Operand) (w : World), (xbin .rem 3 x y (.int .i64 ((fi + 1 : Nat) : Int)) (.int .i64 R.cap)).run Tryz.prog w = .ok (.int .i64 (((fi + 1) % ring.length : Nat) : Int)) w := fun x y w => by
   rw [run_rem (h := by omega), tmodN, h3]
  have thm := fun (x y : Operand) M (w0 : World) (K : Value → Prop) => takeP_xv (P := Tryz.prog) (M := M) (w0 := w0) (hm x y) K
  simp (maxSteps:=9^7)(disch:=first|assumption|(simp only[dz];first|done|assumption|omega)|omega|apply_rules[Fr.refl,Fr.alloc,Fr.drew]|rfl) only [↓gd,gp,Nat.reduceAdd,Nat.reduceEqDiff, ↓c137_4_s, ↓c137_9_s, ↓c137_8_s, ↓c137_7_s, ↓c137_6_s, ↓c137_5_s, ↓c137_2_s, ↓c137_12_s, ↓c137_11_s, ↓c137_10_s, ↓c137_1_s, ↓c137_s, ↓w3t_137, h1, d1, d2, f0, f1, Int.toNat_natCast, Nat.zero_add, Nat.add_zero, h2, r0, wa, thm, wn]
  refine tail ((fi + 1) % ring.length) (R.marks.length - 1) x.1 (R.marks.tail ++ [m]) _ _ fr_ (Nat.mod_lt _ (by omega)) (by omega) ?_ ?_ ?_ ?_ ?_ p1 hp
  ·simp (maxSteps:=9^7)(disch:=first|assumption|(simp only[dz];first|done|assumption|omega)|omega|apply_rules[Fr.refl,Fr.alloc,Fr.drew]|rfl) only [↓gsd,gs,gv,Nat.reduceAdd,Nat.reduceEqDiff]
  ·simp (maxSteps:=9^7)(disch:=first|assumption|(simp only[dz];first|done|assumption|omega)|omega|apply_rules[Fr.refl,Fr.alloc,Fr.drew]|rfl) only [↓gsd,gs,gv,Nat.reduceAdd,Nat.reduceEqDiff]
  ·simp (maxSteps:=9^7)(disch:=first|assumption|(simp only[dz];first|done|assumption|omega)|omega|apply_rules[Fr.refl,Fr.alloc,Fr.drew]|rfl) only [↓gsd,gs,gv,Nat.reduceAdd,Nat.reduceEqDiff]
  ·simp (maxSteps:=9^7)(disch:=first|assumption|(simp only[dz];first|done|assumption|omega)|omega|apply_rules[Fr.refl,Fr.alloc,Fr.drew]|rfl) only [↓gsd,gs,gv,Nat.reduceAdd,Nat.reduceEqDiff]
  ·simp (maxSteps:=9^7)(disch:=first|assumption|(simp only[dz];first|done|assumption|omega)|omega|apply_rules[Fr.refl,Fr.alloc,Fr.drew]|rfl) only [↓gsd,gs,gv,Nat.reduceAdd,Nat.reduceEqDiff, h2]
 ·have d2 : decide ((R.marks.length : Int) = (R.cap : Int)) = false := decide_eq_false (by omega)
  have p2 := p2 (by omega)
  have hp : R.put m = { R with since := R.since, marks := R.marks ++ [m] } := by
   unfold Rcn.put; rw [if_neg hc0, if_neg hfull]
  simp (maxSteps:=9^7)(disch:=first|assumption|(simp only[dz];first|done|assumption|omega)|omega|apply_rules[Fr.refl,Fr.alloc,Fr.drew]|rfl) only [↓gd,gp,Nat.reduceAdd,Nat.reduceEqDiff, ↓c137_4_s, ↓c137_9_s, ↓c137_8_s, ↓c137_7_s, ↓c137_6_s, ↓c137_5_s, ↓c137_2_s, ↓c137_12_s, ↓c137_11_s, ↓c137_10_s, ↓c137_1_s, ↓c137_s, ↓w3t_137, h1, d1, d2]
  refine tail fi R.marks.length R.since (R.marks ++ [m]) _ _ fr_ hfl (by omega) ?_ ?_ ?_ ?_ ?_ p2 hp
  ·simp (maxSteps:=9^7)(disch:=first|assumption|(simp only[dz];first|done|assumption|omega)|omega|apply_rules[Fr.refl,Fr.alloc,Fr.drew]|rfl) only [↓gsd,gs,gv,Nat.reduceAdd,Nat.reduceEqDiff]
  ·simp (maxSteps:=9^7)(disch:=first|assumption|(simp only[dz];first|done|assumption|omega)|omega|apply_rules[Fr.refl,Fr.alloc,Fr.drew]|rfl) only [↓gsd,gs,gv,Nat.reduceAdd,Nat.reduceEqDiff]
  ·simp (maxSteps:=9^7)(disch:=first|assumption|(simp only[dz];first|done|assumption|omega)|omega|apply_rules[Fr.refl,Fr.alloc,Fr.drew]|rfl) only [↓gsd,gs,gv,Nat.reduceAdd,Nat.reduceEqDiff]
  ·simp (maxSteps:=9^7)(disch:=first|assumption|(simp only[dz];first|done|assumption|omega)|omega|apply_rules[Fr.refl,Fr.alloc,Fr.drew]|rfl) only [↓gsd,gs,gv,Nat.reduceAdd,Nat.reduceEqDiff, h1]
  ·simp (maxSteps:=9^7)(disch:=first|assumption|(simp only[dz];first|done|assumption|omega)|omega|apply_rules[Fr.refl,Fr.alloc,Fr.drew]|rfl) only [↓gsd,gs,gv,Nat.reduceAdd,Nat.reduceEqDiff, h2]
end Go.Proofs.YtomlgkecckffeaaGreat
