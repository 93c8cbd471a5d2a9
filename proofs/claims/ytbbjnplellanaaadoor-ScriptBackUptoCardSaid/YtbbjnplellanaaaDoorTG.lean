/- Two lists of steps are compared. -/
import Derived.Test.YtbbjnplellanaaaDoorTF
set_option linter.unusedVariables false
set_option linter.unusedSimpArgs false
set_option maxRecDepth 10000
namespace Go.Proofs.YtbbjnplellanaaaDoor
open Go.VW
/-- A list of steps in memory. -/
def RowsAt (w : World) (v : Value) (rows : List (Stp × SlV)) : Prop := SlOf 8 encStp w v rows ∧ ∀ x ∈ rows, SlOf 3 encWr w (.slice x.2.1 x.2.2.1 x.2.2.2) x.1.ws
theorem RowsAt.fr {w w' : World} {v : Value} {rows : List (Stp × SlV)} (h : RowsAt w v rows) (hf : Fr [] w w') : RowsAt w' v rows := ⟨h.1.frN hf, fun x hx => (h.2 x hx).frN hf⟩
theorem OutAt.rows {C : Nat} {w : World} {v : Value} {rows : List (Stp × SlV)} (h : OutAt C w v rows) : RowsAt w v rows := ⟨h.own.sl, fun x hx => (h.ws x hx).sl⟩
theorem stp_ext {x y : Stp} (h1 : x.kind = y.kind) (h2 : x.s = y.s) (h3 : x.t = y.t) (h4 : x.n = y.n) (h5 : x.i = y.i) (h6 : x.key = y.key) (h7 : x.text = y.text) (h8 : x.ws = y.ws) : x = y := by
 cases x; cases y; simp_all
theorem wr_ext {x y : Wr} (h1 : x.key = y.key) (h2 : x.has = y.has) (h3 : x.data = y.data) : x = y := by
 cases x; cases y; simp_all
theorem list_ne_at {α : Type} {a b : List α} {i : Nat} {x y : α} (hx : a[i]? = some x) (hy : b[i]? = some y) (h : x ≠ y) : a ≠ b := by
 intro e; subst e; rw [hx] at hy; exact h (Option.some.inj hy)
theorem list_eq_of {α : Type} {a b : List α} (hl : a.length = b.length) (h : ∀ j, j < a.length → a[j]? = b[j]?) : a = b := by
 apply List.ext_getElem?
 intro j
 by_cases hj : j < a.length
 ·exact h j hj
 ·rw [List.getElem?_eq_none (by omega), List.getElem?_eq_none (by omega)]
section
variable {x y : Stp × SlV} {w : World} {e : Env} {p q : Nat} {Q : Exit → Env → World → Prop}
set_option maxHeartbeats 32000000 in
theorem cmp_spec (e6 : e 6 = .pointer (some ⟨p, 0, none⟩)) (e7 : e 7 = .pointer (some ⟨q, 0, none⟩)) (hp : w.heap[p]? = some (.cells (encStp x).toArray 33 (0, 0))) (hq : w.heap[q]? = some (.cells (encStp y).toArray 33 (0, 0)))
  (hwx : SlOf 3 encWr w (.slice x.2.1 x.2.2.1 x.2.2.2) x.1.ws) (hwy : SlOf 3 encWr w (.slice y.2.1 y.2.2.1 y.2.2.2) y.1.ws) (hlx : x.1.ws.length ≤ 9223372036854775807)
  (hne : x.1 ≠ y.1 → ∀ e' w', e' 4 = .bool false → Fr [] w w' → Q .ret e' w')
  (heq : x.1 = y.1 → ∀ e' w', e' 0 = e 0 → e' 1 = e 1 → e' 5 = e 5 → Fr [] w w' → Q .normal e' w') : W3 Tryd.prog 102 V11 c11_12 Q e w := by
 have cw := cur w
 have hp0 := hp
 have hq0 := hq
 unfold encStp at hp hq
 have hxs := hwx.form
 have hys := hwy.form
 obtain ⟨xa, xc, hxv⟩ := hxs
 obtain ⟨ya, yc, hyv⟩ := hys
 rw [hxv] at hp
 rw [hyv] at hq
 by_cases q0 : x.1.kind = y.1.kind
 case neg =>
  have dq0 : decide (x.1.kind = y.1.kind) = false := decide_eq_false (q0)
  simp (maxSteps:=4000000)(disch:=first|assumption|(simp only[dz];first|done|assumption|omega)|omega|apply_rules[Fr.refl,Fr.alloc,Fr.drew]|rfl) only [↓gd,gp,Nat.reduceAdd,Nat.reduceEqDiff, ↓hk11, e6, e7, hp, hq, dq0]
  exact hne (fun h => q0 (by rw [h])) _ _ rfl (Fr.refl _ _)
 have dq0 : decide (x.1.kind = y.1.kind) = true := decide_eq_true (q0)
 by_cases q1 : x.1.s = y.1.s
 case neg =>
  have dq1 : decide (x.1.s = y.1.s) = false := decide_eq_false (q1)
  simp (maxSteps:=4000000)(disch:=first|assumption|(simp only[dz];first|done|assumption|omega)|omega|apply_rules[Fr.refl,Fr.alloc,Fr.drew]|rfl) only [↓gd,gp,Nat.reduceAdd,Nat.reduceEqDiff, ↓hk11, e6, e7, hp, hq, dq0, dq1]
  exact hne (fun h => q1 (by rw [h])) _ _ rfl (Fr.refl _ _)
 have dq1 : decide (x.1.s = y.1.s) = true := decide_eq_true (q1)
 by_cases q2 : x.1.t = y.1.t
 case neg =>
  have dq2 : decide (x.1.t = y.1.t) = false := decide_eq_false (q2)
  simp (maxSteps:=4000000)(disch:=first|assumption|(simp only[dz];first|done|assumption|omega)|omega|apply_rules[Fr.refl,Fr.alloc,Fr.drew]|rfl) only [↓gd,gp,Nat.reduceAdd,Nat.reduceEqDiff, ↓hk11, e6, e7, hp, hq, dq0, dq1, dq2]
  exact hne (fun h => q2 (by rw [h])) _ _ rfl (Fr.refl _ _)
 have dq2 : decide (x.1.t = y.1.t) = true := decide_eq_true (q2)
 by_cases q3 : x.1.n = y.1.n
 case neg =>
  have dq3 : decide (x.1.n = y.1.n) = false := decide_eq_false (q3)
  simp (maxSteps:=4000000)(disch:=first|assumption|(simp only[dz];first|done|assumption|omega)|omega|apply_rules[Fr.refl,Fr.alloc,Fr.drew]|rfl) only [↓gd,gp,Nat.reduceAdd,Nat.reduceEqDiff, ↓hk11, e6, e7, hp, hq, dq0, dq1, dq2, dq3]
  exact hne (fun h => q3 (by rw [h])) _ _ rfl (Fr.refl _ _)
 have dq3 : decide (x.1.n = y.1.n) = true := decide_eq_true (q3)
 by_cases q4 : x.1.i = y.1.i
 case neg =>
  have dq4 : decide (x.1.i = y.1.i) = false := decide_eq_false (q4)
  simp (maxSteps:=4000000)(disch:=first|assumption|(simp only[dz];first|done|assumption|omega)|omega|apply_rules[Fr.refl,Fr.alloc,Fr.drew]|rfl) only [↓gd,gp,Nat.reduceAdd,Nat.reduceEqDiff, ↓hk11, e6, e7, hp, hq, dq0, dq1, dq2, dq3, dq4]
  exact hne (fun h => q4 (by rw [h])) _ _ rfl (Fr.refl _ _)
 have dq4 : decide (x.1.i = y.1.i) = true := decide_eq_true (q4)
 by_cases q5 : x.1.key = y.1.key
 case neg =>
  have dq5 : decide (B x.1.key = B y.1.key) = false := decide_eq_false (by rw [B_inj]; exact q5)
  simp (maxSteps:=4000000)(disch:=first|assumption|(simp only[dz];first|done|assumption|omega)|omega|apply_rules[Fr.refl,Fr.alloc,Fr.drew]|rfl) only [↓gd,gp,Nat.reduceAdd,Nat.reduceEqDiff, ↓hk11, e6, e7, hp, hq, dq0, dq1, dq2, dq3, dq4, dq5]
  exact hne (fun h => q5 (by rw [h])) _ _ rfl (Fr.refl _ _)
 have dq5 : decide (B x.1.key = B y.1.key) = true := decide_eq_true (by rw [B_inj]; exact q5)
 by_cases q6 : x.1.text = y.1.text
 case neg =>
  have dq6 : decide (B x.1.text = B y.1.text) = false := decide_eq_false (by rw [B_inj]; exact q6)
  simp (maxSteps:=4000000)(disch:=first|assumption|(simp only[dz];first|done|assumption|omega)|omega|apply_rules[Fr.refl,Fr.alloc,Fr.drew]|rfl) only [↓gd,gp,Nat.reduceAdd,Nat.reduceEqDiff, ↓hk11, e6, e7, hp, hq, dq0, dq1, dq2, dq3, dq4, dq5, dq6]
  exact hne (fun h => q6 (by rw [h])) _ _ rfl (Fr.refl _ _)
 have dq6 : decide (B x.1.text = B y.1.text) = true := decide_eq_true (by rw [B_inj]; exact q6)
 by_cases q7 : x.1.ws.length = y.1.ws.length
 case neg =>
  have dq7 : decide ((x.1.ws.length : Int) = (y.1.ws.length : Int)) = false := decide_eq_false (by omega)
  simp (maxSteps:=4000000)(disch:=first|assumption|(simp only[dz];first|done|assumption|omega)|omega|apply_rules[Fr.refl,Fr.alloc,Fr.drew]|rfl) only [↓gd,gp,Nat.reduceAdd,Nat.reduceEqDiff, ↓hk11, e6, e7, hp, hq, dq0, dq1, dq2, dq3, dq4, dq5, dq6, dq7]
  exact hne (fun h => q7 (by rw [h])) _ _ rfl (Fr.refl _ _)
 have dq7 : decide ((x.1.ws.length : Int) = (y.1.ws.length : Int)) = true := decide_eq_true (by omega)
 simp (maxSteps:=4000000)(disch:=first|assumption|(simp only[dz];first|done|assumption|omega)|omega|apply_rules[Fr.refl,Fr.alloc,Fr.drew]|rfl) only [↓gd,gp,Nat.reduceAdd,Nat.reduceEqDiff, ↓hk11, e6, e7, hp, hq, dq0, dq1, dq2, dq3, dq4, dq5, dq6, dq7]
 refine for_intro x.1.ws.length 8 0 (fun i e' w' => e' 6 = .pointer (some ⟨p, 0, none⟩) ∧ e' 7 = .pointer (some ⟨q, 0, none⟩) ∧ e' 0 = e 0 ∧ e' 1 = e 1 ∧ e' 5 = e 5 ∧ (∀ j, j < i → x.1.ws[j]? = y.1.ws[j]?) ∧ Fr [] w w') ?_ (Nat.zero_le _) ?_ ?_
 ·simp (maxSteps:=4000000)(disch:=first|assumption|(simp only[dz];first|done|assumption|omega)|omega|apply_rules[Fr.refl,Fr.alloc,Fr.drew]|rfl) only [↓gsd,gs,gv,Nat.reduceAdd,Nat.reduceEqDiff]; rfl
 ·simp (maxSteps:=4000000)(disch:=first|assumption|(simp only[dz];first|done|assumption|omega)|omega|apply_rules[Fr.refl,Fr.alloc,Fr.drew]|rfl) only [↓gsd,gs,gv,Nat.reduceAdd,Nat.reduceEqDiff, e6, e7]
  exact ⟨fun j hj => absurd hj (Nat.not_lt_zero _), Fr.refl _ _⟩
 rintro i e1 w1 kk hi e8 ⟨e6, e7, e0, e1', e5, hjs, hf⟩ hkk
 have cw1 := cur w1
 have hp1 := hf.getN hp
 have hq1 := hf.getN hq
 by_cases hil : i < x.1.ws.length
 ·have d : decide ((i : Int) < (x.1.ws.length : Int)) = true := decide_eq_true (by omega)
  obtain ⟨a, ha⟩ : ∃ a, x.1.ws[i]? = some a := ⟨x.1.ws[i], List.getElem?_eq_getElem hil⟩
  obtain ⟨b, hb⟩ : ∃ b, y.1.ws[i]? = some b := ⟨y.1.ws[i]'(by omega), List.getElem?_eq_getElem (by omega)⟩
  obtain ⟨b1, off1, cap1, ob1, hv1, hob1, hbl1, hrow1, _⟩ := (hwx.frN hf).read encWr_len i a ha
  obtain ⟨b2, off2, cap2, ob2, hv2, hob2, hbl2, hrow2, _⟩ := (hwy.frN hf).read encWr_len i b hb
  rw [hxv] at hv1
  rw [hyv] at hv2
  simp only [Value.slice.injEq, true_and] at hv1 hv2
  obtain ⟨rfl, rfl⟩ := hv1
  obtain ⟨rfl, rfl⟩ := hv2
  have i0 : (0 : Int) ≤ (i : Int) := by omega
  have i1 : (i : Int) < (x.1.ws.length : Int) := by omega
  have i2 : (i : Int) < (y.1.ws.length : Int) := by omega
  have wr : IntKind.i64.wrap ((i : Int) + 1) = (i : Int) + 1 := wrap64 (by omega) (by omega)
  unfold encWr at hrow1 hrow2
  by_cases hab : a = b
  ·have da : decide (B a.key = B b.key) = true := decide_eq_true (by rw [hab])
   have db : decide (a.has = b.has) = true := decide_eq_true (by rw [hab])
   have dc : decide (B a.data = B b.data) = true := decide_eq_true (by rw [hab])
   simp (maxSteps:=4000000)(disch:=first|assumption|(simp only[dz];first|done|assumption|omega)|omega|apply_rules[Fr.refl,Fr.alloc,Fr.drew]|rfl) only [↓gd,gp,Nat.reduceAdd,Nat.reduceEqDiff, ↓hk11, e6, e7, e8, hp1, hq1, d, i0, i1, i2, Int.toNat_natCast, hob1, hob2, hrow1, hrow2, da, db, dc, wr]
   refine hkk _ _ hil ?_ ⟨?_, ?_, ?_, ?_, ?_, ?_, hf.drew⟩
   ·simp (maxSteps:=4000000)(disch:=first|assumption|(simp only[dz];first|done|assumption|omega)|omega|apply_rules[Fr.refl,Fr.alloc,Fr.drew]|rfl) only [↓gsd,gs,gv,Nat.reduceAdd,Nat.reduceEqDiff]
   ·simp (maxSteps:=4000000)(disch:=first|assumption|(simp only[dz];first|done|assumption|omega)|omega|apply_rules[Fr.refl,Fr.alloc,Fr.drew]|rfl) only [↓gsd,gs,gv,Nat.reduceAdd,Nat.reduceEqDiff, e6]
   ·simp (maxSteps:=4000000)(disch:=first|assumption|(simp only[dz];first|done|assumption|omega)|omega|apply_rules[Fr.refl,Fr.alloc,Fr.drew]|rfl) only [↓gsd,gs,gv,Nat.reduceAdd,Nat.reduceEqDiff, e7]
   ·simp (maxSteps:=4000000)(disch:=first|assumption|(simp only[dz];first|done|assumption|omega)|omega|apply_rules[Fr.refl,Fr.alloc,Fr.drew]|rfl) only [↓gsd,gs,gv,Nat.reduceAdd,Nat.reduceEqDiff, e0]
   ·simp (maxSteps:=4000000)(disch:=first|assumption|(simp only[dz];first|done|assumption|omega)|omega|apply_rules[Fr.refl,Fr.alloc,Fr.drew]|rfl) only [↓gsd,gs,gv,Nat.reduceAdd,Nat.reduceEqDiff, e1']
   ·simp (maxSteps:=4000000)(disch:=first|assumption|(simp only[dz];first|done|assumption|omega)|omega|apply_rules[Fr.refl,Fr.alloc,Fr.drew]|rfl) only [↓gsd,gs,gv,Nat.reduceAdd,Nat.reduceEqDiff, e5]
   ·intro j hj
    rcases Nat.lt_succ_iff_lt_or_eq.1 hj with h | h
    ·exact hjs j h
    ·subst h; rw [ha, hb, hab]
  ·have da : (decide (B a.key = B b.key) && ((decide (a.has = b.has) && (decide (B a.data = B b.data) && true)) && true)) = false := by
    simp only [B_inj, Bool.and_true]
    by_cases h1 : a.key = b.key
    ·by_cases h2 : a.has = b.has
     ·by_cases h3 : a.data = b.data
      ·exact absurd (wr_ext h1 h2 h3) hab
      ·simp [h3]
     ·simp [h2]
    ·simp [h1]
   simp (maxSteps:=4000000)(disch:=first|assumption|(simp only[dz];first|done|assumption|omega)|omega|apply_rules[Fr.refl,Fr.alloc,Fr.drew]|rfl) only [↓gd,gp,Nat.reduceAdd,Nat.reduceEqDiff, ↓hk11, e6, e7, e8, hp1, hq1, d, i0, i1, i2, Int.toNat_natCast, hob1, hob2, hrow1, hrow2, da]
   exact hne (fun h => hab (by rw [h] at ha; rw [ha] at hb; exact Option.some.inj hb)) _ _ rfl hf.drew
 ·have d : decide ((i : Int) < (x.1.ws.length : Int)) = false := decide_eq_false (by omega)
  simp (maxSteps:=4000000)(disch:=first|assumption|(simp only[dz];first|done|assumption|omega)|omega|apply_rules[Fr.refl,Fr.alloc,Fr.drew]|rfl) only [↓gd,gp,Nat.reduceAdd,Nat.reduceEqDiff, ↓hk11, e6, e7, e8, hp1, hq1, d]
  exact heq (stp_ext q0 q1 q2 q3 q4 q5 q6 (list_eq_of q7 fun j hj => hjs j (by omega))) _ _ e0 (by simp (maxSteps:=4000000)(disch:=first|assumption|(simp only[dz];first|done|assumption|omega)|omega|apply_rules[Fr.refl,Fr.alloc,Fr.drew]|rfl) only [↓gsd,gs,gv,Nat.reduceAdd,Nat.reduceEqDiff, e1']) e5 hf
end
set_option maxHeartbeats 32000000 in
theorem rsame_spec {w : World} {va vb : Value} {ra rb : List (Stp × SlV)} {K : Value → World → Prop} (ha : RowsAt w va ra) (hb : RowsAt w vb rb) (hla : ra.length ≤ 9223372036854775807) (hlx : ∀ x ∈ ra, x.1.ws.length ≤ 9223372036854775807)
  (hK : ∀ w', Fr [] w w' → K (.bool (decide (ra.map Prod.fst = rb.map Prod.fst))) w') : CallsN Tryd.prog 11 [va, vb] w K := by
 have cw := cur w
 refine call11 ?_
 obtain ⟨aa, ac, hva⟩ := ha.1.form
 obtain ⟨ba, bc, hvb⟩ := hb.1.form
 have no : ra.map Prod.fst ≠ rb.map Prod.fst → ∀ w', Fr [] w w' → K (.bool false) w' := fun h w' hf => by
  have := hK w' hf; rw [decide_eq_false h] at this; exact this
 by_cases hl : ra.length = rb.length
 ·have dl : decide ((ra.length : Int) = (rb.length : Int)) = true := decide_eq_true (by omega)
  simp (maxSteps:=4000000)(disch:=first|assumption|(simp only[dz];first|done|assumption|omega)|omega|apply_rules[Fr.refl,Fr.alloc,Fr.drew]|rfl) only [↓gd,gp,Nat.reduceAdd,Nat.reduceEqDiff, ↓hk11, hva, hvb, dl]
  rw [← hva, ← hvb]
  refine for_intro ra.length 5 0 (fun i e w' => e 0 = va ∧ e 1 = vb ∧ (∀ j, j < i → (ra.map Prod.fst)[j]? = (rb.map Prod.fst)[j]?) ∧ Fr [] w w') ?_ (Nat.zero_le _) ?_ ?_
  ·simp (maxSteps:=4000000)(disch:=first|assumption|(simp only[dz];first|done|assumption|omega)|omega|apply_rules[Fr.refl,Fr.alloc,Fr.drew]|rfl) only [↓gsd,gs,gv,Nat.reduceAdd,Nat.reduceEqDiff]; rfl
  ·simp (maxSteps:=4000000)(disch:=first|assumption|(simp only[dz];first|done|assumption|omega)|omega|apply_rules[Fr.refl,Fr.alloc,Fr.drew]|rfl) only [↓gsd,gs,gv,Nat.reduceAdd,Nat.reduceEqDiff]
   exact ⟨fun j hj => absurd hj (Nat.not_lt_zero _), Fr.refl _ _⟩
  rintro i e w1 kk hi e5 ⟨e0, e1, heq, hf⟩ hkk
  have cw1 := cur w1
  by_cases hil : i < ra.length
  ·have d : decide ((i : Int) < (ra.length : Int)) = true := decide_eq_true (by omega)
   obtain ⟨x, hx⟩ : ∃ x, ra[i]? = some x := ⟨ra[i], List.getElem?_eq_getElem hil⟩
   obtain ⟨y, hy⟩ : ∃ y, rb[i]? = some y := ⟨rb[i]'(by omega), List.getElem?_eq_getElem (by omega)⟩
   have hmx : (ra.map Prod.fst)[i]? = some x.1 := by rw [List.getElem?_map, hx]; rfl
   have hmy : (rb.map Prod.fst)[i]? = some y.1 := by rw [List.getElem?_map, hy]; rfl
   obtain ⟨b1, off1, cap1, ob1, hv1, hob1, hbl1, hrow1, _⟩ := (ha.1.frN hf).read encStp_len i x hx
   obtain ⟨b2, off2, cap2, ob2, hv2, hob2, hbl2, hrow2, _⟩ := (hb.1.frN hf).read encStp_len i y hy
   have i0 : (0 : Int) ≤ (i : Int) := by omega
   have i1 : (i : Int) < (ra.length : Int) := by omega
   have i2 : (i : Int) < (rb.length : Int) := by omega
   have wr : IntKind.i64.wrap ((i : Int) + 1) = (i : Int) + 1 := wrap64 (by omega) (by omega)
   unfold encStp at hrow1 hrow2
   have hwx := ha.2 x (List.mem_of_getElem? hx)
   have hwy := hb.2 y (List.mem_of_getElem? hy)
   have hlx' := hlx x (List.mem_of_getElem? hx)
   have fin : ∀ {w2 : World} {e2 : Env} {p q : Nat} {Q : Exit → Env → World → Prop}, Fr [] w w2 → e2 0 = va → e2 1 = vb → e2 5 = .int .i64 i → e2 6 = .pointer (some ⟨p, 0, none⟩) → e2 7 = .pointer (some ⟨q, 0, none⟩) → w2.heap[p]? = some (.cells (encStp x).toArray 33 (0, 0)) → w2.heap[q]? = some (.cells (encStp y).toArray 33 (0, 0)) →
     (∀ e' w', e' 4 = .bool false → K (.bool false) w' → Q .ret e' w') → (∀ e' w', e' 0 = va → e' 1 = vb → e' 5 = .int .i64 i → x.1 = y.1 → Fr [] w w' → Q .normal e' w') → W3 Tryd.prog 102 V11 c11_12 Q e2 w2 := by
    intro w2 e2 p q Q hf2 h0 h1 h5 h6 h7 hp hq hr hn
    exact cmp_spec h6 h7 hp hq (hwx.frN hf2) (hwy.frN hf2) hlx' (fun h e' w' h4 hf' => hr e' w' h4 (no (list_ne_at hmx hmy h) _ (hf2.trans' hf'))) (fun h e' w' h0' h1' h5' hf' => hn e' w' (h0'.trans h0) (h1'.trans h1) (h5'.trans h5) h (hf2.trans' hf'))
   simp (maxSteps:=4000000)(disch:=first|assumption|(simp only[dz];first|done|assumption|omega)|omega|apply_rules[Fr.refl,Fr.alloc,Fr.drew]|rfl) only [↓gd,gp,Nat.reduceAdd,Nat.reduceEqDiff, ↓c11_3_s, ↓c11_9_s, ↓c11_18_s, ↓c11_22_s, ↓c11_21_s, ↓c11_20_s, ↓c11_19_s, ↓c11_17_s, ↓c11_24_s, ↓c11_23_s, ↓c11_16_s, ↓c11_15_s, ↓c11_14_s, ↓c11_13_s, ↓c11_27_s, ↓c11_26_s, ↓c11_25_s, ↓c11_11_s, ↓c11_10_s, ↓c11_8_s, ↓c11_29_s, ↓c11_28_s, ↓c11_7_s, ↓c11_6_s, ↓c11_5_s, ↓c11_4_s, ↓c11_2_s, ↓c11_32_s, ↓c11_31_s, ↓c11_30_s, ↓c11_1_s, ↓c11_s, ↓w3t_11, e0, e1, e5, hv1, hv2, d, i0, i1, i2, Int.toNat_natCast, hob1, hob2, hrow1, hrow2]
   have hsz := hf.size
   have hr : ∀ e' w', e' 4 = .bool false → K (.bool false) w' → blockQ 1 (seqQ (W3 Tryd.prog 102 V11 c11_9 (seqQ kk (blockQ 0 (seqQ (W3 Tryd.prog 102 V11 c11_3 (retQ Tryd.prog [.tmp 4] K)) (retQ Tryd.prog [.tmp 4] K))))) (seqQ kk (blockQ 0 (seqQ (W3 Tryd.prog 102 V11 c11_3 (retQ Tryd.prog [.tmp 4] K)) (retQ Tryd.prog [.tmp 4] K))))) .ret e' w' := by
    intro e' w' h4 hk
    have cw' := cur w'
    simp (maxSteps:=4000000)(disch:=first|assumption|(simp only[dz];first|done|assumption|omega)|omega|apply_rules[Fr.refl,Fr.alloc,Fr.drew]|rfl) only [↓gd,gp,Nat.reduceAdd,Nat.reduceEqDiff, ↓hk11, h4]
    exact hk
   have hn : ∀ e' w', e' 0 = va → e' 1 = vb → e' 5 = .int .i64 i → x.1 = y.1 → Fr [] w w' → blockQ 1 (seqQ (W3 Tryd.prog 102 V11 c11_9 (seqQ kk (blockQ 0 (seqQ (W3 Tryd.prog 102 V11 c11_3 (retQ Tryd.prog [.tmp 4] K)) (retQ Tryd.prog [.tmp 4] K))))) (seqQ kk (blockQ 0 (seqQ (W3 Tryd.prog 102 V11 c11_3 (retQ Tryd.prog [.tmp 4] K)) (retQ Tryd.prog [.tmp 4] K))))) .normal e' w' := by
    intro e' w' h0 h1 h5 hxy hf'
    have cw' := cur w'
    simp (maxSteps:=4000000)(disch:=first|assumption|(simp only[dz];first|done|assumption|omega)|omega|apply_rules[Fr.refl,Fr.alloc,Fr.drew]|rfl) only [↓gd,gp,Nat.reduceAdd,Nat.reduceEqDiff, ↓hk11, h5, wr]
    refine hkk _ _ hil ?_ ⟨?_, ?_, ?_, hf'⟩
    ·simp (maxSteps:=4000000)(disch:=first|assumption|(simp only[dz];first|done|assumption|omega)|omega|apply_rules[Fr.refl,Fr.alloc,Fr.drew]|rfl) only [↓gsd,gs,gv,Nat.reduceAdd,Nat.reduceEqDiff]
    ·simp (maxSteps:=4000000)(disch:=first|assumption|(simp only[dz];first|done|assumption|omega)|omega|apply_rules[Fr.refl,Fr.alloc,Fr.drew]|rfl) only [↓gsd,gs,gv,Nat.reduceAdd,Nat.reduceEqDiff, h0]
    ·simp (maxSteps:=4000000)(disch:=first|assumption|(simp only[dz];first|done|assumption|omega)|omega|apply_rules[Fr.refl,Fr.alloc,Fr.drew]|rfl) only [↓gsd,gs,gv,Nat.reduceAdd,Nat.reduceEqDiff, h1]
    ·intro j hj
     rcases Nat.lt_succ_iff_lt_or_eq.1 hj with h | h
     ·exact heq j h
     ·subst h; rw [hmx, hmy, hxy]
   and_intros
   all_goals
    refine fin ?_ ?_ ?_ ?_ rfl rfl ?_ ?_ hr hn
    ·first
     | exact (((hf.drew.alloc _).alloc _).setB _ _ (.inr (by omega))).setB _ _ (.inr (by omega))
     | exact (((hf.drew.alloc _).setB _ _ (.inr (by omega))).alloc _).setB _ _ (.inr (by omega))
     | exact ((hf.drew.alloc _).alloc _).setB _ _ (.inr (by omega))
    ·simp (maxSteps:=4000000)(disch:=first|assumption|(simp only[dz];first|done|assumption|omega)|omega|apply_rules[Fr.refl,Fr.alloc,Fr.drew]|rfl) only [↓gsd,gs,gv,Nat.reduceAdd,Nat.reduceEqDiff, e0, hv1]
    ·simp (maxSteps:=4000000)(disch:=first|assumption|(simp only[dz];first|done|assumption|omega)|omega|apply_rules[Fr.refl,Fr.alloc,Fr.drew]|rfl) only [↓gsd,gs,gv,Nat.reduceAdd,Nat.reduceEqDiff, e1, hv2]
    ·simp (maxSteps:=4000000)(disch:=first|assumption|(simp only[dz];first|done|assumption|omega)|omega|apply_rules[Fr.refl,Fr.alloc,Fr.drew]|rfl) only [↓gsd,gs,gv,Nat.reduceAdd,Nat.reduceEqDiff, e5]
    ·simp (maxSteps:=4000000)(disch:=first|assumption|(simp only[dz];first|done|assumption|omega)|omega|apply_rules[Fr.refl,Fr.alloc,Fr.drew]|rfl) only [↓gsd,gs,gv,Nat.reduceAdd,Nat.reduceEqDiff, encStp]
    ·simp (maxSteps:=4000000)(disch:=first|assumption|(simp only[dz];first|done|assumption|omega)|omega|apply_rules[Fr.refl,Fr.alloc,Fr.drew]|rfl) only [↓gsd,gs,gv,Nat.reduceAdd,Nat.reduceEqDiff, encStp]
  ·have d : decide ((i : Int) < (ra.length : Int)) = false := decide_eq_false (by omega)
   have := hK _ hf
   rw [decide_eq_true (list_eq_of (by simp [hl]) (fun j hj => heq j (by simp at hj; omega)))] at this
   simp (maxSteps:=4000000)(disch:=first|assumption|(simp only[dz];first|done|assumption|omega)|omega|apply_rules[Fr.refl,Fr.alloc,Fr.drew]|rfl) only [↓gd,gp,Nat.reduceAdd,Nat.reduceEqDiff, ↓hk11, e0, e1, e5, hva, d]
   exact this
 ·have dl : decide ((ra.length : Int) = (rb.length : Int)) = false := decide_eq_false (by omega)
  simp (maxSteps:=4000000)(disch:=first|assumption|(simp only[dz];first|done|assumption|omega)|omega|apply_rules[Fr.refl,Fr.alloc,Fr.drew]|rfl) only [↓gd,gp,Nat.reduceAdd,Nat.reduceEqDiff, ↓hk11, hva, hvb, dl]
  exact no (fun h => hl (by have := congrArg List.length h; simpa using this)) _ (Fr.refl _ _)
end Go.Proofs.YtbbjnplellanaaaDoor
